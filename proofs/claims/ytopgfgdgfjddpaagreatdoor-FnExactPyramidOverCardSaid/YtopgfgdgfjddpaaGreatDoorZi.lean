/-
  The texts Pt8, Pt9, Pt5, Pu1, Ts1, Ts2, Po9, Ts3, Ps1 in one. Conditions: as each part states them.
-/
import Derived.Test.YtopgfgdgfjddpaaGreatDoorZh
import Derived.Test.YtopgfgdgfjddpaaGreatDoorZe
import Derived.Test.YtopgfgdgfjddpaaGreatDoorZb
import Derived.Test.YtopgfgdgfjddpaaGreatDoorZg
/-
 The reference's parts of flags, walked.
-/
namespace Go.Proofs.YtopgfgdgfjddpaaGreatDoor.Vc
open Go.RowKit
structure NrR (w : World) (N n : Nat) (A3 : Option Addr) (os : List SlV) (rss : List (List SlV)) (Xs : List (List (List Int))) : Prop where
 top : RdR w A3 n os
 on : ∀ i, i < n → (os.getD i slNil).n = N
 row : ∀ i, i < n → RowsI w (os.getD i slNil).a N (rss.getD i []) (Xs.getD i [])
theorem NrR.later {w w' : World} {N n : Nat} {A3 : Option Addr} {os : List SlV} {rss : List (List SlV)} {Xs : List (List (List Int))} (h : NrR w N n A3 os rss Xs) (hb : Below w.heap.size w w') : NrR w' N n A3 os rss Xs := ⟨h.top.later hb, h.on, fun i hi => (h.row i hi).later hb⟩
theorem NrS.rd {w w' : World} {N n : Nat} {A3 : Option Addr} {c3 : Nat} {os : List SlV} {rss : List (List SlV)} {Xs : List (List (List Int))} (h : NrS w w' N n A3 c3 os rss Xs) : NrR w' N n A3 os rss Xs := ⟨h.st.rdR 0 rfl, h.on, fun _ hi => h.mat hi⟩
open Classical in
theorem nbsP_mem {n : Nat} {fl : List (List Int)} {i a : Nat} {y : Int} : y ∈ nbsP n fl i a ↔ ∃ y' : Nat, y = y' ∧ y' < fl.length ∧ AdjP n fl i a y' ∧ y' ≠ a := by
 unfold nbsP
 rw [List.mem_map]
 constructor
 ·rintro ⟨y', h, rfl⟩
  rw [List.mem_filter, List.mem_range, decide_eq_true_eq] at h
  exact ⟨y', O, h.1, h.2⟩
 rintro ⟨y', rfl, h1, h2⟩
 exact ⟨y', by rw [List.mem_filter, List.mem_range, decide_eq_true_eq]; exact ⟨h1, h2⟩, O⟩
def bitS (mask : Nat) (i : Nat) : Prop := mask / 2 ^ i % 2 = 1
set_option maxHeartbeats 4000000 in
theorem l03Linked_c (A3 : Option Addr) (c3 : Nat) (os : List SlV) (rss : List (List SlV)) (fl : List (List Int)) (n N mask : Nat) (w : World) (hfl : fl.length = N) (hR : NrR w N n A3 os rss (nrL n fl N 0 0)) (hm : mask ≤ 32) (hN : N ≤ 400) (hn : n ≤ 5) :
  Ret Tryz.prog 204 [.slice A3 n c3, .int .i64 N, .int .i64 mask] w (fun v w' => ∃ A' c' L, v = .slice A' N c' ∧ LblP N (LnkP n fl (bitS mask)) N L ∧ St w w' [CkI 2 A' N c' L]) := by
 have hPer : Per N (LnkP n fl (bitS mask)) := hfl ▸ LnkP.per n fl (bitS mask)
 have hX : ∀ i x : Nat, i < n → x < N → gl ((nrL n fl N 0 0).getD i []) (x : Int) = nbsP n fl i x := fun i x hi hx => by
  rw [nrL_at hi, nrM_at (by omega)]
  unfold nrC
  rw [if_pos hx, nbE_all]
 have hxl : ∀ i, i < n → ((nrL n fl N 0 0).getD i []).length = N := fun i hi => by rw [nrL_at hi, nrM_len, hfl]
 have hnl : ∀ i x, (nbsP n fl i x).length ≤ N := fun i x => by rw [← nbE_all, ← hfl]; exact nbE_len ..
 generalize nrL n fl N 0 0 = Xs at *
 refine Ret.of_cd Tryz.func204 O Tryz.ntmps204 O (post1 O) (Gbo O (Ops.bs0 (St.refl w) O ?_))
 intro A7 w1 hS1
 refine Gdc O ?_
 refine Cd.loop (α := Nat × Option Addr × Nat) (fun z => [(0, .slice A3 n c3), (1, .int .i64 (N : Int)), (2, .int .i64 (mask : Int)), (7, .slice z.2.1 z.1 z.2.2), (8, .int .i64 (z.1 : Int))]) (fun z w' => z.1 ≤ N ∧ St w w' [CkI 2 z.2.1 z.1 z.2.2 (List.replicate z.1 (-1))]) (fun z => N - z.1) (0, A7, 0) ⟨O, O, O, O, O, trivial⟩ ⟨Nat.zero_le _, hS1⟩ ?_
 clear hS1
 rintro ⟨i, A7, c7⟩ e w2 ⟨hi, hS⟩
 dsimp only at hi hS ⊢
 refine Gbc O ?_
 refine Cd.cond_p _ O (fun h1 => ?_) (fun h1 => ?_)
 ·refine Gao O (Ops.bs1I (i := -1) hS O O O ?_)
  intro A9 w3 hS3
  refine Ops.appI 1 hS3 O (hS3.rdI 0 O) O O O (by omega) (by omega) O ?_
  intro AZ cZ w4 hS4
  have hS4 := hS4.tail
  refine Gdo O (Ops.add O O O (by omega) (Gdn O (tQ ?_)))
  exact ⟨(i + 1, AZ, cZ), by show N - (i + 1) < N - i; omega, ⟨O, O, O, O, O, trivial⟩, by show i + 1 ≤ N; omega, by show St w w4 [CkI _ AZ (i + 1) cZ (List.replicate (i + 1) (-1))]; rw [List.replicate_succ']; exact hS4⟩
 obtain rfl : i = N := by omega
 refine Gax O (thenQ_x (Gfc O ?_))
 refine Cd.loop (α := Nat × List Int) (fun z => [(0, .slice A3 n c3), (1, .int .i64 (i : Int)), (2, .int .i64 (mask : Int)), (7, .slice A7 i c7), (9, .int .i64 (z.1 : Int))]) (fun z w' => z.1 ≤ i ∧ LblP i (LnkP n fl (bitS mask)) z.1 z.2 ∧ St w w' [CkI 2 A7 i c7 z.2]) (fun z => i - z.1) (0, List.replicate i (-1)) ⟨O, O, O, O, O, trivial⟩ ⟨Nat.zero_le _, LblP.zero _ _, hS⟩ ?_
 clear hS
 rintro ⟨f, L0⟩ e w3 ⟨hf, hL0, hS⟩
 dsimp only at hf hL0 hS ⊢
 have hLl := hL0.1
 refine Gbc O ?_
 refine Cd.cond_p _ O (fun h1 => ?_) (fun h1 => ?_)
 ·have hfN : f < i := by omega
  have hRL := hS.rdI 0 O
  have hKf : LnkP n fl (bitS mask) f f := .refl (by omega)
  refine Gao O (Ops.idx hRL.2 O O O (by omega) (by omega) (Ops.ld_int hRL O (by omega) O O (Gdc O ?_)))
  refine Cd.cond_p _ O (fun h2 => ?_) (fun h2 => ?_)
  ·refine Gao O (Ops.add O O O (by omega) (Gdn O (tQ ?_)))
   exact ⟨(f + 1, L0), by show i - (f + 1) < i - f; omega, ⟨O, O, O, O, O, trivial⟩, by show f + 1 ≤ i; omega, hL0.skip hPer hfN (.inl h2), hS⟩
  have h0 : gi L0 (f : Int) < 0 := by omega
  refine Gao O (Ops.idx hRL.2 O O O (by omega) (by omega) (Ops.st_int 0 hS O O O (by omega) ?_))
  intro w4 hS4
  have hS4 : St w w4 [CkI 2 A7 i c7 (L0.set f (f : Int))] := hS4
  refine Gdo O (Ops.bs1I hS4 O O O ?_)
  intro A10 w5 hS5
  have hSr := Srch.start (A := AdS n fl (bitS mask)) hLl hfN h0 hKf
  refine Gdc O ?_
  refine Cd.loop (α := Nat × List Int × List Nat × Option Addr × Nat) (fun z => [(0, .slice A3 n c3), (1, .int .i64 (i : Int)), (2, .int .i64 (mask : Int)), (7, .slice A7 i c7), (9, .int .i64 (f : Int)), (10, .slice z.2.2.2.1 z.2.2.1.length z.2.2.2.2), (11, .int .i64 (z.1 : Int))]) (fun z w' => Srch i (LnkP n fl (bitS mask)) (AdS n fl (bitS mask)) f L0 z.2.1 z.2.2.1 z.1 ∧ St w w' [CkI 2 z.2.2.2.1 z.2.2.1.length z.2.2.2.2 (intL z.2.2.1), CkI 2 A7 i c7 z.2.1]) (fun z => i + 1 - z.1) (0, L0.set f (f : Int), [f], A10, 1) ⟨O, O, O, O, O, O, O, trivial⟩ ⟨hSr, hS5⟩ ?_
  clear hS5 hS4 hS hRL hSr
  rintro ⟨k, L, Q, Ao, co⟩ e w6 ⟨hSr, hS⟩
  dsimp only at hSr hS ⊢
  have hql := hSr.qlen
  have hkl := hSr.kle
  refine Gbo O (Ops.len O O (Gdc O ?_))
  refine Cd.cond_p _ O (fun h3 => ?_) (fun h3 => ?_)
  ·have hkQ : k < Q.length := by omega
   obtain ⟨x, hx⟩ : ∃ x, Q.getD k 0 = x := ⟨_, rfl⟩
   have hxQ : x ∈ Q := by rw [← hx, List.getD_eq_getElem?_getD, List.getElem?_eq_getElem hkQ]; exact List.getElem_mem _
   have hxi := hSr.in_ x hxQ
   refine Gac O ?_
   refine Cd.loop (α := Nat × List Int × List Nat × Option Addr × Nat) (fun z => [(0, .slice A3 n c3), (1, .int .i64 (i : Int)), (2, .int .i64 (mask : Int)), (7, .slice A7 i c7), (9, .int .i64 (f : Int)), (10, .slice z.2.2.2.1 z.2.2.1.length z.2.2.2.2), (11, .int .i64 (k : Int)), (12, .int .i64 (z.1 : Int))]) (fun z w' => z.1 ≤ n ∧ Srch i (LnkP n fl (bitS mask)) (AdS n fl (bitS mask)) f L0 z.2.1 z.2.2.1 k ∧ (k < z.2.2.1.length ∧ z.2.2.1.getD k 0 = x) ∧ (∀ q y : Nat, q < z.1 → ¬ bitS mask q → AdjP n fl q x y → y ≠ x → 0 ≤ gi z.2.1 (y : Int)) ∧ St w w' [CkI 2 z.2.2.2.1 z.2.2.1.length z.2.2.2.2 (intL z.2.2.1), CkI 2 A7 i c7 z.2.1]) (fun z => n - z.1) (0, L, Q, Ao, co) ⟨O, O, O, O, O, O, O, O, trivial⟩ ⟨Nat.zero_le _, hSr, ⟨hkQ, hx⟩, fun q y h => absurd h (Nat.not_lt_zero _), hS⟩ ?_
   clear hS hSr hx hxQ hkQ hql hkl h3
   rintro ⟨r, Li, Qi, Ao, co⟩ e w7 ⟨hr, hSr, ⟨hkQ, hx⟩, hdn, hS⟩
   dsimp only at hr hSr hkQ hx hdn hS ⊢
   refine Gbo O (Ops.len O O (Gdc O ?_))
   refine Cd.cond_p _ O (fun h4 => ?_) (fun h4 => ?_)
   ·have hrn : r < n := by omega
    refine Gao O (Ops.convK O O (wrap_u64_in _ (by omega)) (Ops.shrN O O (by omega) hm O (Ops.andN O O (Nat.le_trans (Nat.div_le_self _ _) hm) O (Gdc O ?_))))
    refine Cd.cond_p _ O (fun h5 => ?_) (fun h5 => ?_)
    ·have hb : bitS mask r := by unfold bitS; omega
     refine Gao O (Ops.add O O O (by omega) (Gdn O (tQ ?_)))
     exact ⟨(r + 1, Li, Qi, Ao, co), by show n - (r + 1) < n - r; omega, ⟨O, O, O, O, O, O, O, O, trivial⟩, by show r + 1 ≤ n; omega, hSr, ⟨hkQ, hx⟩, fun q y hq hs ha hne => by
      by_cases eq : q = r
      ·subst eq; exact absurd hb hs
      exact hdn q y (by have hq : q < r + 1 := hq; omega) hs ha hne, hS⟩
    have hb : ¬ bitS mask r := by unfold bitS; omega
    have hRr := hR.later hS.below
    have hon := hR.on r hrn
    have hmt := hRr.row r hrn
    have hxr := hX r x hrn hxi.1
    have hXl := hxl r hrn
    have hnbl := hnl r x
    have hrd : ∀ {w' : World} {ks : List Ck}, St w w' ks → RdI w' (rg (rss.getD r []) (x : Int)).a (rg (rss.getD r []) (x : Int)).n (nbsP n fl r x) := fun h => by
     have h9 := ((hR.later h.below).row r hrn).at_ (i := (x : Int)) (by omega) (by omega)
     rw [hxr] at h9; exact h9
    obtain ⟨oa, oc, ho⟩ : ∃ oa oc, os.getD r slNil = ⟨oa, i, oc⟩ := ⟨(os.getD r slNil).a, (os.getD r slNil).c, by rw [← hon]⟩
    have hov : (os.getD r slNil).v = .slice oa i oc := by rw [ho]; rfl
    rw [ho] at hmt
    generalize hXr : Xs.getD r [] = Xr at *
    generalize hrr : rss.getD r [] = rr at *
    have hro := hmt.at_ (i := (x : Int)) (by omega) (by omega)
    rw [hxr] at hro
    have hyl := hro.1
    have hgo : gi (intL Qi) (k : Int) = (x : Int) := by rw [intL_at hkQ, hx]
    have hql := hSr.qlen
    have hRo := hS.rdI 0 O
    have hdl : (intL Qi).length = Qi.length := by simp [intL]
    refine Gac O ?_
    refine Cd.draw [xS (A3) (n) (c3), xI ((r : Int)), xP (ptrAt A3 ((r : Int)).toNat), xS (oa) (i) (oc), xS (Ao) (Qi.length) (co), xI ((k : Int)), xP (ptrAt (Ao) ((k : Int)).toNat), xI ((x : Int)), xP (ptrAt (oa) ((x : Int)).toNat), xS ((rg (rr) ((x : Int))).a) ((rg (rr) ((x : Int))).n) ((rg (rr) ((x : Int))).c), xS ((rg (rr) ((x : Int))).a) ((rg (rr) ((x : Int))).n) ((rg (rr) ((x : Int))).c)] (by kernel_rfl) (by kernel_rfl) O (exL O) ?_ ?_
    ·exact ⟨Dr O, Dr O, fun _ _ hb _ _ => Ops.idx (hRr.top.later hb).2 O O O (by omega) (by omega) (Az O), fun _ _ hb _ _ => Ops.ld (hRr.top.later hb).2 (j := r) O (by omega) hov O O (Az O), Dr O, Dr O, fun _ _ hb _ _ => Ops.idx (hRo.later hb).2 O O O (by omega) (by omega) (Az O), fun _ _ hb _ _ => Ops.ld (hRo.later hb).2 (j := k) O (by omega) (by exact congrArg (Value.int .i64) hgo) O O (Az O), fun _ _ hb _ _ => Ops.idx (hmt.top.later hb).2 O O O (by omega) (by omega) (Az O), fun _ _ hb _ _ => Ops.ld_sl (hmt.top.later hb) O (by omega) O O (Az O), Dr O, trivial⟩
    intro u w8 hb8 _
    have hS8 := hS.later hb8
    clear hmt hRr hRo hS
    obtain ⟨sx, hsx⟩ : ∃ sx, rg rr (x : Int) = sx := ⟨_, rfl⟩
    rw [hsx] at hyl ⊢
    simp only [hsx] at hrd
    obtain ⟨ys, hys⟩ : ∃ ys, nbsP n fl r x = ys := ⟨_, rfl⟩
    simp only [hys] at hrd
    rw [hys] at hyl hnbl
    have hadj : ∀ y ∈ ys, ∃ y' : Nat, y = y' ∧ y' < i ∧ AdjP n fl r x y' ∧ y' ≠ x := fun y hy => by
     rw [← hys] at hy
     rw [← hfl]
     exact nbsP_mem.1 hy
    refine Gec O ?_
    refine Cd.loop (α := Nat × List Int × List Nat × Option Addr × Nat) (fun z => [(0, .slice A3 n c3), (1, .int .i64 (i : Int)), (2, .int .i64 (mask : Int)), (7, .slice A7 i c7), (9, .int .i64 (f : Int)), (10, .slice z.2.2.2.1 z.2.2.1.length z.2.2.2.2), (11, .int .i64 (k : Int)), (12, .int .i64 (r : Int)), (13, .slice sx.a sx.n sx.c), (14, .int .i64 (z.1 : Int))]) (fun z w' => z.1 ≤ sx.n ∧ Srch i (LnkP n fl (bitS mask)) (AdS n fl (bitS mask)) f L0 z.2.1 z.2.2.1 k ∧ (k < z.2.2.1.length ∧ z.2.2.1.getD k 0 = x) ∧ (∀ p : Nat, p < z.1 → 0 ≤ gi z.2.1 (gi ys (p : Int))) ∧ (∀ y : Nat, 0 ≤ gi Li (y : Int) → 0 ≤ gi z.2.1 (y : Int)) ∧ St w w' [CkI 2 z.2.2.2.1 z.2.2.1.length z.2.2.2.2 (intL z.2.2.1), CkI 2 A7 i c7 z.2.1]) (fun z => sx.n - z.1) (0, Li, Qi, Ao, co) ⟨O, O, O, O, O, O, O, O, O, O, trivial⟩ ⟨Nat.zero_le _, hSr, ⟨hkQ, hx⟩, fun p h => absurd h (Nat.not_lt_zero _), fun y h => h, hS8⟩ ?_
    clear hS8 hSr hkQ hx hgo hdl hql
    rintro ⟨q, L, Q, Ao, co⟩ e w12 ⟨hq, hSr, ⟨hkQ, hx⟩, hlab, hmono, hS⟩
    dsimp only at hq hSr hkQ hx hlab hmono hS ⊢
    have hql := hSr.qlen
    have hLl2 := hSr.len
    refine Gbo O (Ops.len O O (Gdc O ?_))
    refine Cd.cond_p _ O (fun h6 => ?_) (fun h6 => ?_)
    ·have hqy : q < ys.length := by omega
     have hry := hrd hS
     obtain ⟨y, hy, hyN, hya, hyne⟩ := hadj _ (gi_in hqy)
     have hRL := hS.rdI 1 O
     refine Gao O (Ops.idx hry.2 O O O (by omega) (by omega) (Ops.ld_int hry O (by omega) O O ?_))
     rw [hy]
     refine Ops.idx hRL.2 O O O (by omega) (by omega) (Ops.ld_int hRL O (by omega) O O (Gdc O ?_))
     refine Cd.cond_p _ O (fun h7 => ?_) (fun h7 => ?_)
     ·have hmt := hSr.meet hyN h7 (hPer.trn _ _ _ hxi.2.2 (AdS.link ⟨r, hrn, hb, hya, hyne⟩))
      refine Gao O (Ops.idx hry.2 O O O (by omega) (by omega) (Ops.ld_int hry O (by omega) O O ?_))
      rw [hy]
      refine Gdo O (Ops.idx hRL.2 O O O (by omega) (by omega) (Ops.st_int 1 hS O O O (by omega) ?_))
      intro w13 hS13
      have hry := hrd hS13
      refine Gdo O (Ops.idx hry.2 O O O (by omega) (by omega) (Ops.ld_int hry O (by omega) O O ?_))
      rw [hy]
      refine Ops.bs1I hS13 O O O ?_
      intro A9 w14 hS14
      refine Ops.appI 1 hS14 O (hS14.rdI 0 O) O O O (by omega) (by omega) O ?_
      intro AZ cZ w15 hS15
      have hS15 := hS15.tail
      have hlq : (Q ++ [y]).length = Q.length + 1 := by simp
      refine Gdo O (Ops.add O O O (by omega) (Gdn O (tQ ?_)))
      refine ⟨(q + 1, L.set y (f : Int), Q ++ [y], AZ, cZ), by show sx.n - (q + 1) < sx.n - q; omega, ⟨O, O, O, O, O, congrArg (fun m => Value.slice AZ m cZ) hlq.symm, O, O, O, O, trivial⟩, by show q + 1 ≤ sx.n; omega, hmt, ⟨by show k < (Q ++ [y]).length; omega, by show (Q ++ [y]).getD k 0 = x; rw [getD_app hkQ, hx]⟩, fun p hp => ?_, fun z hz => gi_set_ge (hmono z hz), ?_⟩
      ·by_cases ep : p = q
       ·subst ep
        rw [hy]
        have h9 := gi_set_eq (L := L) (y := y) (f := f) (by omega)
        show 0 ≤ gi (L.set y (f : Int)) (y : Int)
        omega
       have hp : p < q + 1 := hp
       obtain ⟨y9, hy9, _, _⟩ := hadj _ (gi_in (show p < ys.length by omega))
       have h9 := hlab p (by omega)
       rw [hy9] at h9 ⊢
       exact gi_set_ge h9
      show St w w15 [CkI _ AZ (Q ++ [y]).length cZ (intL (Q ++ [y])), _]
      rw [hlq, show intL (Q ++ [y]) = intL Q ++ [(y : Int)] by simp [intL]]
      exact hS15
     refine Gao O (Ops.add O O O (by omega) (Gdn O (tQ ?_)))
     refine ⟨(q + 1, L, Q, Ao, co), by show sx.n - (q + 1) < sx.n - q; omega, ⟨O, O, O, O, O, O, O, O, O, O, trivial⟩, by show q + 1 ≤ sx.n; omega, hSr, ⟨hkQ, hx⟩, fun p hp => ?_, hmono, hS⟩
     by_cases ep : p = q
     ·subst ep
      rw [hy]
      show 0 ≤ gi L (y : Int)
      omega
     have hp : p < q + 1 := hp
     exact hlab p (by omega)
    have hall : ∀ y : Nat, (y : Int) ∈ ys → 0 ≤ gi L (y : Int) := fun y hy => by
     obtain ⟨p, hp, e9⟩ := List.mem_iff_getElem.1 hy
     rw [← gi_mem hp] at e9
     have := hlab p (by omega)
     rwa [e9] at this
    refine Gax O (thenQ_x (Gfo O (Ops.add O O O (by omega) (Gdn O (tQ ?_)))))
    refine ⟨(r + 1, L, Q, Ao, co), by show n - (r + 1) < n - r; omega, ⟨O, O, O, O, O, O, O, O, trivial⟩, by show r + 1 ≤ n; omega, hSr, ⟨hkQ, hx⟩, fun q' y hq' hs ha hne => ?_, hS⟩
    by_cases eq : q' = r
    ·subst eq
     exact hall y (by rw [← hys]; exact nbsP_mem.2 ⟨y, O, ha.2.1, ha, hne⟩)
    exact hmono y (hdn q' y (by have hq' : q' < r + 1 := hq'; omega) hs ha hne)
   have hre : r = n := by omega
   have hql := hSr.qlen
   have hnext := hSr.next hkQ fun y hy => by
    rw [hx] at hy
    obtain ⟨q, hq, hs, ha, hne⟩ := hy
    exact hdn q y (by omega) hs ha hne
   refine Gax O (thenQ_x (Gfo O (Ops.add O O O (by omega) (Gdn O (tQ ?_)))))
   exact ⟨(k + 1, Li, Qi, Ao, co), by show i + 1 - (k + 1) < i + 1 - k; have := hSr.qlen; omega, ⟨O, O, O, O, O, O, O, trivial⟩, hnext, hS⟩
  have hkQ : k = Q.length := by omega
  subst hkQ
  have hend := hSr.end_ hPer hL0 hfN h0 (fun S hS1 hS2 => LnkP.ind S hS1 hS2) (fun x y h => h.link)
  refine Gax O (thenQ_x (Gfo O (Ops.add O O O (by omega) (Gdn O (tQ ?_)))))
  exact ⟨(f + 1, L), by show i - (f + 1) < i - f; omega, ⟨O, O, O, O, O, trivial⟩, by show f + 1 ≤ i; omega, hend, hS.tail⟩
 have hfe : f = i := by omega
 rw [hfe] at hL0
 refine Gax O (thenQ_x (Gfr O ?_))
 refine ret1_s O ?_
 exact ⟨A7, c7, L0, O, hL0, hS⟩
/-
 The reference's test of strong connection, walked.
-/
theorem LnkP.cv {n : Nat} {fl : List (List Int)} {S S' : Nat → Prop} (hS : ∀ k, k < n → (S k ↔ S' k)) {u v : Nat} (h : LnkP n fl S u v) : LnkP n fl S' u v := by
 induction h with
 | refl h => exact .refl h
 | step _ hi hs had ih => exact .step ih hi (fun h => hs ((hS _ hi).2 h)) had
def mskP (a b : List Int) : Nat → Nat
 | 0 => 0
 | i + 1 => if gi a (i : Int) = gi b (i : Int) then mskP a b i + 2 ^ i else mskP a b i
theorem mskP_lt (a b : List Int) : ∀ i, mskP a b i < 2 ^ i
 | 0 => Nat.one_pos
 | i + 1 => by
  have := mskP_lt a b i
  unfold mskP
  rw [Nat.pow_succ]
  split <;> omega
theorem bitS_test {m i : Nat} : bitS m i ↔ m.testBit i = true := by
 unfold bitS
 rw [Nat.testBit_eq_decide_div_mod_eq, decide_eq_true_eq]
theorem mskP_bit (a b : List Int) : ∀ {m i : Nat}, i < m → (bitS (mskP a b m) i ↔ gi a (i : Int) = gi b (i : Int))
 | 0, i, h => absurd h (Nat.not_lt_zero _)
 | m + 1, i, h => by
  have hlt := mskP_lt a b m
  rw [bitS_test]
  unfold mskP
  by_cases e : i = m
  ·subst e
   have hf := Nat.testBit_lt_two_pow hlt
   split
   ·rename_i c
    rw [Nat.add_comm, Nat.testBit_two_pow_add_eq, hf]
    exact ⟨fun _ => c, fun _ => O⟩
   ·rename_i c
    rw [hf]
    exact ⟨fun h => (by cases h), fun h => absurd h c⟩
  ·have ih := mskP_bit a b (m := m) (i := i) (by omega)
   rw [bitS_test] at ih
   split
   ·rw [Nat.add_comm, Nat.testBit_two_pow_add_gt (by omega)]; exact ih
   ·exact ih
set_option maxHeartbeats 4000000 in
theorem l03Parted_c (A : Option Addr) (N c : Nat) (rs : List SlV) (fl : List (List Int)) (n : Nat) (w : World) (hM : RowsI w A N rs fl) (hN0 : 0 < N) (hN : N ≤ 400) (hn : n ≤ 5) (hl : ∀ x ∈ fl, x.length = n) (hnd : fl.Nodup) :
  Ret Tryz.prog 145 [.slice A N c] w (fun v w' => ∃ A' n' c', v = .slice A' n' c' ∧ (n' = 0 ↔ ConP n fl) ∧ St w w' []) := by
 have hfl := hM.len
 have hgm : ∀ f : Nat, f < N → gl fl (f : Int) ∈ fl := fun f hf => by rw [gl_mem (by omega)]; exact List.getElem_mem _
 have hrow : ∀ f : Nat, f < N → (rg rs (f : Int)).n = n := fun f hf => by
  have := (hM.at_ (i := (f : Int)) (by omega) (by omega)).1
  rw [← this]; exact hl _ (hgm f hf)
 have h2n : 2 ^ n ≤ 32 := Nat.le_trans (Nat.pow_le_pow_right (by decide) hn) (by decide)
 refine Ret.of_cd Tryz.func145 O Tryz.ntmps145 O (post1 O) (Gbo O (Ops.call (l03Near_c A N c rs fl n w hM hN0 hN hn hl hnd) O O O ?_))
 rintro _ w1 ⟨A3, c3, os, rss, rfl, hNr⟩
 have hR := hNr.rd
 have hS0 := hNr.st.none
 have hM := hNr.st.oldRows hM
 clear hNr
 refine Ops.bs0 (St.refl w1) O ?_
 intro A4 w2 hS2
 refine Gdc O ?_
 refine Cd.loop (α := Nat × (Option Addr × Nat) × List SlV × List (List Int)) (fun z => [(0, .slice A N c), (3, .slice A3 n c3), (4, .slice z.2.1.1 z.1 z.2.1.2), (5, .int .i64 (z.1 : Int))]) (fun z w' => z.1 ≤ 2 ^ n ∧ z.2.2.1.length = z.1 ∧ z.2.2.2.length = z.1 ∧ (∀ q : Nat, q < z.1 → LblP N (LnkP n fl (bitS q)) N (gl z.2.2.2 (q : Int))) ∧ St w1 w' (mat 32 2 z.2.1.1 z.1 z.2.1.2 z.2.2.1 z.2.2.2 ++ [])) (fun z => 2 ^ n - z.1) (0, (A4, 0), [], []) ⟨O, O, O, O, trivial⟩ ⟨Nat.zero_le _, O, O, fun q h => absurd h (Nat.not_lt_zero _), hS2⟩ ?_
 clear hS2
 rintro ⟨m, ⟨A4, c4⟩, rs4, Ls⟩ e w3 ⟨hm, hrl, hLl, hLb, hS⟩
 dsimp only at hm hrl hLl hLb hS ⊢
 refine Gbo O (Ops.len O O ?_)
 refine Ops.convK O O (wrap_u64_in _ (by omega)) (Ops.shlN O O hn O (Gdc O ?_))
 refine Cd.cond_p _ O (fun h1 => ?_) (fun h1 => ?_)
 ·have hm2 : m < 2 ^ n := by omega
  refine Gao O (Ops.len O O (Gdo O ?_))
  refine Ops.call (l03Linked_c A3 c3 os rss fl n N m w3 hfl (hR.later hS.below) (by omega) hN hn) O O O ?_
  rintro _ w4 ⟨A9, c9, L, rfl, hL, hst⟩
  have hS4 := hS.call hst
  refine Ops.bs1R hS4 O O O ?_
  intro A8 w5 hS5
  refine Ops.appR 2 hS5 O (hS5.rdR 0 O) O O O (by omega) (by omega) O ?_
  intro AZ cZ w6 hS6
  have hS6 := hS6.tail
  have hS7 : St w1 w6 (CkI 2 A9 N c9 L :: CkR 32 AZ (m + 1) cZ (rs4 ++ [⟨A9, N, c9⟩]) :: (rowsCk 2 rs4 Ls ++ [])) := hS6
  have hS7 := hS7.perm (perm_j _ _ _ _)
  rw [← rowsCk_snoc (by omega)] at hS7
  refine Gdo O (Ops.add O O O (by omega) (Gdn O (tQ ?_)))
  refine ⟨(m + 1, (AZ, cZ), rs4 ++ [⟨A9, N, c9⟩], Ls ++ [L]), by show 2 ^ n - (m + 1) < 2 ^ n - m; omega, ⟨O, O, O, O, trivial⟩, by show m + 1 ≤ 2 ^ n; omega, by simp [hrl], by simp [hLl], fun q hq => ?_, (by exact hS7)⟩
  have hq : q < m + 1 := hq
  have e9 : gl (Ls ++ [L]) (q : Int) = if q < m then gl Ls (q : Int) else L := by
   rw [gl_mem (by simp; omega)]
   by_cases c : q < m
   ·rw [if_pos c, gl_mem (by omega), List.getElem_append_left (by omega)]
   obtain rfl : q = m := by omega
   rw [if_neg c]; simp [hLl]
  show LblP N _ N (gl (Ls ++ [L]) (q : Int))
  rw [e9]
  split
  ·exact hLb q (by assumption)
  obtain rfl : q = m := by omega
  exact hL
 have hme : m = 2 ^ n := by omega
 have hRM : RowsI w3 A4 m rs4 Ls := by
  rw [List.append_nil] at hS
  exact hS.rowsI1 hLl
 have hM3 := hM.later hS.below
 have hS3 := hS0.later hS.below
 clear hS hR hM hS0
 refine Gax O (thenQ_x (Gfc O ?_))
 refine Cd.loop (α := Nat) (fun a => [(0, .slice A N c), (4, .slice A4 m c4), (6, .int .i64 (a : Int))]) (fun a w' => a ≤ N ∧ (∀ a' b' : Nat, a' < a → a' < b' → b' < N → LnkP n fl (fun k => gi (gl fl (a' : Int)) (k : Int) = gi (gl fl (b' : Int)) (k : Int)) a' b') ∧ St w3 w' []) (fun a => N - a) 0 ⟨O, O, O, trivial⟩ ⟨Nat.zero_le _, fun a' b' h => absurd h (Nat.not_lt_zero _), St.refl _⟩ ?_
 rintro a e w4 ⟨ha, hda, hS⟩
 refine Gbo O (Ops.len O O (Gdc O ?_))
 refine Cd.cond_p _ O (fun h2 => ?_) (fun h2 => ?_)
 ·have haN : a < N := by omega
  refine Gao O (Ops.add O O O (by omega) (Gdc O ?_))
  refine Cd.loop (α := Nat) (fun b => [(0, .slice A N c), (4, .slice A4 m c4), (6, .int .i64 (a : Int)), (7, .int .i64 (b : Int))]) (fun b w' => (a < b ∧ b ≤ N) ∧ (∀ b' : Nat, a < b' → b' < b → LnkP n fl (fun k => gi (gl fl (a : Int)) (k : Int) = gi (gl fl (b' : Int)) (k : Int)) a b') ∧ St w3 w' []) (fun b => N - b) (a + 1) ⟨O, O, O, O, trivial⟩ ⟨⟨Nat.lt_succ_self _, haN⟩, fun b' h h' => by omega, hS⟩ ?_
  clear hS
  rintro b e w5 ⟨⟨hab, hbN⟩, hdb, hS⟩
  refine Gbo O (Ops.len O O (Gdc O ?_))
  refine Cd.cond_p _ O (fun h3 => ?_) (fun h3 => ?_)
  ·have hb : b < N := by omega
   have hna := hrow a haN
   have hnb := hrow b hb
   refine Gac O ?_
   refine Cd.loop (α := Nat) (fun i => [(0, .slice A N c), (4, .slice A4 m c4), (6, .int .i64 (a : Int)), (7, .int .i64 (b : Int)), (8, .int .i64 ((mskP (gl fl (a : Int)) (gl fl (b : Int)) i : Nat) : Int)), (9, .int .i64 (i : Int))]) (fun i w' => i ≤ n ∧ St w3 w' []) (fun i => n - i) 0 ⟨O, O, O, O, O, O, trivial⟩ ⟨Nat.zero_le _, hS⟩ ?_
   clear hS
   rintro i e w6 ⟨hi, hS⟩
   have hM6 := hM3.later hS.below
   have hra := hM6.at_ (i := (a : Int)) (by omega) (by omega)
   have hrb := hM6.at_ (i := (b : Int)) (by omega) (by omega)
   have hla := hra.1; have hlb := hrb.1
   have hms := mskP_lt (gl fl (a : Int)) (gl fl (b : Int)) i
   have h2i : 2 ^ i ≤ 32 := Nat.le_trans (Nat.pow_le_pow_right (by decide) (show i ≤ 5 by omega)) (by decide)
   refine Gbo O (Ops.idx hM6.top.2 O O O (by omega) (by omega) (Ops.ld_sl hM6.top O (by omega) O O ?_))
   refine Ops.len O O (Gdc O ?_)
   refine Cd.cond_p _ O (fun h4 => ?_) (fun h4 => ?_)
   ·have hin : i < n := by omega
    refine Gac O ?_
    refine Cd.draw [xS (A) (N) (c), xI ((a : Int)), xP (ptrAt (A) ((a : Int)).toNat), xS ((rg (rs) ((a : Int))).a) ((rg (rs) ((a : Int))).n) ((rg (rs) ((a : Int))).c), xI ((i : Int)), xP (ptrAt ((rg (rs) ((a : Int))).a) ((i : Int)).toNat), xI (gi (gl fl (a : Int)) ((i : Int))), xS (A) (N) (c), xI ((b : Int)), xP (ptrAt (A) ((b : Int)).toNat), xS ((rg (rs) ((b : Int))).a) ((rg (rs) ((b : Int))).n) ((rg (rs) ((b : Int))).c), xI ((i : Int)), xP (ptrAt ((rg (rs) ((b : Int))).a) ((i : Int)).toNat), xI (gi (gl fl (b : Int)) ((i : Int))), xB (decide ((gi (gl fl (a : Int)) ((i : Int))) = (gi (gl fl (b : Int)) ((i : Int)))))] (by kernel_rfl) (by kernel_rfl) O (exL O) ?_ ?_
    ·exact ⟨Dr O, Dr O, fun _ _ hb _ _ => Ops.idx (hM6.top.later hb).2 O O O (by omega) (by omega) (Az O), fun _ _ hb _ _ => Ops.ld_sl (hM6.top.later hb) O (by omega) O O (Az O), Dr O, fun _ _ hb _ _ => Ops.idx (hra.later hb).2 O O O (by omega) (by omega) (Az O), fun _ _ hb _ _ => Ops.ld_int (hra.later hb) O (by omega) O O (Az O), Dr O, Dr O, fun _ _ hb _ _ => Ops.idx (hM6.top.later hb).2 O O O (by omega) (by omega) (Az O), fun _ _ hb _ _ => Ops.ld_sl (hM6.top.later hb) O (by omega) O O (Az O), Dr O, fun _ _ hb _ _ => Ops.idx (hrb.later hb).2 O O O (by omega) (by omega) (Az O), fun _ _ hb _ _ => Ops.ld_int (hrb.later hb) O (by omega) O O (Az O), Dr O, trivial⟩
    intro u w7 hb7 _
    have hS7 := hS.later hb7
    refine Gec O ?_
    refine Cd.cond_p _ O (fun h5 => ?_) (fun h5 => ?_)
    ·have hmn : mskP (gl fl (a : Int)) (gl fl (b : Int)) (i + 1) = mskP (gl fl (a : Int)) (gl fl (b : Int)) i + 2 ^ i := by
      show (if _ then _ else _) = _
      rw [if_pos h5]
     refine Gao O (Ops.convK O O (wrap_u64_in _ (by omega)) (Ops.shlN O O (by omega) O ?_))
     refine Ops.add O O O (by omega) (Gdo O (Ops.add O O O (by omega) (Gdn O (tQ ?_))))
     exact ⟨i + 1, by show n - (i + 1) < n - i; omega, ⟨O, O, O, O, congrArg (fun m : Nat => Value.int .i64 (m : Int)) hmn.symm, O, trivial⟩, by omega, hS7⟩
    have hmn : mskP (gl fl (a : Int)) (gl fl (b : Int)) (i + 1) = mskP (gl fl (a : Int)) (gl fl (b : Int)) i := by
     show (if _ then _ else _) = _
     rw [if_neg h5]
    refine Gao O (Ops.add O O O (by omega) (Gdn O (tQ ?_)))
    exact ⟨i + 1, by show n - (i + 1) < n - i; omega, ⟨O, O, O, O, congrArg (fun m : Nat => Value.int .i64 (m : Int)) hmn.symm, O, trivial⟩, by omega, hS7⟩
   have hie : i = n := by omega
   subst hie
   obtain ⟨K, hK⟩ : ∃ K, mskP (gl fl (a : Int)) (gl fl (b : Int)) i = K := ⟨_, rfl⟩
   have hbit := fun k (hk : k < i) => mskP_bit (gl fl (a : Int)) (gl fl (b : Int)) hk
   rw [hK] at hms ⊢
   simp only [hK] at hbit
   have hRM6 := hRM.later hS.below
   have hrK := hRM6.at_ (i := (K : Int)) (by omega) (by omega)
   have hLK := hLb K (by omega)
   have hLKl := hLK.1
   have hrKn := hrK.1
   have hPer : Per N (LnkP i fl (bitS K)) := hfl ▸ LnkP.per i fl (bitS K)
   have hdne := hLK.done hPer (a := a) (b := b) (.refl (by omega)) (.refl (by omega))
   refine Gax O (thenQ_x (Gfc O ?_))
   refine Cd.draw [xS (A4) (m) (c4), xI ((K : Int)), xP (ptrAt (A4) ((K : Int)).toNat), xS ((rg (rs4) ((K : Int))).a) ((rg (rs4) ((K : Int))).n) ((rg (rs4) ((K : Int))).c), xI ((a : Int)), xP (ptrAt ((rg (rs4) ((K : Int))).a) ((a : Int)).toNat), xI (gi (gl Ls (K : Int)) ((a : Int))), xS (A4) (m) (c4), xI ((K : Int)), xP (ptrAt (A4) ((K : Int)).toNat), xS ((rg (rs4) ((K : Int))).a) ((rg (rs4) ((K : Int))).n) ((rg (rs4) ((K : Int))).c), xI ((b : Int)), xP (ptrAt ((rg (rs4) ((K : Int))).a) ((b : Int)).toNat), xI (gi (gl Ls (K : Int)) ((b : Int))), xB (decide (¬ (gi (gl Ls (K : Int)) ((a : Int))) = (gi (gl Ls (K : Int)) ((b : Int)))))] (by kernel_rfl) (by kernel_rfl) O (exL O) ?_ ?_
   ·exact ⟨Dr O, Dr O, fun _ _ hb _ _ => Ops.idx (hRM6.top.later hb).2 O O O (by omega) (by omega) (Az O), fun _ _ hb _ _ => Ops.ld_sl (hRM6.top.later hb) O (by omega) O O (Az O), Dr O, fun _ _ hb _ _ => Ops.idx (hrK.later hb).2 O O O (by omega) (by omega) (Az O), fun _ _ hb _ _ => Ops.ld_int (hrK.later hb) O (by omega) O O (Az O), Dr O, Dr O, fun _ _ hb _ _ => Ops.idx (hRM6.top.later hb).2 O O O (by omega) (by omega) (Az O), fun _ _ hb _ _ => Ops.ld_sl (hRM6.top.later hb) O (by omega) O O (Az O), Dr O, fun _ _ hb _ _ => Ops.idx (hrK.later hb).2 O O O (by omega) (by omega) (Az O), fun _ _ hb _ _ => Ops.ld_int (hrK.later hb) O (by omega) O O (Az O), Dr O, trivial⟩
   intro u w7 hb7 _
   have hS7 := hS.later hb7
   refine Gec O ?_
   refine Cd.cond_p _ O (fun h5 => ?_) (fun h5 => ?_)
   ·refine Gao O ?_
    refine Ops.bsL [(a : Int), (b : Int)] hS7 O O (by decide) (by decide) O O ?_
    intro A9 w8 hS8
    refine Gdr O (thenQ_r (Qk_ret (thenQ_r (Qk_ret ?_))))
    refine ret1_s O ?_
    exact ⟨A9, 2, 2, O, ⟨fun h => absurd h (by decide), fun h => absurd (hdne.2 ((h a b hab (by omega)).cv fun k hk => (hbit k hk).symm)) h5⟩, hS3.call hS8.none⟩
   have hok := (hdne.1 (Classical.not_not.1 h5)).cv hbit
   refine Gao O (Ops.add O O O (by omega) (Gdn O (tQ ?_)))
   exact ⟨b + 1, by show N - (b + 1) < N - b; omega, ⟨O, O, O, O, trivial⟩, ⟨by omega, by omega⟩, fun b' h6 h7 => by
    by_cases eb : b' = b
    ·subst eb; exact hok
    exact hdb b' h6 (by omega), hS7⟩
  refine Gax O (thenQ_x (Gfo O (Ops.add O O O (by omega) (Gdn O (tQ ?_)))))
  exact ⟨a + 1, by show N - (a + 1) < N - a; omega, ⟨O, O, O, trivial⟩, by omega, fun a' b' h4 h5 h6 => by
   by_cases ea : a' = a
   ·subst ea; exact hdb b' h5 (by omega)
   exact hda a' b' (by omega) h5 h6, hS⟩
 refine Gax O (thenQ_x (Gfo O ?_))
 refine Ops.bs0 hS O ?_
 intro A9 w8 hS8
 refine Gdr O (ret1_s O ?_)
 exact ⟨A9, 0, 0, O, ⟨fun _ a' b' h3 h4 => hda a' b' (by omega) h3 (by omega), fun _ => O⟩, hS3.call hS8.none⟩
/-
 The reference's test of diamonds, walked.
-/
theorem dec_nt {p : Prop} [Decidable p] (h : ¬ p) : true = decide (¬ p) := by simp [h]
theorem dec_nf {p : Prop} [Decidable p] (h : p) : false = decide (¬ p) := by simp [h]
theorem neqb_dec (p q : Prop) [Decidable p] [Decidable q] : (!(decide p == decide q)) = decide (¬ (p ↔ q)) := by
 by_cases hp : p <;> by_cases hq : q <;> simp [hp, hq]
instance (R : List Int) (i e : Int) : Decidable (LoP R i e) := by unfold LoP; infer_instance
instance (n : Int) (R : List Int) (i e : Int) : Decidable (HiP n R i e) := by unfold HiP; infer_instance
def midT (R : List Int) (B : List (List Int)) (i a b : Int) (m : Nat) : Nat := ((rngI m).filter fun d => decide (gi R d = i ∧ (a < 0 ∨ a ∈ gl B d) ∧ (b < 0 ∨ d ∈ gl B b))).length
theorem midT_next (R : List Int) (B : List (List Int)) (i a b : Int) (m : Nat) : midT R B i a b (m + 1) = if gi R (m : Int) = i ∧ (a < 0 ∨ a ∈ gl B (m : Int)) ∧ (b < 0 ∨ (m : Int) ∈ gl B b) then midT R B i a b m + 1 else midT R B i a b m := by
 have e9 : rngI (m + 1) = rngI m ++ [(m : Int)] := by
  unfold rngI
  rw [List.range_succ, List.map_append]; rfl
 unfold midT
 rw [e9, List.filter_append, List.length_append]
 by_cases c : gi R (m : Int) = i ∧ (a < 0 ∨ a ∈ gl B (m : Int)) ∧ (b < 0 ∨ (m : Int) ∈ gl B b)
 ·rw [if_pos c, List.filter_cons_of_pos (by simpa using c)]; rfl
 rw [if_neg c, List.filter_cons_of_neg (by simpa using c)]; rfl
theorem midT_le (R : List Int) (B : List (List Int)) (i a b : Int) (m : Nat) : midT R B i a b m ≤ m := by
 refine Nat.le_trans (List.length_filter_le _ _) ?_
 rw [rngI, List.length_map, List.length_range]; exact Nat.le_refl _
set_option maxHeartbeats 4000000 in
theorem l03Fault_c (n : Int) (A D : Option Addr) (cA cD : Nat) (R : List Int) (rs : List SlV) (B : List (List Int)) (w : World) (hR : RdI w A R.length R) (hB : RowsI w D B.length rs B) (hP : PosP n R B) :
  Ret Tryz.prog 144 [.agg #[.int .i64 n, .slice A R.length cA, .slice D B.length cD]] w (fun v w' => ∃ A' n' c', v = .slice A' n' c' ∧ (n' = 0 ↔ DiaP n R B) ∧ St w w' []) := by
 have hn := hP.n1
 have hbg := hP.big
 have hle := hP.len
 have hrl : ∀ e : Int, 0 ≤ e → e < R.length → (gl B e).length ≤ 500 := fun e h0 h => by
  have := nodup_le_int (N := R.length) (hP.at_ h0 h).1.nodup fun x hx => by have := ((hP.at_ h0 h).2.1 x hx).1; omega
  omega
 have hri := fun (e : Int) (h0 : 0 ≤ e) (h : e < (R.length : Int)) => hP.ri h0 h
 have hmid : ∀ i a b, midT R B i a b R.length = (MidP R B i a b).length := fun i a b => O
 obtain ⟨N, hN⟩ : ∃ N, R.length = N := ⟨_, rfl⟩
 have hLo : ∀ i a, LoP R i a ↔ ((a = -1 ∧ i = 0) ∨ ((0 ≤ a ∧ a < (N : Int)) ∧ 0 < i ∧ gi R a = i - 1)) := fun i a => by rw [← hN]; rfl
 have hHi : ∀ i b, HiP n R i b ↔ ((b = -1 ∧ i = n - 1) ∨ ((0 ≤ b ∧ b < (N : Int)) ∧ i < n - 1 ∧ gi R b = i + 1)) := fun i b => by rw [← hN]; rfl
 rw [hN] at hR hbg hle hrl hri hmid ⊢
 rw [hle] at hB ⊢
 refine Ret.of_cd Tryz.func144 O Tryz.ntmps144 O (post1 O) (Gbo O (Ops.box3T (St.refl w) O O ?_))
 intro A1 w1 hS1
 have h1 : Rd w1 A1 3 (fun j => [Value.int .i64 n, .slice A N cA, .slice D N cD].getD j undef) := hS1.rd 0 O
 have hR := hS1.oldI hR; have hB := hS1.oldRows hB
 have hS1 := hS1.none
 refine Gdo O (Ops.fld h1 O O O O inferInstance (Ops.ldf_s (j := 1) h1 (by exact congrArg Value.pointer O) O O O O ?_))
 refine Ops.len O O (Gdc O ?_)
 refine Cd.loop (α := Nat) (fun i => [(1, .pointer A1), (3, .int .i64 (N : Int)), (4, .int .i64 (i : Int))]) (fun i w' => w' = w1 ∧ (i : Int) ≤ n ∧ ∀ i' a b : Int, 0 ≤ i' → i' < (i : Int) → LoP R i' a → HiP n R i' b → (0 ≤ a → 0 ≤ b → a ∈ gl B b) → (MidP R B i' a b).length = 2) (fun i => n.toNat - i) 0 ⟨O, O, O, trivial⟩ ⟨O, by show ((0 : Nat) : Int) ≤ n; omega, fun i' a b h h' => by have h' : i' < ((0 : Nat) : Int) := h'; omega⟩ ?_
 rintro i e w2 ⟨rfl, hi, hdi⟩
 refine Gbo O (Ops.fld h1 O O O O inferInstance (Ops.ldf_i (j := 0) h1 (by exact congrArg Value.pointer O) O O O O (Gdc O ?_)))
 refine Cd.cond_p _ O (fun h2 => ?_) (fun h2 => ?_)
 ·refine Gac O ?_
  refine Cd.loop (α := Nat) (fun z => [(1, .pointer A1), (3, .int .i64 (N : Int)), (4, .int .i64 (i : Int)), (5, .int .i64 ((z : Int) - 1))]) (fun z w' => w' = w2 ∧ z ≤ N + 1 ∧ ∀ a b : Int, a < (z : Int) - 1 → LoP R i a → HiP n R i b → (0 ≤ a → 0 ≤ b → a ∈ gl B b) → (MidP R B i a b).length = 2) (fun z => N + 1 - z) 0 ⟨O, O, O, O, trivial⟩ ⟨O, Nat.zero_le _, fun a b h h' => by
   have h : a < ((0 : Nat) : Int) - 1 := h
   have := (hLo _ _).1 h'; omega⟩ ?_
  rintro z e w3 ⟨rfl, hz, hda⟩
  obtain ⟨a, ha⟩ : ∃ a : Int, (z : Int) - 1 = a := ⟨_, rfl⟩
  rw [ha] at hda ⊢
  refine Gbc O ?_
  refine Cd.cond_p _ O (fun h3 => ?_) (fun h3 => ?_)
  ·have hLa := hLo (i : Int) a
   have hnextA : ∀ a' b : Int, (a' = a → LoP R i a → HiP n R i b → (0 ≤ a → 0 ≤ b → a ∈ gl B b) → (MidP R B i a b).length = 2) → a' < ((z + 1 : Nat) : Int) - 1 → LoP R i a' → HiP n R i b → (0 ≤ a' → 0 ≤ b → a' ∈ gl B b) → (MidP R B i a' b).length = 2 := fun a' b h h' q1 q2 q3 => by
    by_cases ea : a' = a
    ·have h9 := h ea
     rw [ea] at q1 q3 ⊢
     exact h9 q1 q2 q3
    exact hda a' b (by omega) q1 q2 q3
   refine Gaj 4 O ?_
   refine Cd.join (α := Unit) (fun _ => [(1, .pointer A1), (3, .int .i64 (N : Int)), (4, .int .i64 (i : Int)), (5, .int .i64 a), (41, .bool (decide (¬ LoP R i a)))]) (fun _ w' => w' = w3) ?_ ?_
   ·refine Gbo O (Ops.neqB O O O ?_)
    rw [neqb_dec]
    refine Gdo O ?_
    refine Ops.split_p 28 O (fun p1 => ?_) (fun p1 => ?_)
    ·refine Ops.k O O O O O (Ops.k O O O O O (Ops.k O O O O O (Ops.skipu O O O O (Ops.skipu O O O O (Ops.skipu O O O O (Ops.skipu O O O O (Ops.skipu O O O O (Ops.skipu O O O O (Ops.skipu O O O O (Ops.skipu O O O O (Ops.k O O O O O ?_)))))))))))
     refine Gdn O (tQ ?_)
     exact ⟨(), ⟨O, O, O, O, congrArg Value.bool (dec_nt (fun h => p1 (by have := hLa.1 h; omega))), trivial⟩, O⟩
    refine Ops.g O O O (Gdo O (Ops.g O O O (Gdo O (Ops.g O O O (Gdo O ?_)))))
    refine Ops.split_p 31 O (fun p2 => ?_) (fun p2 => ?_)
    ·refine Ops.g O O O (Ops.fld h1 O O O O inferInstance (Ops.g O O O (Ops.ldf_s (j := 1) h1 (by exact congrArg Value.pointer O) O O O O ?_)))
     refine Ops.g O O O (Gdo O (Ops.g O O O ?_))
     refine Ops.idx hR.2 O O O (by omega) (by omega) (Ops.g O O O (Ops.ld_int hR O (by omega) O O ?_))
     refine Ops.g O O O (Gdo O (Ops.g O O O (Ops.sub O O O (by omega) (Ops.g O O O (Gdo O (Ops.g O O O (Gdn O (tQ ?_))))))))
     exact ⟨(), ⟨O, O, O, O, congrArg Value.bool (decide_eq_decide.2 ⟨fun h h' => by have := hLa.1 h'; omega, fun h h' => h (hLa.2 (.inr ⟨by omega, by omega, h'⟩))⟩), trivial⟩, O⟩
    refine Ops.k O O O O O (Ops.k O O O O O (Ops.k O O O O O (Ops.k O O O O O (Ops.k O O O O O (Ops.k O O O O O (Ops.k O O O O O (Ops.k O O O O O (Ops.g O O O (Gdn O (tQ ?_))))))))))
    exact ⟨(), ⟨O, O, O, O, congrArg Value.bool (dec_nf (hLa.2 (.inl (by omega)))), trivial⟩, O⟩
   rintro _ e w4 rfl
   refine Cd.cond_p _ O (fun h4 => ?_) (fun h4 => ?_)
   ·refine Gao O (Ops.add O O O (by omega) (Gdn O (tQ ?_)))
    exact ⟨z + 1, by show N + 1 - (z + 1) < N + 1 - z; omega, ⟨O, O, O, congrArg (Value.int .i64) (by show a + 1 = ((z + 1 : Nat) : Int) - 1; omega), trivial⟩, O, by omega, fun a' b => hnextA a' b fun _ h => absurd h h4⟩
   have hLoa : LoP R i a := Classical.not_not.1 h4
   refine Gac O ?_
   refine Cd.loop (α := Nat) (fun y => [(1, .pointer A1), (3, .int .i64 (N : Int)), (4, .int .i64 (i : Int)), (5, .int .i64 a), (6, .int .i64 ((y : Int) - 1))]) (fun y w' => w' = w4 ∧ y ≤ N + 1 ∧ ∀ b : Int, b < (y : Int) - 1 → HiP n R i b → (0 ≤ a → 0 ≤ b → a ∈ gl B b) → (MidP R B i a b).length = 2) (fun y => N + 1 - y) 0 ⟨O, O, O, O, O, trivial⟩ ⟨O, Nat.zero_le _, fun b h h' => by
    have h : b < ((0 : Nat) : Int) - 1 := h
    have := (hHi _ _).1 h'; omega⟩ ?_
   rintro y e w5 ⟨rfl, hy, hdb⟩
   obtain ⟨b, hb⟩ : ∃ b : Int, (y : Int) - 1 = b := ⟨_, rfl⟩
   rw [hb] at hdb ⊢
   refine Gbc O ?_
   refine Cd.cond_p _ O (fun h5 => ?_) (fun h5 => ?_)
   ·have hHb := hHi (i : Int) b
    have hnextB : (HiP n R i b → (0 ≤ a → 0 ≤ b → a ∈ gl B b) → (MidP R B i a b).length = 2) → ∀ b' : Int, b' < ((y + 1 : Nat) : Int) - 1 → HiP n R i b' → (0 ≤ a → 0 ≤ b' → a ∈ gl B b') → (MidP R B i a b').length = 2 := fun h b' h' q1 q2 => by
     by_cases eb : b' = b
     ·rw [eb] at q1 q2 ⊢
      exact h q1 q2
     exact hdb b' (by omega) q1 q2
    refine Gaj 4 O ?_
    refine Cd.join (α := Unit) (fun _ => [(1, .pointer A1), (3, .int .i64 (N : Int)), (4, .int .i64 (i : Int)), (5, .int .i64 a), (6, .int .i64 b), (86, .bool (decide (¬ (HiP n R i b ∧ (0 ≤ a → 0 ≤ b → a ∈ gl B b)))))]) (fun _ w' => w' = w5) ?_ ?_
    ·refine Gbo O (Ops.fld h1 O O O O inferInstance (Ops.ldf_i (j := 0) h1 (by exact congrArg Value.pointer O) O O O O ?_))
     refine Ops.sub O O O (by omega) (Gdo O ?_)
     refine Ops.neqB O O O ?_
     rw [neqb_dec]
     refine Gdo O ?_
     refine Ops.split_p 55 O (fun p1 => ?_) (fun p1 => ?_)
     ·refine Ops.k O O O O O (Ops.k O O O O O (Ops.k O O O O O (Ops.skipu O O O O (Ops.skipu O O O O (Ops.skipu O O O O (Ops.skipu O O O O (Ops.skipu O O O O (Ops.skipu O O O O (Ops.skipu O O O O (Ops.skipu O O O O (Ops.k O O O O O ?_)))))))))))
      refine Gdo O (Ops.k O O O O O (Ops.k O O O O O (Ops.k O O O O O (Ops.skipu O O O O (Ops.skipu O O O O (Ops.k O O O O O (Ops.k O O O O O (Ops.skipu O O O O (Ops.skipu O O O O (Ops.skipu O O O O (Ops.skipu O O O O ?_)))))))))))
      refine Ops.skipu O O O O (Ops.skipu O O O O (Ops.skipu O O O O (Ops.skipu O O O O (Ops.k O O O O O (Gdn O (tQ ?_))))))
      exact ⟨(), ⟨O, O, O, O, O, congrArg Value.bool (dec_nt (fun h => p1 (by have := hHb.1 h.1; omega))), trivial⟩, O⟩
     refine Ops.g O O O (Gdo O (Ops.g O O O (Gdo O (Ops.g O O O (Gdo O ?_)))))
     refine Ops.split_p 58 O (fun p2 => ?_) (fun p2 => ?_)
     ·have hrob := hB.at_ (i := b) (by omega) (by omega)
      have hrnb := hrob.1
      have hrlb := hrl b (by omega) (by omega)
      refine Ops.g O O O (Ops.fld h1 O O O O inferInstance (Ops.g O O O (Ops.ldf_s (j := 1) h1 (by exact congrArg Value.pointer O) O O O O ?_)))
      refine Ops.g O O O (Gdo O (Ops.g O O O ?_))
      refine Ops.idx hR.2 O O O (by omega) (by omega) (Ops.g O O O (Ops.ld_int hR O (by omega) O O ?_))
      have hrib := hri (b : Int) (by omega) (by omega)
      refine Ops.g O O O (Gdo O (Ops.g O O O (Ops.add O O O (by omega) (Ops.g O O O (Gdo O (Ops.g O O O (Gdo O ?_)))))))
      refine Ops.split_p 69 O (fun p3 => ?_) (fun p3 => ?_)
      ·refine Ops.k O O O O O (Ops.k O O O O O (Ops.k O O O O O (Ops.skipu O O O O (Ops.skipu O O O O (Ops.k O O O O O (Ops.k O O O O O (Ops.skipu O O O O (Ops.skipu O O O O (Ops.skipu O O O O (Ops.skipu O O O O (Ops.skipu O O O O ?_)))))))))))
       refine Ops.skipu O O O O (Ops.skipu O O O O (Ops.skipu O O O O (Ops.k O O O O O (Gdn O (tQ ?_)))))
       exact ⟨(), ⟨O, O, O, O, O, congrArg Value.bool (dec_nt (fun h => p3 (by have := hHb.1 h.1; omega))), trivial⟩, O⟩
      have hHib : HiP n R i b := hHb.2 (.inr ⟨by omega, by omega, by omega⟩)
      refine Ops.g O O O (Gdo O (Ops.g O O O (Gdo O (Ops.g O O O (Gdo O ?_)))))
      refine Ops.split_p 72 O (fun p4 => ?_) (fun p4 => ?_)
      ·refine Ops.g O O O (Gdo O (Ops.g O O O (Gdo O (Ops.g O O O (Gdo O (Ops.g O O O (Gdo O ?_)))))))
       refine Ops.split_p 76 O (fun p5 => ?_) (fun p5 => absurd p2 p5)
       refine Ops.g O O O (Ops.fld h1 O O O O inferInstance (Ops.g O O O (Ops.ldf_s (j := 2) h1 (by exact congrArg Value.pointer O) O O O O ?_)))
       refine Ops.g O O O (Gdo O (Ops.g O O O ?_))
       refine Ops.idx hB.top.2 O O O (by omega) (by omega) (Ops.g O O O (Ops.ld_sl hB.top O (by omega) O O ?_))
       refine Ops.g O O O (Gdo O (Ops.g O O O ?_))
       refine Ops.call (l01Has_c _ _ _ (gl B b) a _ hrob (by omega)) O O O ?_
       rintro _ w6 ⟨rfl, rfl⟩
       refine Ops.g O O O ?_
       first | refine Ops.not_p rfl rfl ?_ | refine Ops.not rfl rfl ?_
       refine Ops.g O O O (Gdn O (tQ ?_))
       exact ⟨(), ⟨O, O, O, O, O, congrArg Value.bool (decide_eq_decide.2 ⟨fun h h' => h (h'.2 p4 p2), fun h h' => h ⟨hHib, fun _ _ => h'⟩⟩), trivial⟩, O⟩
      refine Ops.k O O O O O (Ops.k O O O O O (Ops.g O O O (Gdo O (Ops.g O O O (Gdo O (Ops.k O O O O O (Ops.k O O O O O (Ops.k O O O O O (Ops.k O O O O O (Ops.k O O O O O (Ops.k O O O O O ?_)))))))))))
      refine Ops.k O O O O O (Ops.k O O O O O (Ops.g O O O (Gdn O (tQ ?_))))
      exact ⟨(), ⟨O, O, O, O, O, congrArg Value.bool (dec_nf ⟨hHib, fun h' => absurd h' p4⟩), trivial⟩, O⟩
     have hHib : HiP n R i b := hHb.2 (.inl (by omega))
     refine Ops.k O O O O O (Ops.k O O O O O (Ops.k O O O O O (Ops.k O O O O O (Ops.k O O O O O (Ops.k O O O O O (Ops.k O O O O O (Ops.k O O O O O (Ops.g O O O (Gdo O (Ops.g O O O (Gdo O ?_)))))))))))
     refine Ops.g O O O (Gdo O (Ops.g O O O (Gdo O ?_)))
     refine Ops.split_p 72 O (fun p4 => ?_) (fun p4 => ?_)
     ·refine Ops.g O O O (Gdo O (Ops.g O O O (Gdo O (Ops.g O O O (Gdo O (Ops.g O O O (Gdo O ?_)))))))
      refine Ops.split_p 76 O (fun p5 => absurd p5 p2) (fun p5 => ?_)
      refine Ops.k O O O O O (Ops.k O O O O O (Ops.k O O O O O (Ops.k O O O O O (Ops.k O O O O O (Ops.k O O O O O (Ops.k O O O O O (Ops.k O O O O O (Ops.g O O O (Gdn O (tQ ?_))))))))))
      exact ⟨(), ⟨O, O, O, O, O, congrArg Value.bool (dec_nf ⟨hHib, fun _ h' => absurd h' p2⟩), trivial⟩, O⟩
     refine Ops.k O O O O O (Ops.k O O O O O (Ops.g O O O (Gdo O (Ops.g O O O (Gdo O (Ops.k O O O O O (Ops.k O O O O O (Ops.k O O O O O (Ops.k O O O O O (Ops.k O O O O O (Ops.k O O O O O ?_)))))))))))
     refine Ops.k O O O O O (Ops.k O O O O O (Ops.g O O O (Gdn O (tQ ?_))))
     exact ⟨(), ⟨O, O, O, O, O, congrArg Value.bool (dec_nf ⟨hHib, fun h' => absurd h' p4⟩), trivial⟩, O⟩
    rintro _ e w6 rfl
    refine Cd.cond_p _ O (fun h6 => ?_) (fun h6 => ?_)
    ·refine Gao O (Ops.add O O O (by omega) (Gdn O (tQ ?_)))
     exact ⟨y + 1, by show N + 1 - (y + 1) < N + 1 - y; omega, ⟨O, O, O, O, congrArg (Value.int .i64) (by show b + 1 = ((y + 1 : Nat) : Int) - 1; omega), trivial⟩, O, by omega, hnextB fun q1 q2 => absurd ⟨q1, q2⟩ h6⟩
    have hok := Classical.not_not.1 h6
    have hbr := hHb.1 hok.1
    refine Gac O ?_
    refine Cd.loop (α := Nat) (fun m => [(1, .pointer A1), (3, .int .i64 (N : Int)), (4, .int .i64 (i : Int)), (5, .int .i64 a), (6, .int .i64 b), (7, .int .i64 ((midT R B i a b m : Nat) : Int)), (8, .int .i64 (m : Int))]) (fun m w' => w' = w6 ∧ m ≤ N) (fun m => N - m) 0 ⟨O, O, O, O, O, O, O, trivial⟩ ⟨O, Nat.zero_le _⟩ ?_
    rintro m e w7 ⟨rfl, hm⟩
    have hml := midT_le R B i a b m
    have hmn := midT_next R B i a b m
    refine Gbc O ?_
    refine Cd.cond_p _ O (fun h7 => ?_) (fun h7 => ?_)
    ·have hmN : m < N := by omega
     have hrom := hB.at_ (i := (m : Int)) (by omega) (by omega)
     have hrnm := hrom.1
     have hrlm := hrl (m : Int) (by omega) (by omega)
     refine Gaj 3 O ?_
     refine Cd.join (α := Unit) (fun _ => [(1, .pointer A1), (3, .int .i64 (N : Int)), (4, .int .i64 (i : Int)), (5, .int .i64 a), (6, .int .i64 b), (7, .int .i64 ((midT R B i a b m : Nat) : Int)), (8, .int .i64 (m : Int)), (124, .bool (decide (gi R (m : Int) = (i : Int) ∧ (a < 0 ∨ a ∈ gl B (m : Int)) ∧ (b < 0 ∨ (m : Int) ∈ gl B b))))]) (fun _ w' => w' = w7) ?_ ?_
     ·refine Gbo O (Ops.fld h1 O O O O inferInstance (Ops.ldf_s (j := 1) h1 (by exact congrArg Value.pointer O) O O O O (Gdo O (Ops.idx hR.2 O O O (by omega) (by omega) (Ops.ld_int hR O (by omega) O O (Gdo O ?_))))))
      refine Ops.split_p 99 O (fun p1 => ?_) (fun p1 => ?_)
      ·refine Ops.g O O O (Gdo O (Ops.g O O O (Gdo O (Ops.g O O O (Gdo O ?_)))))
       refine Ops.split_p 102 O (fun p2 => ?_) (fun p2 => ?_)
       ·refine Ops.k O O O O O (Ops.k O O O O O (Ops.k O O O O O (Ops.k O O O O O (Ops.k O O O O O (Ops.k O O O O O (Ops.k O O O O O (Ops.g O O O (Gdo O (Ops.g O O O (Gdo O (Ops.g O O O ?_)))))))))))
        refine Gdo O (Ops.g O O O (Gdo O ?_))
        refine Ops.split_p 115 O (fun p4 => ?_) (fun p4 => ?_)
        ·refine Ops.k O O O O O (Ops.k O O O O O (Ops.k O O O O O (Ops.k O O O O O (Ops.k O O O O O (Ops.k O O O O O (Ops.k O O O O O (Ops.g O O O (Gdn O (tQ ?_)))))))))
         exact ⟨(), ⟨O, O, O, O, O, O, O, congrArg Value.bool (decide_eq_true ⟨p1, .inl p2, .inl p4⟩).symm, trivial⟩, O⟩
        have hrob := hB.at_ (i := b) (by omega) (by omega)
        have hrnb := hrob.1
        have hrlb := hrl b (by omega) (by omega)
        refine Ops.g O O O (Ops.fld h1 O O O O inferInstance (Ops.g O O O (Ops.ldf_s (j := 2) h1 (by exact congrArg Value.pointer O) O O O O ?_)))
        refine Ops.g O O O (Gdo O (Ops.g O O O ?_))
        refine Ops.idx hB.top.2 O O O (by omega) (by omega) (Ops.g O O O (Ops.ld_sl hB.top O (by omega) O O ?_))
        refine Ops.g O O O (Gdo O (Ops.g O O O ?_))
        refine Ops.call (l01Has_c _ _ _ (gl B b) (m : Int) _ hrob (by omega)) O O O ?_
        rintro _ w9 ⟨rfl, rfl⟩
        refine Ops.g O O O (Gdn O (tQ ?_))
        exact ⟨(), ⟨O, O, O, O, O, O, O, congrArg Value.bool (decide_eq_decide.2 ⟨fun h => ⟨p1, .inl p2, .inr h⟩, fun h => h.2.2.resolve_left p4⟩), trivial⟩, O⟩
       refine Ops.g O O O (Ops.fld h1 O O O O inferInstance (Ops.g O O O (Ops.ldf_s (j := 2) h1 (by exact congrArg Value.pointer O) O O O O ?_)))
       refine Ops.g O O O (Gdo O (Ops.g O O O ?_))
       refine Ops.idx hB.top.2 O O O (by omega) (by omega) (Ops.g O O O (Ops.ld_sl hB.top O (by omega) O O ?_))
       refine Ops.g O O O (Gdo O (Ops.g O O O ?_))
       refine Ops.call (l01Has_c _ _ _ (gl B (m : Int)) a _ hrom (by omega)) O O O ?_
       rintro _ w8 ⟨rfl, rfl⟩
       refine Ops.g O O O (Gdo O ?_)
       refine Ops.split_p 112 O (fun p3 => ?_) (fun p3 => ?_)
       ·refine Ops.g O O O (Gdo O (Ops.g O O O (Gdo O (Ops.g O O O (Gdo O ?_)))))
        refine Ops.split_p 115 O (fun p4 => ?_) (fun p4 => ?_)
        ·refine Ops.k O O O O O (Ops.k O O O O O (Ops.k O O O O O (Ops.k O O O O O (Ops.k O O O O O (Ops.k O O O O O (Ops.k O O O O O (Ops.g O O O (Gdn O (tQ ?_)))))))))
         exact ⟨(), ⟨O, O, O, O, O, O, O, congrArg Value.bool (decide_eq_true ⟨p1, .inr p3, .inl p4⟩).symm, trivial⟩, O⟩
        have hrob := hB.at_ (i := b) (by omega) (by omega)
        have hrnb := hrob.1
        have hrlb := hrl b (by omega) (by omega)
        refine Ops.g O O O (Ops.fld h1 O O O O inferInstance (Ops.g O O O (Ops.ldf_s (j := 2) h1 (by exact congrArg Value.pointer O) O O O O ?_)))
        refine Ops.g O O O (Gdo O (Ops.g O O O ?_))
        refine Ops.idx hB.top.2 O O O (by omega) (by omega) (Ops.g O O O (Ops.ld_sl hB.top O (by omega) O O ?_))
        refine Ops.g O O O (Gdo O (Ops.g O O O ?_))
        refine Ops.call (l01Has_c _ _ _ (gl B b) (m : Int) _ hrob (by omega)) O O O ?_
        rintro _ w9 ⟨rfl, rfl⟩
        refine Ops.g O O O (Gdn O (tQ ?_))
        exact ⟨(), ⟨O, O, O, O, O, O, O, congrArg Value.bool (decide_eq_decide.2 ⟨fun h => ⟨p1, .inr p3, .inr h⟩, fun h => h.2.2.resolve_left p4⟩), trivial⟩, O⟩
       refine Ops.k O O O O O (Ops.k O O O O O (Ops.k O O O O O (Ops.skipu O O O O (Ops.skipu O O O O (Ops.skipu O O O O (Ops.skipu O O O O (Ops.skipu O O O O (Ops.skipu O O O O (Ops.skipu O O O O (Ops.k O O O O O (Gdn O ?_)))))))))))
       refine tQ ?_
       exact ⟨(), ⟨O, O, O, O, O, O, O, congrArg Value.bool (decide_eq_false (fun h => h.2.1.elim p2 p3)).symm, trivial⟩, O⟩
      refine Ops.k O O O O O (Ops.k O O O O O (Ops.k O O O O O (Ops.skipu O O O O (Ops.skipu O O O O (Ops.skipu O O O O (Ops.skipu O O O O (Ops.skipu O O O O (Ops.skipu O O O O (Ops.skipu O O O O (Ops.k O O O O O (Gdo O ?_)))))))))))
      refine Ops.k O O O O O (Ops.k O O O O O (Ops.k O O O O O (Ops.skipu O O O O (Ops.skipu O O O O (Ops.skipu O O O O (Ops.skipu O O O O (Ops.skipu O O O O (Ops.skipu O O O O (Ops.skipu O O O O (Ops.k O O O O O (Gdn O ?_)))))))))))
      refine tQ ?_
      exact ⟨(), ⟨O, O, O, O, O, O, O, congrArg Value.bool (decide_eq_false (fun h => p1 h.1)).symm, trivial⟩, O⟩
     rintro _ e w8 rfl
     refine Cd.cond_p _ O (fun h8 => ?_) (fun h8 => ?_)
     ·rw [if_pos h8] at hmn
      refine Gao O (Ops.add O O O (by omega) (Gdo O (Ops.add O O O (by omega) (Gdn O (tQ ?_)))))
      exact ⟨m + 1, by show N - (m + 1) < N - m; omega, ⟨O, O, O, O, O, congrArg (fun m : Nat => Value.int .i64 (m : Int)) hmn.symm, O, trivial⟩, O, by omega⟩
     rw [if_neg h8] at hmn
     refine Gao O (Ops.add O O O (by omega) (Gdn O (tQ ?_)))
     exact ⟨m + 1, by show N - (m + 1) < N - m; omega, ⟨O, O, O, O, O, congrArg (fun m : Nat => Value.int .i64 (m : Int)) hmn.symm, O, trivial⟩, O, by omega⟩
    have hme : m = N := by omega
    rw [hme] at hml ⊢
    rw [hmid] at hml ⊢
    refine Gax O (thenQ_x (Gfc O ?_))
    refine Cd.cond_p _ O (fun h8 => ?_) (fun h8 => ?_)
    ·refine Gao O ?_
     refine Ops.bsL [(i : Int), a, b] hS1 O O (by decide) (by decide) O O ?_
     intro A9 w9 hS9
     refine Gdr O (thenQ_r (Qk_ret (thenQ_r (Qk_ret (thenQ_r (Qk_ret ?_))))))
     refine ret1_s O ?_
     exact ⟨A9, 3, 3, O, ⟨fun h => absurd h (by decide), fun h => absurd (h (i : Int) a b (by omega) h2 hLoa hok.1 hok.2) (by omega)⟩, hS9.none⟩
    refine Gao O (Ops.add O O O (by omega) (Gdn O (tQ ?_)))
    exact ⟨y + 1, by show N + 1 - (y + 1) < N + 1 - y; omega, ⟨O, O, O, O, congrArg (Value.int .i64) (by show b + 1 = ((y + 1 : Nat) : Int) - 1; omega), trivial⟩, O, by omega, hnextB fun _ _ => by omega⟩
   refine Gax O (thenQ_x (Gfo O (Ops.add O O O (by omega) (Gdn O (tQ ?_)))))
   exact ⟨z + 1, by show N + 1 - (z + 1) < N + 1 - z; omega, ⟨O, O, O, congrArg (Value.int .i64) (by show a + 1 = ((z + 1 : Nat) : Int) - 1; omega), trivial⟩, O, by omega, fun a' b' => hnextA a' b' fun _ _ q2 q3 => hdb b' (by have := (hHi _ _).1 q2; omega) q2 q3⟩
  refine Gax O (thenQ_x (Gfo O (Ops.add O O O (by omega) (Gdn O (tQ ?_)))))
  exact ⟨i + 1, by show n.toNat - (i + 1) < n.toNat - i; omega, ⟨O, O, O, trivial⟩, O, by show ((i + 1 : Nat) : Int) ≤ n; omega, fun i' a' b' h0 h' q1 q2 q3 => by
   by_cases ei : i' = (i : Int)
   ·subst ei
    exact hda a' b' (by have := (hLo _ _).1 q1; omega) q1 q2 q3
   exact hdi i' a' b' h0 (by have h' : i' < ((i + 1 : Nat) : Int) := h'; omega) q1 q2 q3⟩
 refine Gax O (thenQ_x (Gfo O ?_))
 refine Ops.bs0 hS1 O ?_
 intro A9 w9 hS9
 refine Gdr O (ret1_s O ?_)
 exact ⟨A9, 0, 0, O, ⟨fun _ i' a b h0 h' q1 q2 q3 => hdi i' a b h0 (by omega) q1 q2 q3, fun _ => O⟩, hS9.none⟩
/-
 The reference's test of polytopes and of polytopality, walked.
-/
theorem l03Polytope_c (n : Nat) (A D : Option Addr) (cA cD : Nat) (R : List Int) (rs : List SlV) (B : List (List Int)) (Af : Option Addr) (cf : Nat) (rsF : List SlV) (w : World) (hR : RdI w A R.length R) (hB : RowsI w D B.length rs B) (hP : PosP n R B) (hF : RowsI w Af (flgP n R B).length rsF (flgP n R B)) (hf4 : (flgP n R B).length ≤ 400) :
  Ret Tryz.prog 84 [.agg #[.int .i64 n, .slice A R.length cA, .slice D B.length cD], .slice Af (flgP n R B).length cf] w (fun v w' => ∃ b : Bool, v = .bool b ∧ (b = true ↔ PlyP n R B) ∧ St w w' []) := by
 have hn := hP.n1
 have hbg := hP.big
 have hfit := flgP_fit (n := n) (R := R) (B := B) (by omega) hbg
 have hnd : (flgP n R B).Nodup := (flgP_SL n R B).nodup
 refine Ret.of_cd Tryz.func84 O Tryz.ntmps84 O (post1 O) (Gbo O (Ops.box3T (St.refl w) O O ?_))
 intro A1 w1 hS1
 have h1 : Rd w1 A1 3 (fun j => [Value.int .i64 n, .slice A R.length cA, .slice D B.length cD].getD j undef) := hS1.rd 0 O
 have hR := hS1.oldI hR
 have hB := hS1.oldRows hB
 have hF := hS1.oldRows hF
 have hS1 := hS1.none
 refine Gdo O (Ops.len O O (Gdo O ?_))
 refine Ops.split_p 8 O (fun h2 => ?_) (fun h2 => ?_)
 ·have hne : flgP n R B ≠ [] := fun h => by rw [h] at h2; exact absurd h2 (by decide)
  refine Ops.g O O O (Ops.ld_agg 2 h1 O O O ?_)
  refine Ops.g O O O (Gdo O (Ops.g O O O ?_))
  refine Ops.call (l03Pure_c n A D cA R.length B.length cD Af (flgP n R B).length cf rsF (flgP n R B) _ hF hbg (fun l hl => ⟨by have := (hfit l hl).1; omega, (hfit l hl).2⟩) (by omega)) O O O ?_
  rintro _ w2 ⟨b, rfl, hb, hst⟩
  have h1 := Rd.below h1 hst.below
  have hR := hst.oldI hR
  have hB := hst.oldRows hB
  have hF := hst.oldRows hF
  have hS1 := hS1.later hst.below
  have hpu : b = true ↔ PurP n R B := hb
  clear hst hb
  rw [bool_dec b]
  refine Gdo O ?_
  refine Ops.split_p 13 O (fun h3 => ?_) (fun h3 => ?_)
  ·refine Ops.g O O O (Ops.ld_agg 2 h1 O O O (Ops.g O O O (Ops.call (l03Fault_c n A D cA cD R rs B _ hR hB hP) O O O ?_)))
   rintro _ w3 ⟨A9, n9, c9, rfl, hd, hst⟩
   have hF := hst.oldRows hF
   have hS1 := hS1.later hst.below
   clear hst
   refine Ops.g O O O (Ops.len O O (Ops.g O O O (Gdo O ?_)))
   refine Ops.split_p 19 O (fun h4 => ?_) (fun h4 => ?_)
   ·refine Ops.g O O O (Gdo O (Ops.g O O O ?_))
    refine Ops.call (l03Parted_c Af (flgP n R B).length cf rsF (flgP n R B) n _ hF (by omega) hf4 (by omega) (fun x hx => (hfit x hx).1) hnd) O O O ?_
    rintro _ w4 ⟨A8, n8, c8, rfl, hc, hst⟩
    have hS1 := hS1.later hst.below
    refine Ops.g O O O (Ops.len O O (Ops.g O O O (Gdr O ?_)))
    refine ret1_b O ?_
    exact ⟨_, O, by rw [decide_eq_true_eq]; exact ⟨fun h => ⟨hne, hpu.1 h3, hd.1 (by omega), hc.1 (by omega)⟩, fun h => by have := hc.2 h.2.2.2; omega⟩, hS1⟩
   refine Ops.k O O O O O (Ops.k O O O O O (Ops.k O O O O O (Ops.k O O O O O (Gdr O ?_))))
   refine ret1_b O ?_
   exact ⟨false, rfl, ⟨fun h => (by cases h), fun h => absurd (hd.2 h.2.2.1) (by omega)⟩, hS1⟩
  refine Ops.k O O O O O (Ops.k O O O O O (Ops.k O O O O O (Ops.k O O O O O (Gdo O (Ops.k O O O O O (Ops.k O O O O O (Ops.k O O O O O (Ops.k O O O O O (Gdr O ?_)))))))))
  refine ret1_b O ?_
  exact ⟨false, rfl, ⟨fun h => (by cases h), fun h => absurd (hpu.2 h.2.1) h3⟩, hS1⟩
 refine Ops.k O O O O O (Ops.k O O O O O (Ops.k O O O O O (Gdo O (Ops.k O O O O O (Ops.k O O O O O (Ops.k O O O O O (Ops.k O O O O O (Gdo O (Ops.k O O O O O (Ops.k O O O O O (Ops.k O O O O O ?_)))))))))))
 refine Ops.k O O O O O (Gdr O ?_)
 refine ret1_b O ?_
 exact ⟨false, rfl, ⟨fun h => (by cases h), fun h => absurd (List.length_pos_iff.2 h.1) (by omega)⟩, hS1⟩
theorem l03Polytopal_c (A : Option Addr) (n c : Nat) (rs : List SlV) (M : List (List Int)) (w : World) (hR : RowsI w A n rs M) (hn9 : n ≤ 9223372036854775807) (hM : Mani M) :
  Ret Tryz.prog 96 [.agg #[.slice A n c]] w (fun v w' => ∃ b : Bool, v = .tuple #[.bool b, .int .i64 (ptC M)] ∧ (b = true ↔ GoodP M) ∧ St w w' []) := by
 have hl := hR.len
 have h5 := hM.1
 have h4 := hM.2.1
 have hRl := fpR_len M M.length
 have hBl := fpB_len M
 have hr0 := hR.rowLen (k := 0) (by omega) (by omega)
 refine Ret.of_cd Tryz.func96 O Tryz.ntmps96 O (post2 O) (Gbo O (Ops.box1 (St.refl w) O O ?_))
 intro A1 w1 hS1
 refine Gdo O (Ops.ld_agg 0 (hS1.rd 0 O) O O O (Ops.call (specFacePoset_c A n c rs M _ (hS1.oldRows hR) hn9 hM) O O O ?_))
 rintro _ w2 (⟨hbig, rfl, hst⟩ | ⟨hbig, AR, cR, AD, cD, rsD, rfl, hrD, hst⟩)
 ·have hS2 := hS1.later hst.below
  refine Gdo O (Ops.newP hS2 O ?_)
  intro A4 w3 hS3
  refine Ops.st_agg 3 0 hS3 O O O O O O O ?_
  intro w4 hS4
  refine Gdc O (Cd.cond_t O (Gar O (ret2_bi O O ?_)))
  unfold ptC
  rw [if_pos (.inl hbig)]
  exact ⟨false, rfl, ⟨fun h => (by cases h), fun h => by have := h.1; omega⟩, hS4.none⟩
 have hP := posP_of hM hbig
 have hS2 := hS1.call hst
 clear hst hS1
 refine Gdo O (Ops.newP hS2 O ?_)
 intro A4 w3 hS3
 refine Ops.st_agg 3 0 hS3 O O O O O O O ?_
 intro w4 hS4
 have hS4 : St w w4 (poB A4 (M.length : Int) AR (offP M M.length) cR AD (offP M M.length) cD :: (CkI 2 AR (offP M M.length) cR (fpR M M.length) :: ((mat 32 2 AD (offP M M.length) cD rsD (fpB M) ++ []) ++ [Bx 24 1 A1 [.slice A n c]]))) := hS4
 have hR4 : RdI w4 AR (fpR M M.length).length (fpR M M.length) := by rw [hRl]; exact hS4.rdI 1 O
 have hB4 : RowsI w4 AD (fpB M).length rsD (fpB M) := by
  rw [hBl]
  have h9 := hS4.sub (show (mat 32 2 AD (offP M M.length) cD rsD (fpB M)).Sublist _ from List.Sublist.cons _ (List.Sublist.cons _ (by rw [List.append_nil]; exact List.sublist_append_left _ _)))
  exact h9.rowsI1 hBl
 have hb4 := hS4.rd 0 O
 have hb1 : Rd w4 A1 1 (fun j => [Value.slice A n c].getD j undef) := by
  have h9 := hS4.sub (show List.Sublist [Bx 24 1 A1 [.slice A n c]] _ from List.Sublist.cons _ (List.Sublist.cons _ (List.sublist_append_right _ _)))
  exact h9.rd 0 O
 refine Gdc O (Cd.cond_f O (Gao O (Ops.ld_agg 2 hb4 O O O ?_)))
 refine Ops.call (l03Flags_c M.length AR AD cR cD (fpR M M.length) rsD (fpB M) _ hR4 hB4 hP) O (by rw [hRl, hBl]; rfl) O ?_
 rintro _ w5 ⟨Af, cf, rsf, rfl, hrf, hst⟩
 have hS5 := hS4.later hst.below
 have hR5 := hR4.later hst.below
 have hB5 := hB4.later hst.below
 have hb5 := Rd.below hb4 hst.below
 have hb1 := Rd.below hb1 hst.below
 have hM5 := hS5.oldRows hR
 refine Gdo O ?_
 first | refine Ops.not_p rfl rfl ?_ | refine Ops.not rfl rfl ?_
 refine Gdc O ?_
 refine Cd.cond_p _ O (fun h6 => ?_) (fun h6 => ?_)
 ·have hpt : ptC M = 3 := by unfold ptC; rw [if_pos (.inr (by show 400 < (flgP M.length (fpR M M.length) (fpB M)).length; omega))]
  refine Gar O (ret2_bi O O ?_)
  rw [hpt]
  refine ⟨false, rfl, ⟨fun h => (by cases h), fun h => ?_⟩, hS5.none⟩
  have h9 : (flgP M.length (fpR M M.length) (fpB M)).length = (gl M 0).length := h.2.1
  omega
 have hfl : (flgP M.length (fpR M M.length) (fpB M)).length ≤ 400 := Classical.not_not.1 h6
 have hpt : ptC M = 0 := by unfold ptC; rw [if_neg (by show ¬ (500 < offP M M.length ∨ 400 < (flgP M.length (fpR M M.length) (fpB M)).length); omega)]
 have hcp : cap (flgP M.length (fpR M M.length) (fpB M)) = flgP M.length (fpR M M.length) (fpB M) := cap_all (by omega)
 rw [hcp] at hrf hst ⊢
 rw [hpt]
 have hF5 : RowsI w5 Af (flgP M.length (fpR M M.length) (fpB M)).length rsf (flgP M.length (fpR M M.length) (fpB M)) := by
  rw [List.append_nil] at hst
  exact hst.rowsI1 O
 refine Gao O (Ops.len O O ?_)
 refine Ops.ld_agg 0 hb1 O O O (Ops.call (l02Flags_c A n c rs M _ hM5 (by omega)) O O O ?_)
 rintro _ w6 ⟨rfl, hst6⟩
 have hS6 := hS5.later hst6.below
 have hR6 := hR5.later hst6.below
 have hB6 := hB5.later hst6.below
 have hb6 := Rd.below hb5 hst6.below
 have hF6 := hF5.later hst6.below
 refine Gdo O ?_
 refine Ops.split_p 28 O (fun h7 => ?_) (fun h7 => ?_)
 ·refine Ops.g O O O (Ops.ld_agg 2 hb6 O O O ?_)
  refine Ops.g O O O (Gdo O (Ops.g O O O ?_))
  refine Ops.call (l03Polytope_c M.length AR AD cR cD (fpR M M.length) rsD (fpB M) Af cf rsf _ hR6 hB6 hP hF6 hfl) O (by rw [hRl, hBl]; rfl) O ?_
  rintro _ w7 ⟨b, rfl, hb, hst2⟩
  refine Gdr O (ret2_bi O O ?_)
  refine ⟨b, O, hb.trans ⟨fun h => ⟨hbig, ?_, h⟩, fun h => h.2.2⟩, (hS6.later hst2.below).none⟩
  show (flgP M.length (fpR M M.length) (fpB M)).length = _
  omega
 refine Ops.k O O O O O (Ops.k O O O O O (Ops.k O O O O O (Gdr O ?_)))
 refine ret2_bi O O ?_
 refine ⟨false, rfl, ⟨fun h => (by cases h), fun h => ?_⟩, hS6.none⟩
 have h9 : (flgP M.length (fpR M M.length) (fpB M)).length = (gl M 0).length := h.2.1
 omega
end Go.Proofs.YtopgfgdgfjddpaaGreatDoor.Vc
/-
 Plain mathematics of a stable sort of structs of three numbers: exchanges, blocks turned round, sorted blocks joined.
-/
namespace Go.Proofs.YtopgfgdgfjddpaaGreatDoor.Vc.TS
open Go.RowKit
def gs (l : List TV) (i : Nat) : TV := l.getD i tvNil
theorem gs_mem {l : List TV} {i : Nat} (h : i < l.length) : gs l i = l[i] := by simp [gs, List.getD_eq_getElem?_getD, h]
def SR (κ : TV → Int) (l : List TV) (a b : Nat) : Prop := ∀ i j, a ≤ i → i < j → j < b → κ (gs l i) ≤ κ (gs l j)
theorem SR.one (κ : TV → Int) (l : List TV) {a b : Nat} (h : b ≤ a + 1) : SR κ l a b := fun i j h1 h2 h3 => by omega
theorem SR.sub {κ : TV → Int} {l : List TV} {a b a' b' : Nat} (h : SR κ l a b) (h1 : a ≤ a') (h2 : b' ≤ b) : SR κ l a' b' := fun i j hi hij hj => h i j (by omega) hij (by omega)
theorem SR.le {κ : TV → Int} {l : List TV} {a b i j : Nat} (h : SR κ l a b) (h1 : a ≤ i) (h2 : i ≤ j) (h3 : j < b) : κ (gs l i) ≤ κ (gs l j) := by
 rcases Nat.lt_or_eq_of_le h2 with h2 | rfl
 ·exact h i j h1 h2 h3
 exact Int.le_refl _
theorem SR.congr {κ : TV → Int} {l l' : List TV} {a b : Nat} (h : SR κ l a b) (he : ∀ i, a ≤ i → i < b → gs l' i = gs l i) : SR κ l' a b := fun i j hi hij hj => by
 rw [he i hi (by omega), he j (by omega) hj]; exact h i j hi hij hj
structure RP (l l' : List TV) (a b : Nat) : Prop where
 perm : l'.Perm l
 out : ∀ i, i < a ∨ b ≤ i → gs l' i = gs l i
theorem RP.refl (l : List TV) (a b : Nat) : RP l l a b := ⟨List.Perm.refl _, fun _ _ => rfl⟩
theorem RP.len {l l' : List TV} {a b : Nat} (h : RP l l' a b) : l'.length = l.length := h.perm.length_eq
theorem RP.trans {l l' l'' : List TV} {a b a' b' : Nat} (h : RP l l' a b) (h' : RP l' l'' a' b') (h1 : a ≤ a') (h2 : b' ≤ b) : RP l l'' a b :=
 ⟨h'.perm.trans h.perm, fun i hi => by rw [h'.out i (by omega), h.out i hi]⟩
theorem gs_take {l l' : List TV} {a : Nat} (hl : l'.length = l.length) (h : ∀ i, i < a → gs l' i = gs l i) : l'.take a = l.take a := by
 refine List.ext_getElem (by simp [hl]) fun i h1 h2 => ?_
 rw [List.length_take] at h1 h2
 rw [List.getElem_take, List.getElem_take, ← gs_mem (by omega), ← gs_mem (by omega)]
 exact h i (by omega)
theorem gs_drop {l l' : List TV} {b : Nat} (hl : l'.length = l.length) (h : ∀ i, b ≤ i → gs l' i = gs l i) : l'.drop b = l.drop b := by
 refine List.ext_getElem (by simp [hl]) fun i h1 h2 => ?_
 rw [List.length_drop] at h1 h2
 rw [List.getElem_drop, List.getElem_drop, ← gs_mem (by omega), ← gs_mem (by omega)]
 exact h _ (by omega)
theorem split3 {α : Type} (l : List α) {a b : Nat} (h : a ≤ b) : l = l.take a ++ ((l.drop a).take (b - a) ++ l.drop b) := by
 have h1 : l.drop b = (l.drop a).drop (b - a) := by rw [List.drop_drop]; congr 1; omega
 rw [h1, List.take_append_drop, List.take_append_drop]
theorem RP.mid {l l' : List TV} {a b : Nat} (h : RP l l' a b) (hab : a ≤ b) : ((l'.drop a).take (b - a)).Perm ((l.drop a).take (b - a)) := by
 have h1 := h.perm
 rw [split3 l' hab, split3 l hab, gs_take h.len (fun i hi => h.out i (.inl hi)), gs_drop h.len (fun i hi => h.out i (.inr hi))] at h1
 exact (List.perm_append_right_iff _).1 ((List.perm_append_left_iff _).1 h1)
theorem RP.from {l l' : List TV} {a b : Nat} (h : RP l l' a b) (hb : b ≤ l.length) {i : Nat} (h1 : a ≤ i) (h2 : i < b) : ∃ j, a ≤ j ∧ j < b ∧ gs l' i = gs l j := by
 have hl := h.len
 have hm : gs l' i ∈ (l'.drop a).take (b - a) := by
  rw [List.mem_iff_getElem]
  refine ⟨i - a, by rw [List.length_take, List.length_drop]; omega, ?_⟩
  rw [List.getElem_take, List.getElem_drop, ← gs_mem (by omega)]
  congr 1; omega
 obtain ⟨k, hk, e⟩ := List.mem_iff_getElem.1 ((h.mid (by omega)).mem_iff.1 hm)
 rw [List.length_take, List.length_drop] at hk
 refine ⟨a + k, by omega, by omega, ?_⟩
 rw [← e, List.getElem_take, List.getElem_drop, ← gs_mem (by omega)]
def swp (l : List TV) (i j : Nat) : List TV := (l.set i (gs l j)).set j (gs l i)
theorem swp_len (l : List TV) (i j : Nat) : (swp l i j).length = l.length := by simp [swp]
theorem gs_set {l : List TV} {i : Nat} (h : i < l.length) (v : TV) (x : Nat) : gs (l.set i v) x = if x = i then v else gs l x := by
 simp only [gs, List.getD_eq_getElem?_getD, List.getElem?_set]
 by_cases e : i = x
 ·subst e; simp [h]
 have : ¬ x = i := fun h => e h.symm
 simp [e, this]
theorem gs_swp {l : List TV} {i j : Nat} (hi : i < l.length) (hj : j < l.length) (x : Nat) : gs (swp l i j) x = if x = j then gs l i else if x = i then gs l j else gs l x := by
 rw [swp, gs_set (by simpa using hj), gs_set hi]
theorem swp_RP {l : List TV} {i j a b : Nat} (hi : i < l.length) (hj : j < l.length) (h1 : a ≤ i) (h2 : i < b) (h3 : a ≤ j) (h4 : j < b) : RP l (swp l i j) a b := by
 refine ⟨?_, fun x hx => ?_⟩
 ·unfold swp
  rw [gs_mem hi, gs_mem hj]
  exact List.set_set_perm hi hj
 rw [gs_swp hi hj, if_neg (by omega), if_neg (by omega)]
/-! one put among others in order, by exchanges -/
structure InsI (κ : TV → Int) (l : List TV) (a i j : Nat) : Prop where
 low : a ≤ j
 high : j ≤ i
 rest : ∀ x y, a ≤ x → x < y → y ≤ i → x ≠ j → y ≠ j → κ (gs l x) ≤ κ (gs l y)
 own : ∀ y, j < y → y ≤ i → κ (gs l j) ≤ κ (gs l y)
theorem InsI.start {κ : TV → Int} {l : List TV} {a i : Nat} (h : SR κ l a i) (hi : a ≤ i) : InsI κ l a i i :=
 ⟨hi, Nat.le_refl _, fun x y h1 h2 h3 h4 h5 => h x y h1 h2 (by omega), fun y h1 h2 => by omega⟩
theorem InsI.stop {κ : TV → Int} {l : List TV} {a i j : Nat} (h : InsI κ l a i j) (hs : j = a ∨ κ (gs l (j - 1)) ≤ κ (gs l j)) : SR κ l a (i + 1) := fun x y h1 h2 h3 => by
 by_cases e : x = j
 ·subst e; exact h.own y h2 (by omega)
 by_cases e2 : y = j
 ·subst e2
  rcases hs with hs | hs
  ·omega
  by_cases e3 : x = y - 1
  ·subst e3; exact hs
  exact Int.le_trans (h.rest x (y - 1) h1 (by omega) (by have := h.high; omega) e (by omega)) hs
 exact h.rest x y h1 h2 (by omega) e e2
theorem InsI.next {κ : TV → Int} {l : List TV} {a i j : Nat} (h : InsI κ l a i j) (hj : a < j) (hi : i < l.length) (hs : κ (gs l j) < κ (gs l (j - 1))) : InsI κ (swp l j (j - 1)) a i (j - 1) := by
 have hh := h.high
 have g := gs_swp (l := l) (i := j) (j := j - 1) (by omega) (by omega)
 refine ⟨by omega, by omega, fun x y h1 h2 h3 h4 h5 => ?_, fun y h1 h2 => ?_⟩
 ·rw [g x, g y, if_neg h4, if_neg h5]
  by_cases e : x = j
  ·subst e
   rw [if_pos rfl, if_neg (by omega)]
   exact h.rest (x - 1) y (by omega) (by omega) h3 (by omega) (by omega)
  rw [if_neg e]
  by_cases e2 : y = j
  ·subst e2
   rw [if_pos rfl]
   exact h.rest x (y - 1) h1 (by omega) (by omega) e (by omega)
  rw [if_neg e2]
  exact h.rest x y h1 h2 h3 e e2
 rw [g (j - 1), g y, if_pos rfl, if_neg (by omega)]
 by_cases e2 : y = j
 ·subst e2
  rw [if_pos rfl]; omega
 rw [if_neg e2]
 exact h.own y (by omega) h2
/-! ranges exchanged -/
theorem exch {α : Type} (P X M Y S : List α) (k : Nat) (h : X.length = Y.length) (hk : k < X.length) (x y : α) (hx : X[k]? = some x) (hy : Y[k]? = some y) : ((P ++ (Y.take k ++ X.drop k) ++ M ++ (X.take k ++ Y.drop k) ++ S).set (P.length + k) y).set (P.length + X.length + M.length + k) x = P ++ (Y.take (k + 1) ++ X.drop (k + 1)) ++ M ++ (X.take (k + 1) ++ Y.drop (k + 1)) ++ S := by
 obtain ⟨hk', rfl⟩ := List.getElem?_eq_some_iff.1 hx
 obtain ⟨hk2, rfl⟩ := List.getElem?_eq_some_iff.1 hy
 rw [List.drop_eq_getElem_cons hk', List.drop_eq_getElem_cons hk2, List.take_succ_eq_append_getElem hk', List.take_succ_eq_append_getElem hk2]
 have e1 : (P ++ (Y.take k ++ X[k] :: X.drop (k + 1)) ++ M ++ (X.take k ++ Y[k] :: Y.drop (k + 1)) ++ S) = (P ++ Y.take k) ++ X[k] :: (X.drop (k + 1) ++ M ++ (X.take k ++ Y[k] :: Y.drop (k + 1)) ++ S) := by simp only [List.append_assoc, List.cons_append]
 have l1 : P.length + k = (P ++ Y.take k).length := by simp; omega
 rw [e1, l1, List.set_append_right _ _ (Nat.le_refl _), Nat.sub_self, List.set_cons_zero]
 have e2 : (P ++ Y.take k) ++ Y[k] :: (X.drop (k + 1) ++ M ++ (X.take k ++ Y[k] :: Y.drop (k + 1)) ++ S) = (P ++ Y.take k ++ Y[k] :: (X.drop (k + 1) ++ M ++ X.take k)) ++ Y[k] :: (Y.drop (k + 1) ++ S) := by simp only [List.append_assoc, List.cons_append]
 have l2 : P.length + X.length + M.length + k = (P ++ Y.take k ++ Y[k] :: (X.drop (k + 1) ++ M ++ X.take k)).length := by simp; omega
 rw [e2, l2, List.set_append_right _ _ (Nat.le_refl _), Nat.sub_self, List.set_cons_zero]
 simp only [List.append_assoc, List.cons_append, List.nil_append]
/-! two sorted ranges joined -/
structure RotI (l l1 : List TV) (s m e : Nat) : Prop where
 out : ∀ i, i < s ∨ e ≤ i → gs l1 i = gs l i
 left : ∀ i, s ≤ i → i < s + (e - m) → gs l1 i = gs l (i + (m - s))
 right : ∀ i, s + (e - m) ≤ i → i < e → gs l1 i = gs l (i - (e - m))
theorem RotI.same (l : List TV) {s m e : Nat} (h : s = m ∨ m = e) (h1 : s ≤ m) (h2 : m ≤ e) : RotI l l s m e :=
 ⟨fun _ _ => rfl, fun i h3 h4 => by congr 1; omega, fun i h3 h4 => by congr 1; omega⟩
theorem RotI.of (P X Y S : List TV) : RotI (P ++ (X ++ (Y ++ S))) (P ++ (Y ++ (X ++ S))) P.length (P.length + X.length) (P.length + X.length + Y.length) := by
 have key : ∀ (P X Y S : List TV) (i : Nat), gs (P ++ (X ++ (Y ++ S))) i = if i < P.length then gs P i else if i < P.length + X.length then gs X (i - P.length) else if i < P.length + X.length + Y.length then gs Y (i - P.length - X.length) else gs S (i - P.length - X.length - Y.length) := fun P X Y S i => by
  simp only [gs, List.getD_eq_getElem?_getD]
  by_cases h1 : i < P.length
  ·rw [if_pos h1, List.getElem?_append_left h1]
  rw [if_neg h1, List.getElem?_append_right (by omega)]
  by_cases h2 : i < P.length + X.length
  ·rw [if_pos h2, List.getElem?_append_left (by omega)]
  rw [if_neg h2, List.getElem?_append_right (by omega)]
  by_cases h3 : i < P.length + X.length + Y.length
  ·rw [if_pos h3, List.getElem?_append_left (by omega)]
  rw [if_neg h3, List.getElem?_append_right (by omega)]
 refine ⟨fun i h => ?_, fun i h1 h2 => ?_, fun i h1 h2 => ?_⟩
 ·rw [key, key]
  rcases h with h | h
  ·rw [if_pos h, if_pos h]
  rw [if_neg (by omega), if_neg (by omega), if_neg (by omega), if_neg (by omega), if_neg (by omega), if_neg (by omega)]
  congr 1; omega
 ·rw [key, key, if_neg (by omega), if_pos (by omega), if_neg (by omega), if_neg (by omega), if_pos (by omega)]
  congr 1; omega
 rw [key, key, if_neg (by omega), if_neg (by omega), if_pos (by omega), if_neg (by omega), if_pos (by omega)]
 congr 1; omega
theorem rot_perm {α : Type} (P X Y S : List α) : (P ++ (Y ++ (X ++ S))).Perm (P ++ (X ++ (Y ++ S))) := by
 refine (List.perm_append_left_iff _).2 ?_
 rw [← List.append_assoc, ← List.append_assoc]
 exact (List.perm_append_right_iff _).2 List.perm_append_comm
def lo0 (a m b : Nat) : Nat := if (a + b) / 2 < m then (a + b) / 2 + m - b else a
def hi0 (a m b : Nat) : Nat := if (a + b) / 2 < m then (a + b) / 2 else m
structure CutI (κ : TV → Int) (l : List TV) (a m b s : Nat) : Prop where
 lo : lo0 a m b ≤ s
 hi : s ≤ hi0 a m b
 left : ∀ c, lo0 a m b ≤ c → c < s → κ (gs l c) ≤ κ (gs l ((a + b) / 2 + m - 1 - c))
 right : ∀ c, s ≤ c → c < hi0 a m b → κ (gs l ((a + b) / 2 + m - 1 - c)) < κ (gs l c)
theorem cut_all {κ : TV → Int} {l l1 : List TV} {a m b s : Nat} (h1 : a + 1 < m) (h2 : m + 1 < b) (hA : SR κ l a m) (hB : SR κ l m b) (hc : CutI κ l a m b s) (hr : RotI l l1 s m ((a + b) / 2 + m - s)) : (a ≤ s ∧ s ≤ (a + b) / 2 ∧ s ≤ m ∧ (a + b) / 2 ≤ (a + b) / 2 + m - s ∧ m ≤ (a + b) / 2 + m - s ∧ (a + b) / 2 + m - s ≤ b) ∧ SR κ l1 a s ∧ SR κ l1 s ((a + b) / 2) ∧ SR κ l1 ((a + b) / 2) ((a + b) / 2 + m - s) ∧ SR κ l1 ((a + b) / 2 + m - s) b ∧ ∀ i j, a ≤ i → i < (a + b) / 2 → (a + b) / 2 ≤ j → j < b → κ (gs l1 i) ≤ κ (gs l1 j) := by
 obtain ⟨c1, c2, c3, c4⟩ := hc
 generalize hmid : (a + b) / 2 = mid at *
 unfold lo0 at c1 c3
 unfold hi0 at c2 c4
 rw [hmid] at c1 c2 c3 c4
 have hm2 : 2 * mid ≤ a + b ∧ a + b ≤ 2 * mid + 1 := by omega
 have b1 : a ≤ s := by split at c1 <;> omega
 have b2 : s ≤ mid := by split at c2 <;> omega
 have b3 : s ≤ m := by split at c2 <;> omega
 have b4 : mid + m - s ≤ b := by split at c1 <;> omega
 generalize he : mid + m - s = e at *
 obtain ⟨r1, r2, r3⟩ := hr
 have r2' : ∀ i, s ≤ i → i < mid → gs l1 i = gs l (i + (m - s)) := fun i h h' => r2 i h (by omega)
 have r3' : ∀ i, mid ≤ i → i < e → gs l1 i = gs l (i - (mid - s)) := fun i h h' => by rw [r3 i (by omega) h']; congr 1; omega
 refine ⟨⟨b1, b2, b3, by omega, by omega, b4⟩, ?_, ?_, ?_, ?_, ?_⟩
 ·exact (hA.sub (Nat.le_refl _) b3).congr fun i _ h => r1 i (.inl h)
 ·intro i j hi hij hj
  rw [r2' i hi (by omega), r2' j (by omega) hj]
  exact hB _ _ (by omega) (by omega) (by omega)
 ·intro i j hi hij hj
  rw [r3' i hi (by omega), r3' j (by omega) hj]
  exact hA _ _ (by omega) (by omega) (by omega)
 ·exact (hB.sub (by omega) (Nat.le_refl _)).congr fun i h _ => r1 i (.inr h)
 intro i j hi hi2 hj hj2
 by_cases x1 : i < s
 ·rw [r1 i (.inl x1)]
  by_cases x2 : j < e
  ·rw [r3' j hj x2]
   exact hA.le hi (by omega) (by omega)
  rw [r1 j (.inr (by omega))]
  have k1 : κ (gs l i) ≤ κ (gs l (s - 1)) := hA.le hi (by omega) (by omega)
  have k2 : κ (gs l e) ≤ κ (gs l j) := hB.le (by omega) (by omega) hj2
  have k3 := c3 (s - 1) (by split <;> omega) (by omega)
  rw [show mid + m - 1 - (s - 1) = e by omega] at k3
  omega
 rw [r2' i (by omega) hi2]
 by_cases x2 : j < e
 ·rw [r3' j hj x2]
  have k1 : κ (gs l (i + (m - s))) ≤ κ (gs l (e - 1)) := hB.le (by omega) (by omega) (by omega)
  have k2 : κ (gs l s) ≤ κ (gs l (j - (mid - s))) := hA.le (by omega) (by omega) (by omega)
  have k3 := c4 s (Nat.le_refl _) (by split <;> omega)
  rw [show mid + m - 1 - s = e - 1 by omega] at k3
  omega
 rw [r1 j (.inr (by omega))]
 exact hB.le (by omega) (by omega) hj2
theorem cut_join {κ : TV → Int} {l1 l2 l3 : List TV} {a mid b : Nat} (hab : a ≤ mid) (hmb : mid ≤ b) (hb : b ≤ l1.length) (h : ∀ i j, a ≤ i → i < mid → mid ≤ j → j < b → κ (gs l1 i) ≤ κ (gs l1 j)) (p2 : RP l1 l2 a mid) (s2 : SR κ l2 a mid) (p3 : RP l2 l3 mid b) (s3 : SR κ l3 mid b) : SR κ l3 a b := fun i j hi hij hj => by
 have hl2 := p2.len
 by_cases x1 : j < mid
 ·rw [p3.out i (.inl (by omega)), p3.out j (.inl x1)]
  exact s2 i j hi hij x1
 by_cases x2 : i < mid
 ·rw [p3.out i (.inl x2)]
  obtain ⟨i', h1, h2, e1⟩ := p2.from (by omega) hi x2
  obtain ⟨j', h3, h4, e2⟩ := p3.from (by omega) (by omega) hj
  rw [e1, e2, p2.out j' (.inr h3)]
  exact h i' j' h1 h2 h3 h4
 exact s3 i j (by omega) hij hj
/-! one moved along -/
structure MovU (l c : List TV) (a k : Nat) : Prop where
 len : c.length = l.length
 out : ∀ x, x < a ∨ k < x → gs c x = gs l x
 mov : ∀ x, a ≤ x → x < k → gs c x = gs l (x + 1)
 own : gs c k = gs l a
theorem MovU.start (l : List TV) (a : Nat) : MovU l l a a := ⟨rfl, fun _ _ => rfl, fun x h h' => by omega, rfl⟩
theorem MovU.next {l c : List TV} {a k : Nat} (h : MovU l c a k) (ha : a ≤ k) (hk : k + 1 < l.length) : MovU l (swp c k (k + 1)) a (k + 1) := by
 have hl := h.len
 have g := gs_swp (l := c) (i := k) (j := k + 1) (by omega) (by omega)
 refine ⟨by rw [swp_len, hl], fun x hx => ?_, fun x h1 h2 => ?_, ?_⟩
 ·rw [g, if_neg (by omega), if_neg (by omega), h.out x (by omega)]
 ·rw [g, if_neg (by omega)]
  by_cases e : x = k
  ·subst e; rw [if_pos rfl, h.out _ (by omega)]
  rw [if_neg e, h.mov x h1 (by omega)]
 rw [g, if_pos rfl, h.own]
theorem MovU.sorted {κ : TV → Int} {l c : List TV} {a b i : Nat} (h : MovU l c a (i - 1)) (hs : SR κ l (a + 1) b) (h1 : a + 1 ≤ i) (h2 : i ≤ b) (hl : ∀ x, a + 1 ≤ x → x < i → κ (gs l x) ≤ κ (gs l a)) (hr : ∀ x, i ≤ x → x < b → κ (gs l a) ≤ κ (gs l x)) : SR κ c a b := fun x y hx hxy hy => by
 by_cases e : x = i - 1
 ·rw [e, h.own, h.out y (.inr (by omega))]; exact hr y (by omega) hy
 by_cases e2 : y = i - 1
 ·rw [e2, h.own, h.mov x hx (by omega)]; exact hl _ (by omega) (by omega)
 by_cases x1 : y < i - 1
 ·rw [h.mov x hx (by omega), h.mov y (by omega) x1]; exact hs _ _ (by omega) (by omega) (by omega)
 rw [h.out y (.inr (by omega))]
 by_cases x2 : x < i - 1
 ·rw [h.mov x hx x2]; exact hs _ _ (by omega) (by omega) hy
 rw [h.out x (.inr (by omega))]; exact hs _ _ (by omega) hxy hy
structure MovD (l c : List TV) (m k : Nat) : Prop where
 len : c.length = l.length
 out : ∀ x, x < k ∨ m < x → gs c x = gs l x
 mov : ∀ x, k < x → x ≤ m → gs c x = gs l (x - 1)
 own : gs c k = gs l m
theorem MovD.start (l : List TV) (m : Nat) : MovD l l m m := ⟨rfl, fun _ _ => rfl, fun x h h' => by omega, rfl⟩
theorem MovD.next {l c : List TV} {m k : Nat} (h : MovD l c m k) (hk : 0 < k) (hkm : k ≤ m) (hm : m < l.length) : MovD l (swp c k (k - 1)) m (k - 1) := by
 have hl := h.len
 have g := gs_swp (l := c) (i := k) (j := k - 1) (by omega) (by omega)
 refine ⟨by rw [swp_len, hl], fun x hx => ?_, fun x h1 h2 => ?_, ?_⟩
 ·rw [g, if_neg (by omega), if_neg (by omega), h.out x (by omega)]
 ·rw [g, if_neg (by omega)]
  by_cases e : x = k
  ·subst e; rw [if_pos rfl, h.out _ (by omega)]
  rw [if_neg e, h.mov x (by omega) h2]
 rw [g, if_pos rfl, h.own]
theorem MovD.sorted {κ : TV → Int} {l c : List TV} {a m i : Nat} (h : MovD l c m i) (hs : SR κ l a m) (h1 : a ≤ i) (h2 : i ≤ m) (hl : ∀ x, a ≤ x → x < i → κ (gs l x) ≤ κ (gs l m)) (hr : ∀ x, i ≤ x → x < m → κ (gs l m) ≤ κ (gs l x)) : SR κ c a (m + 1) := fun x y hx hxy hy => by
 by_cases e : x = i
 ·rw [e, h.own, h.mov y (by omega) (by omega)]; exact hr _ (by omega) (by omega)
 by_cases e2 : y = i
 ·rw [e2, h.own, h.out x (.inl (by omega))]; exact hl x hx (by omega)
 by_cases x1 : y < i
 ·rw [h.out x (.inl (by omega)), h.out y (.inl x1)]; exact hs _ _ hx hxy (by omega)
 rw [h.mov y (by omega) (by omega)]
 by_cases x2 : x < i
 ·rw [h.out x (.inl x2)]; exact hs _ _ hx (by omega) (by omega)
 rw [h.mov x (by omega) (by omega)]; exact hs _ _ (by omega) (by omega) (by omega)
/-! blocks -/
def Blks (κ : TV → Int) (l : List TV) (n s lo hi : Nat) : Prop := ∀ k, lo ≤ k * s → k * s < hi → SR κ l (k * s) (min (k * s + s) n)
theorem Blks.done {κ : TV → Int} {l : List TV} {n s : Nat} (h : Blks κ l n s 0 n) (hs : n ≤ s) : SR κ l 0 n := by
 by_cases h0 : n = 0
 ·subst h0; exact SR.one _ _ (by omega)
 have := h 0 (by omega) (by omega)
 rw [Nat.zero_mul, Nat.zero_add, Nat.min_eq_right hs] at this
 exact this
theorem mul_gap {s j k : Nat} (h : j * s < k * s) : j * s + s ≤ k * s := by
 have hjk : j < k := Nat.lt_of_mul_lt_mul_right h
 have := Nat.mul_le_mul_right s (Nat.succ_le_of_lt hjk)
 rw [Nat.succ_mul] at this
 exact this
/-
 The library's stable sort of structs of three numbers by the third, walked: insertion, exchange of ranges, rotation.
-/
def ixT (x : TV) : Int := x.f * 1000 + x.g
def kT (x : TV) : Int := x.r * 1000000 + ixT x
def OkT (x : TV) : Prop := (0 ≤ x.f ∧ x.f < 1000) ∧ 0 ≤ x.g ∧ x.g < 1000
def cmpV (x y : TV) : Int := if x.r < y.r then -1 else if y.r < x.r then 1 else 0
theorem OkT.ix {x : TV} (h : OkT x) : 0 ≤ ixT x ∧ ixT x < 1000000 := by unfold OkT at h; unfold ixT; omega
theorem cmp_lt {x y : TV} (hx : OkT x) (hy : OkT y) (h : ixT y < ixT x) : cmpV x y < 0 ↔ kT x < kT y := by
 have h1 := hx.ix
 have h2 := hy.ix
 unfold cmpV kT
 by_cases e : x.r < y.r
 ·rw [if_pos e]; omega
 rw [if_neg e]
 by_cases e2 : y.r < x.r
 ·rw [if_pos e2]; omega
 rw [if_neg e2]; omega
theorem isNaN_c (x : Int) (w : World) : Ret Tryz.prog 221 [.int .i64 x] w (fun v w' => v = .bool false ∧ w' = w) := by
 refine Ret.of_cd Tryz.func221 O Tryz.ntmps221 O (post1 O) (Gbr O (ret1_b O ?_))
 exact ⟨by rw [decide_eq_false (fun h => h O)], O⟩
theorem cmpI_c (x y : Int) (w : World) : Ret Tryz.prog 176 [.int .i64 x, .int .i64 y] w (fun v w' => v = .int .i64 (if x < y then -1 else if y < x then 1 else 0) ∧ w' = w) := by
 refine Ret.of_cd Tryz.func176 O Tryz.ntmps176 O (post1 O) (Gbo O (Ops.call (isNaN_c x w) O O O ?_))
 rintro _ w1 ⟨rfl, rfl⟩
 refine Gdo O (Ops.call (isNaN_c y _) O O O ?_)
 rintro _ w1 ⟨rfl, rfl⟩
 refine Gdc O (Cd.cond_f O (Gac O (Cd.cond_f O (Gac O ?_))))
 refine Cd.cond_p _ O (fun h => ?_) (fun h => ?_)
 ·refine Gar O (ret1_i O ?_)
  exact ⟨by rw [if_pos h], O⟩
 refine Gac O ?_
 refine Cd.cond_p _ O (fun h2 => ?_) (fun h2 => ?_)
 ·refine Gar O (ret1_i O ?_)
  exact ⟨by rw [if_neg h, if_pos h2], O⟩
 refine Gar O (ret1_i O ?_)
 exact ⟨by rw [if_neg h, if_neg h2], O⟩
theorem cmpG_c (x y : TV) (w : World) :
  Ret Tryz.prog 175 [x.v, y.v] w (fun v w' => v = .int .i64 (cmpV x y) ∧ St w w' []) := by
 refine Ret.of_cd Tryz.func175 O Tryz.ntmps175 O (post1 O) (Gbo O (Ops.box3T (St.refl w) O O ?_))
 intro A2 w1 hS1
 refine Ops.box3T hS1 O O ?_
 intro A3 w2 hS2
 refine Gdo O (Ops.fld (hS2.rd 1 O) O O O O inferInstance (Ops.ldf_i (hS2.rd 1 O) O O O O O (Ops.fld (hS2.rd 0 O) O O O O inferInstance (Ops.ldf_i (hS2.rd 0 O) O O O O O (Ops.call (cmpI_c x.r y.r _) O O O ?_)))))
 rintro _ w3 ⟨rfl, rfl⟩
 refine Gdr O (ret1_i O ?_)
 exact ⟨O, hS2.none⟩
theorem gs_capd {ds : List TV} (h : ∀ s ∈ ds, OkT s) (i : Nat) : OkT (gs ds i) := by
 by_cases hi : i < ds.length
 ·rw [gs_mem hi]; exact h _ (List.getElem_mem _)
 have : gs ds i = tvNil := by simp [gs, List.getD_eq_getElem?_getD, List.getElem?_eq_none (Nat.le_of_not_lt hi)]
 rw [this]; exact ⟨⟨Int.le_refl _, by decide⟩, Int.le_refl _, by decide⟩
theorem RP.cap {ds ds' : List TV} {a b : Nat} (h : RP ds ds' a b) (hc : ∀ s ∈ ds, OkT s) : ∀ s ∈ ds', OkT s := fun s hs => hc s (h.perm.mem_iff.1 hs)
theorem st_gs {w0 w' : World} {t : TypeId} {A : Option Addr} {n c : Nat} {ks : List Ck} {L : List TV} {x s : TV} {i : Int} {j : Nat} (e : i.toNat = j) (g : s = x) (h : St w0 w' (CkT t A n c (L.set i.toNat s) :: ks)) : St w0 w' (CkT t A n c (L.set j x) :: ks) := by
 subst g; rw [← e]; exact h
theorem swapRange_c {w0 w : World} {ks : List Ck} {t : TypeId} {A : Option Addr} {n c : Nat} {P X M Y S : List TV} {G : FuncId} (a b m : Nat) (ha : P.length = a) (hb : P.length + X.length + M.length = b) (hm : X.length = m) (hxy : X.length = Y.length) (hn : n ≤ 4000000000000) (hS : St w0 w (CkT t A n c (P ++ X ++ M ++ Y ++ S) :: ks)) :
  Ret Tryz.prog 286 [.slice A n c, .int .i64 (a : Int), .int .i64 (b : Int), .int .i64 (m : Int), .func (.func G) #[] #[]] w (fun v w' => v = .tuple #[] ∧ St w0 w' (CkT t A n c (P ++ Y ++ M ++ X ++ S) :: ks)) := by
 have hln : (P ++ X ++ M ++ Y ++ S).length = n := (hS.rdT 0 O).1
 simp only [List.length_append] at hln
 refine Ret.of_cd Tryz.func286 O Tryz.ntmps286 O (post0 O) (Gbc O ?_)
 refine Cd.loop (α := Nat) (fun k => [(0, .slice A n c), (1, .int .i64 (a : Int)), (2, .int .i64 (b : Int)), (3, .int .i64 (m : Int)), (4, .func (.func G) #[] #[]), (10, .int .i64 (k : Int))]) (fun k w' => k ≤ m ∧ St w0 w' (CkT t A n c (P ++ (Y.take k ++ X.drop k) ++ M ++ (X.take k ++ Y.drop k) ++ S) :: ks)) (fun k => m - k) 0 ⟨O, O, O, O, O, O, trivial⟩ ⟨Nat.zero_le _, by simpa using hS⟩ ?_
 rintro k e w1 ⟨hk, hS1⟩
 refine Gbc O ?_
 refine Cd.cond_p _ O (fun h1 => ?_) (fun h1 => ?_)
 ·have hkx : k < X.length := by omega
  have hky : k < Y.length := by omega
  have hR := hS1.rdT 0 O
  have ga : tg (P ++ (Y.take k ++ X.drop k) ++ M ++ (X.take k ++ Y.drop k) ++ S) ((a : Int) + (k : Int)) = X[k] := by
   have e1 : ((a : Int) + (k : Int)).toNat = P.length + k := by omega
   unfold tg
   rw [e1, List.getD_eq_getElem?_getD]
   simp only [List.append_assoc]
   rw [List.getElem?_append_right (by omega), List.getElem?_append_right (by simp; omega), List.getElem?_append_left (by simp; omega)]
   simp [Nat.min_eq_left (Nat.le_of_lt hky), hkx]
  have gb : tg (P ++ (Y.take k ++ X.drop k) ++ M ++ (X.take k ++ Y.drop k) ++ S) ((b : Int) + (k : Int)) = Y[k] := by
   have e1 : ((b : Int) + (k : Int)).toNat = P.length + X.length + M.length + k := by omega
   unfold tg
   rw [e1, List.getD_eq_getElem?_getD]
   simp only [List.append_assoc]
   rw [List.getElem?_append_right (by omega), List.getElem?_append_right (by simp; omega), List.getElem?_append_right (by simp; omega), List.getElem?_append_right (by simp; omega), List.getElem?_append_right (by simp; omega), List.getElem?_append_left (by simp; omega)]
   have e2 : P.length + X.length + M.length + k - P.length - (List.take k Y).length - (List.drop k X).length - M.length - (List.take k X).length = 0 := by simp; omega
   rw [e2]
   simp [hky]
  have hx := exch P X M Y S k hxy hkx X[k] Y[k] (by simp [hkx]) (by simp [hky])
  have ea : ((a : Int) + (k : Int)).toNat = P.length + k := by omega
  have eb : ((b : Int) + (k : Int)).toNat = P.length + X.length + M.length + k := by omega
  generalize hL : P ++ (Y.take k ++ X.drop k) ++ M ++ (X.take k ++ Y.drop k) ++ S = L at *
  have hLl : L.length = n := hR.1
  refine Gac O ?_
  refine Cd.drawP [21, 23] [yS (A) (n) (c), yI ((a : Int)), yI ((k : Int)), yI (((a : Int)) + ((k : Int))), yS (A) (n) (c), yI ((b : Int)), yI ((k : Int)), yI (((b : Int)) + ((k : Int))), yS (A) (n) (c), yI ((b : Int)), yI ((k : Int)), yI (((b : Int)) + ((k : Int))), yP (ptrAt (A) ((((b : Int)) + ((k : Int))).toNat * 3)), .ex ((tg (L) (((b : Int)) + ((k : Int)))).v), yS (A) (n) (c), yI ((a : Int)), yI ((k : Int)), yI (((a : Int)) + ((k : Int))), yP (ptrAt (A) ((((a : Int)) + ((k : Int))).toNat * 3)), .ex ((tg (L) (((a : Int)) + ((k : Int)))).v), yP (ptrAt (A) ((((a : Int)) + ((k : Int))).toNat * 3)), .pr (fun _ w' => St w0 w' (CkT t A n c (L.set (P.length + k) Y[k]) :: ks)), yP (ptrAt (A) ((((b : Int)) + ((k : Int))).toNat * 3)), .pr (fun _ w' => St w0 w' (CkT t A n c ((L.set (P.length + k) Y[k]).set (P.length + X.length + M.length + k) X[k]) :: ks))] (by kernel_rfl) (by kernel_rfl) (ly (ly (ly (ly (ly (ly (ly (ly (ly (ly (ly (ly (ly (ly (ly (ly (ly (ly (ly (ly (ly (List.forall_mem_cons.2 ⟨Ye.lasts_pr (fun v w w' h hb => h.later hb), (ly (List.forall_mem_cons.2 ⟨Ye.lasts_pr (fun v w w' h hb => h.later hb), (fun _ h => by cases h)⟩))⟩)))))))))))))))))))))) ?_ ?_
  ·refine ⟨DrP O, DrP O, DrP O, aP fun _ _ => Ops.add O O O (by omega) (AzP O O), DrP O, DrP O, DrP O, aP fun _ _ => Ops.add O O O (by omega) (AzP O O), DrP O, DrP O, DrP O, aP fun _ _ => Ops.add O O O (by omega) (AzP O O), cP fun _ _ hb _ _ _ => Ops.idxT (hR.later hb) O O O (by omega) (by omega) (AzP O O), cP fun _ _ hb _ _ _ => Ops.ld_tv (hR.later hb) O (by omega) O (AzP O O), DrP O, DrP O, DrP O, aP fun _ _ => Ops.add O O O (by omega) (AzP O O), cP fun _ _ hb _ _ _ => Ops.idxT (hR.later hb) O O O (by omega) (by omega) (AzP O O), cP fun _ _ hb _ _ _ => Ops.ld_tv (hR.later hb) O (by omega) O (AzP O O), cP fun _ _ hb _ _ _ => Ops.idxT (hR.later hb) O O O (by omega) (by omega) (AzP O O), ?_, ?_, ?_, trivial⟩
   ·refine cPT fun e1 w1 hb hp hun hq => ?_
    refine Ops.st_tv 0 (hS1.later hb) O O O (by omega) ?_
    intro w6 hS6
    refine Ops.n ?_
    exact AfterU.st O (st_gs ea gb hS6)
   ·refine dP 1 fun e1 w1 hp hun hq => ?_
    have hph := hp 21 _ _ (by kernel_rfl) O O (by kernel_rfl)
    have hR6 := hph.rdT 0 O
    refine Ops.idxT (hR6) O O O (by omega) (by omega) (Ops.n (p0_ O (by exact O)))
   refine dPT 1 fun e1 w1 hp hun hq => ?_
   have hph := hp 21 _ _ (by kernel_rfl) O O (by kernel_rfl)
   have hR6 := hph.rdT 0 O
   refine Ops.st_tv 0 hph O O O (by omega) ?_
   intro w7 hS7
   refine Ops.n ?_
   exact AfterU.st O (st_gs eb ga hS7)
  intro u w5 _ hu _ _
  have hS5 := hu 23 _ O (by kernel_rfl)
  rw [hx] at hS5
  refine Geo O (Ops.add O O O (by omega) (Gdn O (tQ ?_)))
  exact ⟨k + 1, by show m - (k + 1) < m - k; omega, ⟨O, O, O, O, O, O, trivial⟩, by omega, hS5⟩
 have hkm : k = m := by omega
 subst hkm
 rw [List.take_of_length_le (by omega), List.take_of_length_le (by omega), List.drop_eq_nil_of_le (by omega), List.drop_eq_nil_of_le (by omega), List.append_nil, List.append_nil] at hS1
 refine Gax O (thenQ_x (Gfn O ?_))
 refine ret0_n ?_
 exact ⟨O, hS1⟩
theorem rotate_c {w0 w : World} {ks : List Ck} {t : TypeId} {A : Option Addr} {n c : Nat} {P X Y S : List TV} {G : FuncId} (a m b : Nat) (ha : P.length = a) (hm : P.length + X.length = m) (hb : P.length + X.length + Y.length = b) (hx0 : 0 < X.length) (hy0 : 0 < Y.length) (hn : n ≤ 4000000000000) (hS : St w0 w (CkT t A n c (P ++ (X ++ (Y ++ S))) :: ks)) :
  Ret Tryz.prog 275 [.slice A n c, .int .i64 (a : Int), .int .i64 (m : Int), .int .i64 (b : Int), .func (.func G) #[] #[]] w (fun v w' => v = .tuple #[] ∧ St w0 w' (CkT t A n c (P ++ (Y ++ (X ++ S))) :: ks)) := by
 have hln : (P ++ (X ++ (Y ++ S))).length = n := (hS.rdT 0 O).1
 simp only [List.length_append] at hln
 generalize hT : P ++ (Y ++ (X ++ S)) = T
 refine Ret.of_cd Tryz.func275 O Tryz.ntmps275 O (post0 O) ?_
 refine Gbo O (Ops.sub O O O (by omega) (Gdo O (Ops.sub O O O (by omega) (Gdc O ?_))))
 refine Cd.loop (α := List TV × List TV × List TV × List TV) (fun z => [(0, .slice A n c), (2, .int .i64 (m : Int)), (4, .func (.func G) #[] #[]), (10, .int .i64 (z.2.1.length : Int)), (11, .int .i64 (z.2.2.1.length : Int))]) (fun z w' => z.1.length + z.2.1.length = m ∧ 0 < z.2.1.length ∧ 0 < z.2.2.1.length ∧ z.1 ++ (z.2.2.1 ++ (z.2.1 ++ z.2.2.2)) = T ∧ z.1.length + (z.2.1.length + (z.2.2.1.length + z.2.2.2.length)) = n ∧ St w0 w' (CkT t A n c (z.1 ++ (z.2.1 ++ (z.2.2.1 ++ z.2.2.2))) :: ks)) (fun z => z.2.1.length + z.2.2.1.length) (P, X, Y, S)
  ⟨rfl, rfl, rfl, by show Value.int .i64 ((m : Int) - (a : Int)) = .int .i64 (X.length : Int); congr 1; omega, by show Value.int .i64 ((b : Int) - (m : Int)) = .int .i64 (Y.length : Int); congr 1; omega, trivial⟩ ⟨hm, hx0, hy0, hT, by show P.length + (X.length + (Y.length + S.length)) = n; omega, hS⟩ ?_
 rintro ⟨P', X', Y', S'⟩ e w1 ⟨hm', hx', hy', hT', hl', hS1⟩
 dsimp only at hm' hx' hy' hT' hl' hS1 ⊢
 refine Gbc O ?_
 refine Cd.cond_p _ O (fun h1 => ?_) (fun h1 => ?_)
 ·refine Gac O ?_
  refine Cd.cond_p _ O (fun h2 => ?_) (fun h2 => ?_)
  ·have hj : Y'.length ≤ X'.length := by omega
   obtain ⟨X1, X2, rfl, hX1⟩ : ∃ X1 X2, X' = X1 ++ X2 ∧ X1.length = Y'.length := ⟨X'.take Y'.length, X'.drop Y'.length, (List.take_append_drop _ _).symm, by simp; omega⟩
   have hlen : (X1 ++ X2).length = X1.length + X2.length := List.length_append
   simp only [List.length_append] at hm' hx' hl' h1 h2
   refine Gao O (Ops.sub O O O (by omega) (Gdo O ?_))
   refine Ops.call (swapRange_c (P := P') (X := X1) (M := X2) (Y := Y') (S := S') P'.length m Y'.length O (by omega) hX1 hX1 hn (by simpa using hS1)) O (by show [Value.slice A n c, .int .i64 ((m : Int) - ((X1 ++ X2).length : Int)), .int .i64 (m : Int), .int .i64 (Y'.length : Int), .func (.func G) #[] #[]] = _; congr 3; simp; omega) O ?_
   rintro _ w2 ⟨rfl, hS2⟩
   refine Gdo O (Ops.sub O O O (by omega) (Gdn O (tQ ?_)))
   exact ⟨(P' ++ Y', X2, X1, S'), by show X2.length + X1.length < (X1 ++ X2).length + Y'.length; simp; omega, ⟨O, O, O, by show Value.int .i64 _ = .int .i64 _; congr 1; simp; omega, congrArg (fun k : Nat => Value.int .i64 (k : Int)) hX1.symm, trivial⟩, by simp; omega, by show 0 < X2.length; omega, by show 0 < X1.length; omega, by show (P' ++ Y') ++ (X1 ++ (X2 ++ S')) = T; rw [← hT']; simp, by show (P' ++ Y').length + _ = n; simp; omega, by simpa using hS2⟩
  have hj : X'.length < Y'.length := by omega
  obtain ⟨Y1, Y2, rfl, hY2⟩ : ∃ Y1 Y2, Y' = Y1 ++ Y2 ∧ Y2.length = X'.length := ⟨Y'.take (Y'.length - X'.length), Y'.drop (Y'.length - X'.length), (List.take_append_drop _ _).symm, by simp; omega⟩
  have hlen : (Y1 ++ Y2).length = Y1.length + Y2.length := List.length_append
  simp only [List.length_append] at hy' hl' h1 h2 hj
  refine Gao O (Ops.sub O O O (by omega) (Gdo O (Ops.add O O O (by omega) (Gdo O (Ops.sub O O O (by omega) (Gdo O ?_))))))
  refine Ops.call (swapRange_c (P := P') (X := X') (M := Y1) (Y := Y2) (S := S') P'.length (m + Y1.length) X'.length O (by omega) O hY2.symm hn (by simpa using hS1)) O (by show [Value.slice A n c, .int .i64 ((m : Int) - (X'.length : Int)), .int .i64 ((m : Int) + ((Y1 ++ Y2).length : Int) - (X'.length : Int)), .int .i64 (X'.length : Int), .func (.func G) #[] #[]] = _; rw [show (m : Int) + ((Y1 ++ Y2).length : Int) - (X'.length : Int) = ((m + Y1.length : Nat) : Int) by omega, show (m : Int) - (X'.length : Int) = (P'.length : Int) by omega]) O ?_
  rintro _ w2 ⟨rfl, hS2⟩
  refine Gdo O (Ops.sub O O O (by omega) (Gdn O (tQ ?_)))
  exact ⟨(P', Y2, Y1, X' ++ S'), by show Y2.length + Y1.length < X'.length + (Y1 ++ Y2).length; simp; omega, ⟨O, O, O, congrArg (fun k : Nat => Value.int .i64 (k : Int)) hY2.symm, by show Value.int .i64 _ = .int .i64 _; congr 1; simp; omega, trivial⟩, by show P'.length + Y2.length = m; omega, by show 0 < Y2.length; omega, by show 0 < Y1.length; omega, by show P' ++ (Y1 ++ (Y2 ++ (X' ++ S'))) = T; rw [← hT']; simp, by show P'.length + (Y2.length + (Y1.length + (X' ++ S').length)) = n; simp; omega, by simpa using hS2⟩
 have hxy : X'.length = Y'.length := by omega
 refine Gax O (thenQ_x (Gfo O (Ops.sub O O O (by omega) (Gdo O ?_))))
 refine Ops.call (swapRange_c (P := P') (X := X') (M := []) (Y := Y') (S := S') P'.length m X'.length O (by simpa using hm') O hxy hn (by simpa using hS1)) O (by show [Value.slice A n c, .int .i64 ((m : Int) - (X'.length : Int)), .int .i64 (m : Int), .int .i64 (X'.length : Int), .func (.func G) #[] #[]] = _; congr 3; omega) O ?_
 rintro _ w2 ⟨rfl, hS2⟩
 refine Gdn O (ret0_n ?_)
 exact ⟨O, by rw [← hT']; simpa using hS2⟩
theorem insertion_c {w0 w : World} {ks : List Ck} {t : TypeId} {A : Option Addr} {n c : Nat} {ds : List TV} (a b : Nat) (hb : b ≤ n) (ha : a ≤ n) (hn : n ≤ 4000000000000) (hc : ∀ s ∈ ds, OkT s) (hord : ∀ x y, a ≤ x → x < y → y < b → ixT (gs ds x) < ixT (gs ds y)) (hS : St w0 w (CkT t A n c ds :: ks)) :
  Ret Tryz.prog 253 [.slice A n c, .int .i64 (a : Int), .int .i64 (b : Int), .func (.func 175) #[] #[]] w (fun v w' => v = .tuple #[] ∧ ∃ ds', RP ds ds' a b ∧ SR kT ds' a b ∧ St w0 w' (CkT t A n c ds' :: ks)) := by
 have hln : ds.length = n := (hS.rdT 0 O).1
 refine Ret.of_cd Tryz.func253 O Tryz.ntmps253 O (post0 O) ?_
 refine Gbo O (Ops.add O O O (by omega) (Gdc O ?_))
 refine Cd.loop (α := Nat × List TV) (fun z => [(0, .slice A n c), (1, .int .i64 (a : Int)), (2, .int .i64 (b : Int)), (3, .func (.func 175) #[] #[]), (8, .int .i64 (z.1 : Int))]) (fun z w' => a + 1 ≤ z.1 ∧ RP ds z.2 a b ∧ SR kT z.2 a z.1 ∧ (∀ x, z.1 ≤ x → gs z.2 x = gs ds x) ∧ (∀ x y, a ≤ x → x < z.1 → z.1 ≤ y → y < b → ixT (gs z.2 x) < ixT (gs ds y)) ∧ St w0 w' (CkT t A n c z.2 :: ks)) (fun z => b - z.1) (a + 1, ds) ⟨O, O, O, O, O, trivial⟩ ⟨Nat.le_refl _, RP.refl _ _ _, SR.one _ _ (Nat.le_refl _), fun _ _ => O, fun x y h1 h2 h3 h4 => hord x y h1 (Nat.lt_of_lt_of_le h2 h3) h4, hS⟩ ?_
 rintro ⟨i, cur⟩ e w1 ⟨hi, hp, hs, hun, hlw, hS1⟩
 dsimp only at hi hp hs hun hlw hS1 ⊢
 refine Gbc O ?_
 refine Cd.cond_p _ O (fun h1 => ?_) (fun h1 => ?_)
 ·refine Gac O ?_
  refine Cd.loop (α := Nat × List TV) (fun z => [(0, .slice A n c), (1, .int .i64 (a : Int)), (2, .int .i64 (b : Int)), (3, .func (.func 175) #[] #[]), (8, .int .i64 (i : Int)), (9, .int .i64 (z.1 : Int))]) (fun z w' => RP ds z.2 a b ∧ InsI kT z.2 a i z.1 ∧ gs z.2 z.1 = gs ds i ∧ (∀ x, i < x → gs z.2 x = gs ds x) ∧ (∀ x y, a ≤ x → x ≤ i → x ≠ z.1 → i ≤ y → y < b → ixT (gs z.2 x) < ixT (gs ds y)) ∧ St w0 w' (CkT t A n c z.2 :: ks)) (fun z => z.1) (i, cur) ⟨O, O, O, O, O, O, trivial⟩ ⟨hp, InsI.start hs (by omega), hun i (Nat.le_refl _), fun x hx => hun x (Nat.le_of_lt hx), fun x y h3 h4 h5 h6 h7 => hlw x y h3 (by have h5 : x ≠ i := h5; omega) h6 h7, hS1⟩ ?_
  rintro ⟨j, cu⟩ e w2 ⟨hp2, hI, hel, hun2, hlw2, hS2⟩
  dsimp only at hp2 hI hel hun2 hlw2 hS2 ⊢
  have hcl : cu.length = n := (hS2.rdT 0 O).1
  have hR := hS2.rdT 0 O
  have hlow := hI.low
  have hhigh := hI.high
  have hcap := gs_capd (hp2.cap hc)
  refine Gbc O ?_
  by_cases haj : a < j
  ·
   have ej : ((j : Int) - 1).toNat = j - 1 := by omega
   have g1 : tg cu (j : Int) = gs cu j := O
   have g2 : tg cu ((j : Int) - 1) = gs cu (j - 1) := by unfold tg gs; rw [ej]
   refine Cd.draw [xI ((j : Int)), xI ((a : Int)), xB (decide (((a : Int)) < ((j : Int)))), xB (true), .ex (.func (.func 175) #[] #[]), xS (A) (n) (c), xI ((j : Int)), xP (ptrAt (A) (((j : Int)).toNat * 3)), .ex ((tg (cu) ((j : Int))).v), xS (A) (n) (c), xI ((j : Int)), xI (((j : Int)) - ((1 : Int))), xP (ptrAt (A) ((((j : Int)) - ((1 : Int))).toNat * 3)), .ex ((tg (cu) (((j : Int)) - ((1 : Int)))).v), xI (cmpV (gs cu j) (gs cu (j - 1))), xB (decide ((cmpV (gs cu j) (gs cu (j - 1))) < ((0 : Int)))), xB (decide ((cmpV (gs cu j) (gs cu (j - 1))) < ((0 : Int))))] (by kernel_rfl) (by kernel_rfl) O (exL O) ?_ ?_
   ·refine ⟨Dr O, Dr O, Dr O, fun _ _ _ _ _ => Dk O (by exact congrArg Value.bool (decide_eq_true (by omega))), Dr O, Dr O, Dr O, fun _ _ hb _ _ => Ops.g O O O (Ops.idxT (hR.later hb) O O O (by omega) (by omega) (Az O)), fun _ _ hb _ _ => Ops.g O O O (Ops.ld_tv (hR.later hb) O (by omega) O (Az O)), Dr O, Dr O, fun _ _ _ _ _ => Ops.g O O O (Ops.sub O O O (by omega) (Az O)), fun _ _ hb _ _ => Ops.g O O O (Ops.idxT (hR.later hb) O O O (by omega) (by omega) (Az O)), fun _ _ hb _ _ => Ops.g O O O (Ops.ld_tv (hR.later hb) O (by omega) O (Az O)), ?_, Dr O, Dr O, trivial⟩
    intro e1 w1 hb hp hun
    refine Ops.g O O O ?_
    refine Ops.call (cmpG_c (gs cu j) (gs cu (j - 1)) _) O (by rw [← g2]; rfl) O ?_
    rintro _ w9 ⟨rfl, hst9⟩
    refine Ops.n ?_
    exact After.dn hst9.below (by exact O)
   intro u w3 hb3 _
   have hS3 := hS2.later hb3
   have hcmp := cmp_lt (hcap j) (hcap (j - 1)) (by rw [hel]; exact hlw2 (j - 1) i (by omega) (by omega) (by omega) (Nat.le_refl _) (by omega))
   refine Gec O ?_
   refine Cd.cond_p _ O (fun h2 => ?_) (fun h2 => ?_)
   ·have hR3 := hS3.rdT 0 O
    have hlt : kT (gs cu j) < kT (gs cu (j - 1)) := hcmp.1 h2
    have gsw := fun x => gs_swp (l := cu) (i := j) (j := j - 1) (by omega) (by omega) x
    refine Gac O ?_
    refine Cd.drawP [15, 17] [yS (A) (n) (c), yI ((j : Int)), yS (A) (n) (c), yI ((j : Int)), yI (((j : Int)) - ((1 : Int))), yS (A) (n) (c), yI ((j : Int)), yI (((j : Int)) - ((1 : Int))), yP (ptrAt (A) ((((j : Int)) - ((1 : Int))).toNat * 3)), .ex ((tg (cu) (((j : Int)) - ((1 : Int)))).v), yS (A) (n) (c), yI ((j : Int)), yP (ptrAt (A) (((j : Int)).toNat * 3)), .ex ((tg (cu) ((j : Int))).v), yP (ptrAt (A) (((j : Int)).toNat * 3)), .pr (fun _ w' => St w0 w' (CkT t A n c (cu.set j (gs cu (j - 1))) :: ks)), yP (ptrAt (A) ((((j : Int)) - ((1 : Int))).toNat * 3)), .pr (fun _ w' => St w0 w' (CkT t A n c (swp cu j (j - 1)) :: ks))] (by kernel_rfl) (by kernel_rfl) (ly (ly (ly (ly (ly (ly (ly (ly (ly (ly (ly (ly (ly (ly (ly (List.forall_mem_cons.2 ⟨Ye.lasts_pr (fun v w w' h hb => h.later hb), (ly (List.forall_mem_cons.2 ⟨Ye.lasts_pr (fun v w w' h hb => h.later hb), (fun _ h => by cases h)⟩))⟩)))))))))))))))) ?_ ?_
    ·refine ⟨DrP O, DrP O, DrP O, DrP O, aP fun _ _ => Ops.sub O O O (by omega) (AzP O O), DrP O, DrP O, aP fun _ _ => Ops.sub O O O (by omega) (AzP O O), cP fun _ _ hb _ _ _ => Ops.idxT (hR3.later hb) O O O (by omega) (by omega) (AzP O O), cP fun _ _ hb _ _ _ => Ops.ld_tv (hR3.later hb) O (by omega) O (AzP O O), DrP O, DrP O, cP fun _ _ hb _ _ _ => Ops.idxT (hR3.later hb) O O O (by omega) (by omega) (AzP O O), cP fun _ _ hb _ _ _ => Ops.ld_tv (hR3.later hb) O (by omega) O (AzP O O), cP fun _ _ hb _ _ _ => Ops.idxT (hR3.later hb) O O O (by omega) (by omega) (AzP O O), ?_, ?_, ?_, trivial⟩
     ·refine cPT fun e1 w1 hb hp hun hq => ?_
      refine Ops.st_tv 0 (hS3.later hb) O O O (by omega) ?_
      intro w6 hS6
      refine Ops.n ?_
      exact AfterU.st O (st_gs (i := (j : Int)) O g2 hS6)
     ·refine dP 1 fun e1 w1 hp hun hq => ?_
      have hph := hp 15 _ _ (by kernel_rfl) O O (by kernel_rfl)
      have hR6 := hph.rdT 0 O
      have hl6 : (cu.set j (gs cu (j - 1))).length = n := by rw [List.length_set]; exact hcl
      refine Ops.idxT (hR6) O O O (by omega) (by omega) (Ops.n (p0_ O (by exact O)))
     refine dPT 1 fun e1 w1 hp hun hq => ?_
     have hph := hp 15 _ _ (by kernel_rfl) O O (by kernel_rfl)
     have hR6 := hph.rdT 0 O
     have hl6 : (cu.set j (gs cu (j - 1))).length = n := by rw [List.length_set]; exact hcl
     refine Ops.st_tv 0 hph O O O (by omega) ?_
     intro w7 hS7
     refine Ops.n ?_
     exact AfterU.st O (st_gs ej g1 hS7)
    intro u w5 _ hu _ _
    have hS5 := hu 17 _ O (by kernel_rfl)
    refine Geo O (Ops.sub O O O (by omega) (Gdn O (tQ ?_)))
    exact ⟨(j - 1, swp cu j (j - 1)), by show j - 1 < j; omega, ⟨O, O, O, O, O, by show Value.int .i64 _ = .int .i64 _; congr 1; omega, trivial⟩, hp2.trans (swp_RP (by omega) (by omega) (Nat.le_of_lt haj) (by omega) (by omega) (by omega)) (Nat.le_refl _) (Nat.le_refl _), hI.next haj (by omega) hlt, by show gs (swp cu j (j - 1)) (j - 1) = _; rw [gsw, if_pos O]; exact hel, fun x hx => by rw [gsw, if_neg (by omega), if_neg (by omega)]; exact hun2 x hx, fun x y h3 h4 h5 h6 h7 => by { have h5 : x ≠ j - 1 := h5; rw [gsw, if_neg h5]; by_cases e : x = j; { rw [if_pos e]; exact hlw2 (j - 1) y (by omega) (by omega) (by omega) h6 h7 }; { rw [if_neg e]; exact hlw2 x y h3 h4 e h6 h7 } }, hS5⟩
   refine Gax O (thenQ_x (Gfo O (Ops.add O O O (by omega) (Gdn O (tQ ?_)))))
   exact ⟨(i + 1, cu), by show b - (i + 1) < b - i; omega, ⟨O, O, O, O, O, trivial⟩, by show a + 1 ≤ i + 1; omega, hp2, hI.stop (.inr (Int.not_lt.1 fun h => h2 (hcmp.2 h))), fun x hx => hun2 x (by have hx : i + 1 ≤ x := hx; omega), fun x y h3 h4 h5 h6 => by { have h4 : x < i + 1 := h4; have h5 : i + 1 ≤ y := h5; by_cases e : x = j; { rw [e, hel]; exact hord i y (by omega) (by omega) h6 }; { exact hlw2 x y h3 (by omega) e (by omega) h6 } }, hS3⟩
  refine Cd.draw [xI ((j : Int)), xI ((a : Int)), xB (decide (((a : Int)) < ((j : Int)))), xB (false), xU, xU, xU, xU, xU, xU, xU, xU, xU, xU, xU, xU, xB (false)] (by kernel_rfl) (by kernel_rfl) O (exL O) ?_ ?_
  ·exact ⟨Dr O, Dr O, Dr O, fun _ _ _ _ _ => Dk O (by exact congrArg Value.bool (decide_eq_false (by omega))), Dr O, Dr O, Dr O, Dr O, Dr O, Dr O, Dr O, Dr O, Dr O, Dr O, Dr O, Dr O, Dr O, trivial⟩
  intro u w3 hb3 _
  have hS3 := hS2.later hb3
  refine Gec O (Cd.cond_f O ?_)
  refine Gax O (thenQ_x (Gfo O (Ops.add O O O (by omega) (Gdn O (tQ ?_)))))
  exact ⟨(i + 1, cu), by show b - (i + 1) < b - i; omega, ⟨O, O, O, O, O, trivial⟩, by show a + 1 ≤ i + 1; omega, hp2, hI.stop (.inl (by omega)), fun x hx => hun2 x (by have hx : i + 1 ≤ x := hx; omega), fun x y h3 h4 h5 h6 => by { have h4 : x < i + 1 := h4; have h5 : i + 1 ≤ y := h5; by_cases e : x = j; { rw [e, hel]; exact hord i y (by omega) (by omega) h6 }; { exact hlw2 x y h3 (by omega) e (by omega) h6 } }, hS3⟩
 refine Gax O (thenQ_x (Gfn O ?_))
 refine ret0_n ?_
 exact ⟨O, cur, hp, hs.sub (Nat.le_refl _) (by omega), hS1⟩
end Go.Proofs.YtopgfgdgfjddpaaGreatDoor.Vc.TS
/-
 Plain mathematics of products: the program's order of the pairs is the reference's.
-/
namespace Go.Proofs.YtopgfgdgfjddpaaGreatDoor.Vc
open TS
def LftP (m1 m2 : Nat) (kind : Int) (a b : Int) : Prop :=
 if kind = 1 then (a = 0 ∨ b = 0 ∨ (a = (m1 : Int) - 1 ∧ b = (m2 : Int) - 1)) else if kind = 2 then (a = (m1 : Int) - 1 ∨ b = (m2 : Int) - 1 ∨ (a = 0 ∧ b = 0)) else ((a = 0 ∧ b = 0) ∨ (a = (m1 : Int) - 1 ∧ b = (m2 : Int) - 1))
instance (m1 m2 : Nat) (kind a b : Int) : Decidable (LftP m1 m2 kind a b) := by unfold LftP; infer_instance
def alR (m1 m2 : Nat) (kind : Int) (a : Int) (b : Nat) : List (Int × Int) := ((rngI b).filter fun b => decide (¬ LftP m1 m2 kind a b)).map fun b => (a, b)
def alP (m1 m2 : Nat) (kind : Int) (a b : Nat) : List (Int × Int) := (rngI a).flatMap (fun a => alR m1 m2 kind a m2) ++ alR m1 m2 kind (a : Int) b
def tvP (rk1 rk2 : Int → Int) (kind : Int) (c : Int × Int) : TV := ⟨c.1, c.2, rkP rk1 rk2 kind c⟩
section
variable {m1 m2 : Nat} {kind : Int} {n1 n2 : Int} {rk1 rk2 : Int → Int} {und1 und2 : Int → Int → Prop}
theorem rngI_snoc (n : Nat) : rngI (n + 1) = rngI n ++ [(n : Int)] := by
 unfold rngI
 rw [List.range_succ, List.map_append]; rfl
theorem alR_0 (a : Int) : alR m1 m2 kind a 0 = [] := rfl
theorem alP_row (a : Nat) : alP m1 m2 kind (a + 1) 0 = alP m1 m2 kind a m2 := by
 unfold alP
 rw [rngI_snoc, List.flatMap_append, alR_0, List.append_nil]
 simp
theorem alP_put {a b : Nat} (h : ¬ LftP m1 m2 kind (a : Int) (b : Int)) : alP m1 m2 kind a (b + 1) = alP m1 m2 kind a b ++ [((a : Int), (b : Int))] := by
 unfold alP alR
 rw [rngI_snoc, List.filter_append, List.map_append, List.append_assoc]
 simp [h]
theorem alP_skip {a b : Nat} (h : LftP m1 m2 kind (a : Int) (b : Int)) : alP m1 m2 kind a (b + 1) = alP m1 m2 kind a b := by
 unfold alP alR
 rw [rngI_snoc, List.filter_append, List.map_append]
 simp [h]
theorem alR_len (a : Int) (b : Nat) : (alR m1 m2 kind a b).length ≤ b := by
 unfold alR
 rw [List.length_map]
 refine Nat.le_trans (List.length_filter_le _ _) ?_
 rw [rngI, List.length_map, List.length_range]; exact Nat.le_refl _
theorem alP_len : ∀ a b : Nat, b ≤ m2 → (alP m1 m2 kind a b).length ≤ a * m2 + b := by
 intro a
 induction a with
 | zero => intro b hb; have := alR_len (m1 := m1) (m2 := m2) (kind := kind) ((0 : Nat) : Int) b; simpa [alP, rngI] using this
 | succ a ih =>
  intro b hb
  have h1 := ih m2 (Nat.le_refl _)
  rw [← alP_row] at h1
  have h2 := alR_len (m1 := m1) (m2 := m2) (kind := kind) ((a + 1 : Nat) : Int) b
  unfold alP at h1 ⊢
  rw [alR_0, List.append_nil] at h1
  rw [List.length_append, Nat.succ_mul]
  omega
theorem alP_mem {c : Int × Int} : c ∈ alP m1 m2 kind m1 0 ↔ (0 ≤ c.1 ∧ c.1 < m1) ∧ (0 ≤ c.2 ∧ c.2 < m2) ∧ ¬ LftP m1 m2 kind c.1 c.2 := by
 unfold alP
 rw [alR_0, List.append_nil, List.mem_flatMap]
 unfold alR
 constructor
 ·rintro ⟨a, ha, h⟩
  obtain ⟨b, hb, rfl⟩ := List.mem_map.1 h
  rw [List.mem_filter, rngI_mem, decide_eq_true_eq] at hb
  exact ⟨(rngI_mem _ _).1 ha, hb.1, hb.2⟩
 rintro ⟨h1, h2, h3⟩
 exact ⟨c.1, (rngI_mem _ _).2 h1, List.mem_map.2 ⟨c.2, List.mem_filter.2 ⟨(rngI_mem _ _).2 h2, decide_eq_true h3⟩, O⟩⟩
theorem alP_ord (h : m2 ≤ 1000) : (alP m1 m2 kind m1 0).Pairwise fun c d => c.1 * 1000 + c.2 < d.1 * 1000 + d.2 := by
 unfold alP
 rw [alR_0, List.append_nil]
 refine List.pairwise_flatMap.2 ⟨fun a _ => ?_, (rngI_SA m1).imp_of_mem fun {a a'} ha ha' hlt x hx y hy => ?_⟩
 ·unfold alR
  refine List.pairwise_map.2 (((rngI_SA m2).filter _).imp fun h => ?_)
  show a * 1000 + _ < a * 1000 + _
  omega
 unfold alR at hx hy
 obtain ⟨b, hb, rfl⟩ := List.mem_map.1 hx
 obtain ⟨b', hb', rfl⟩ := List.mem_map.1 hy
 have h1 := (rngI_mem _ _).1 (List.mem_filter.1 hb).1
 have h2 := (rngI_mem _ _).1 (List.mem_filter.1 hb').1
 show a * 1000 + b < a' * 1000 + b'
 omega
theorem left_iff (h1 : Lat m1 n1 rk1 und1) (h2 : Lat m2 n2 rk2 und2) (hk : 0 ≤ kind ∧ kind ≤ 2) {k : Nat} (hn : (k : Int) = rnP n1 n2 kind) {c : Int × Int} : ((0 ≤ c.1 ∧ c.1 < m1) ∧ (0 ≤ c.2 ∧ c.2 < m2) ∧ ¬ LftP m1 m2 kind c.1 c.2) ↔ ∃ i : Nat, i < k ∧ ElP m1 m2 rk1 rk2 kind i c := by
 have z1 := h1.r0; have z2 := h2.r0; have t1 := h1.rt; have t2 := h2.rt; have w1 := h1.two; have w2 := h2.two; have m1n := h1.n0; have m2n := h2.n0
 obtain ⟨a, b⟩ := c
 show ((0 ≤ a ∧ a < m1) ∧ (0 ≤ b ∧ b < m2) ∧ ¬ LftP m1 m2 kind a b) ↔ ∃ i : Nat, i < k ∧ (0 ≤ a ∧ a < m1) ∧ (0 ≤ b ∧ b < m2) ∧ rk1 a + rk2 b + shP kind = i ∧ ¬ ((kind = 1 ∧ (a = 0 ∨ b = 0)) ∨ (kind = 2 ∧ (a = (m1 : Int) - 1 ∨ b = (m2 : Int) - 1)))
 unfold rnP at hn
 constructor
 ·rintro ⟨ha, hb, hl⟩
  have ra := h1.rng ha; have rb := h2.rng hb
  have za := fun h => h1.zero ha h; have zb := fun h => h2.zero hb h
  have ta := fun h => h1.whole ha h; have tb := fun h => h2.whole hb h
  unfold LftP at hl
  unfold shP
  by_cases k1 : kind = 1
  ·rw [if_pos k1] at hl
   rw [if_neg (by omega)] at hn
   refine ⟨(rk1 a + rk2 b).toNat, ?_, ha, hb, ?_, by omega⟩
   ·have : ¬ (rk1 a = n1 ∧ rk2 b = n2) := fun h => hl (.inr (.inr ⟨ta h.1, tb h.2⟩))
    omega
   rw [if_pos k1]
   have : rk1 a ≠ -1 := fun h => hl (.inl (za h))
   have : rk2 b ≠ -1 := fun h => hl (.inr (.inl (zb h)))
   omega
  rw [if_neg k1] at hl ⊢
  by_cases k2 : kind = 2
  ·rw [if_pos k2] at hl
   rw [if_neg (by omega)] at hn
   have q1 : rk1 a ≠ n1 := fun h => hl (.inl (ta h))
   have q2 : rk2 b ≠ n2 := fun h => hl (.inr (.inl (tb h)))
   have q3 : ¬ (rk1 a = -1 ∧ rk2 b = -1) := fun h => hl (.inr (.inr ⟨za h.1, zb h.2⟩))
   exact ⟨(rk1 a + rk2 b + 1).toNat, by omega, ha, hb, by omega, by omega⟩
  rw [if_neg k2] at hl
  rw [if_pos (by omega)] at hn
  have q3 : ¬ (rk1 a = -1 ∧ rk2 b = -1) := fun h => hl (.inl ⟨za h.1, zb h.2⟩)
  have q4 : ¬ (rk1 a = n1 ∧ rk2 b = n2) := fun h => hl (.inr ⟨ta h.1, tb h.2⟩)
  exact ⟨(rk1 a + rk2 b + 1).toNat, by omega, ha, hb, by omega, by omega⟩
 rintro ⟨i, hi, ha, hb, hr, he⟩
 refine ⟨ha, hb, fun hl => ?_⟩
 have ra := h1.rng ha; have rb := h2.rng hb
 unfold shP at hr
 unfold LftP at hl
 by_cases k1 : kind = 1
 ·rw [if_pos k1] at hl hr
  rw [if_neg (by omega)] at hn
  rcases hl with h | h | ⟨h, h'⟩
  ·exact he (.inl ⟨k1, .inl h⟩)
  ·exact he (.inl ⟨k1, .inr h⟩)
  rw [h, h', t1, t2] at hr; omega
 rw [if_neg k1] at hl hr
 by_cases k2 : kind = 2
 ·rw [if_pos k2] at hl
  rcases hl with h | h | ⟨h, h'⟩
  ·exact he (.inr ⟨k2, .inl h⟩)
  ·exact he (.inr ⟨k2, .inr h⟩)
  rw [h, h', z1, z2] at hr; omega
 rw [if_neg k2] at hl
 rw [if_pos (by omega)] at hn
 rcases hl with ⟨h, h'⟩ | ⟨h, h'⟩
 ·rw [h, h', z1, z2] at hr; omega
 rw [h, h', t1, t2] at hr; omega
end
theorem perm_sort {α : Type} (k : α → Int) : ∀ {l' l : List α}, l.Perm l' → l.Pairwise (fun x y => k x ≤ k y) → l'.Pairwise (fun x y => k x < k y) → l = l'
 | [], l, h, _, _ => h.eq_nil
 | b :: r', l, h, h1, h2 => by
  cases l with
  | nil => exact absurd h.symm.eq_nil (by simp)
  | cons a r =>
   have hab : a = b := by
    have ha : a ∈ b :: r' := h.subset (List.mem_cons_self ..)
    have hb : b ∈ a :: r := h.symm.subset (List.mem_cons_self ..)
    rcases List.mem_cons.1 ha with e | e
    ·exact e
    ·have h3 := (List.pairwise_cons.1 h2).1 a e
     rcases List.mem_cons.1 hb with e' | e'
     ·exact e'.symm
     ·have h4 := (List.pairwise_cons.1 h1).1 b e'
      omega
   subst hab
   rw [perm_sort k (h.cons_inv) (List.pairwise_cons.1 h1).2 (List.pairwise_cons.1 h2).2]
theorem prR1_ord {m1 m2 : Nat} {rk1 rk2 : Int → Int} {kind : Int} {i : Int} (h : m2 ≤ 1000) : (prR1 m1 m2 rk1 rk2 kind i).Pairwise fun c d => c.1 * 1000 + c.2 < d.1 * 1000 + d.2 := by
 unfold prR1
 refine List.pairwise_flatMap.2 ⟨fun a _ => ?_, (rngI_SA m1).imp_of_mem fun {a a'} ha ha' hlt x hx y hy => ?_⟩
 ·refine List.pairwise_map.2 (((rngI_SA m2).filter _).imp fun h => ?_)
  show a * 1000 + _ < a * 1000 + _
  omega
 obtain ⟨b, hb, rfl⟩ := List.mem_map.1 hx
 obtain ⟨b', hb', rfl⟩ := List.mem_map.1 hy
 have h1 := (rngI_mem _ _).1 (List.mem_filter.1 hb).1
 have h2 := (rngI_mem _ _).1 (List.mem_filter.1 hb').1
 show a * 1000 + b < a' * 1000 + b'
 omega
theorem prL_ord {m1 m2 : Nat} {rk1 rk2 : Int → Int} {kind : Int} (h : m2 ≤ 1000) (h1 : m1 ≤ 1000) : ∀ k : Nat, ((prL m1 m2 rk1 rk2 kind k).map (tvP rk1 rk2 kind)).Pairwise fun x y => kT x < kT y
 | 0 => List.Pairwise.nil
 | k + 1 => by
  rw [prL, List.map_append, List.pairwise_append]
  refine ⟨prL_ord h h1 k, List.pairwise_map.2 ((prR1_ord h).imp_of_mem fun {c d} hc hd hlt => ?_), fun x hx y hy => ?_⟩
  ·have e1 := (prR1_mem.1 hc).2.2.1
   have e2 := (prR1_mem.1 hd).2.2.1
   show (rkP rk1 rk2 kind c) * 1000000 + (c.1 * 1000 + c.2) < (rkP rk1 rk2 kind d) * 1000000 + (d.1 * 1000 + d.2)
   omega
  ·obtain ⟨c, hc, rfl⟩ := List.mem_map.1 hx
   obtain ⟨d, hd, rfl⟩ := List.mem_map.1 hy
   obtain ⟨i, hi, hc⟩ := prL_mem.1 hc
   have hd := prR1_mem.1 hd
   have e1 := hc.2.2.1
   have e2 := hd.2.2.1
   have := hc.1; have := hc.2.1; have := hd.1; have := hd.2.1
   show (rkP rk1 rk2 kind c) * 1000000 + (c.1 * 1000 + c.2) < (rkP rk1 rk2 kind d) * 1000000 + (d.1 * 1000 + d.2)
   omega
theorem alP_perm {m1 m2 : Nat} {kind : Int} {n1 n2 : Int} {rk1 rk2 : Int → Int} {und1 und2 : Int → Int → Prop} (h1 : Lat m1 n1 rk1 und1) (h2 : Lat m2 n2 rk2 und2) (hk : 0 ≤ kind ∧ kind ≤ 2) {k : Nat} (hn : (k : Int) = rnP n1 n2 kind) (hm2 : m2 ≤ 1000) : (alP m1 m2 kind m1 0).Perm (prL m1 m2 rk1 rk2 kind k) := by
 refine (List.perm_ext_iff_of_nodup ?_ (prL_nodup k)).2 fun c => ?_
 ·exact (alP_ord hm2).imp fun h e => by rw [e] at h; omega
 rw [alP_mem, prL_mem]
 exact left_iff h1 h2 hk hn
theorem tg_map (f : Int × Int → TV) (L : List (Int × Int)) {i : Nat} (h : i < L.length) : tg (L.map f) (i : Int) = f (gp L (i : Int)) := by
 rw [gp_mem h]
 unfold tg
 rw [Int.toNat_natCast, List.getD_eq_getElem?_getD, List.getElem?_eq_getElem (by simpa using h), Option.getD_some, List.getElem_map]
theorem tg_take (L : List TV) {i j : Nat} (h : j < i) (hi : i ≤ L.length) : tg (L.take i) (j : Int) = tg L (j : Int) := by
 unfold tg
 rw [Int.toNat_natCast, List.getD_eq_getElem?_getD, List.getD_eq_getElem?_getD, List.getElem?_take_of_lt h]
theorem sorted_prL {m1 m2 : Nat} {kind : Int} {n1 n2 : Int} {rk1 rk2 : Int → Int} {und1 und2 : Int → Int → Prop} (h1 : Lat m1 n1 rk1 und1) (h2 : Lat m2 n2 rk2 und2) (hk : 0 ≤ kind ∧ kind ≤ 2) {k : Nat} (hn : (k : Int) = rnP n1 n2 kind) (hm1 : m1 ≤ 1000) (hm2 : m2 ≤ 1000) {ds : List TV} (hp : ds.Perm ((alP m1 m2 kind m1 0).map (tvP rk1 rk2 kind))) (hs : SR kT ds 0 ds.length) : ds = (prL m1 m2 rk1 rk2 kind k).map (tvP rk1 rk2 kind) := by
 have hP : (alP m1 m2 kind m1 0).Perm (prL m1 m2 rk1 rk2 kind k) := by
  refine (List.perm_ext_iff_of_nodup ?_ (prL_nodup k)).2 fun c => ?_
  ·exact (alP_ord hm2).imp fun h e => by rw [e] at h; omega
  rw [alP_mem, prL_mem]
  exact left_iff h1 h2 hk hn
 refine perm_sort kT (hp.trans (hP.map _)) ?_ (prL_ord hm2 hm1 k)
 refine List.pairwise_iff_getElem.2 fun i j hi hj hij => ?_
 have := hs i j (Nat.zero_le _) hij hj
 rwa [gs_mem hi, gs_mem hj] at this
theorem alP_all (m1 m2 : Nat) (kind : Int) (rk1 rk2 : Int → Int) (hm1 : m1 ≤ 1000) (hm2 : m2 ≤ 1000) : (∀ s ∈ (alP m1 m2 kind m1 0).map (tvP rk1 rk2 kind), OkT s) ∧ ∀ x y, x < y → y < ((alP m1 m2 kind m1 0).map (tvP rk1 rk2 kind)).length → ixT (gs ((alP m1 m2 kind m1 0).map (tvP rk1 rk2 kind)) x) < ixT (gs ((alP m1 m2 kind m1 0).map (tvP rk1 rk2 kind)) y) := by
 constructor
 ·intro s hs
  obtain ⟨c, hc, rfl⟩ := List.mem_map.1 hs
  have := alP_mem.1 hc
  show (0 ≤ c.1 ∧ c.1 < 1000) ∧ 0 ≤ c.2 ∧ c.2 < 1000
  omega
 intro x y hxy hy
 rw [gs_mem (by omega), gs_mem hy, List.getElem_map, List.getElem_map]
 rw [List.length_map] at hy
 exact List.pairwise_iff_getElem.1 (alP_ord (m1 := m1) (kind := kind) hm2) x y (by omega) hy hxy
end Go.Proofs.YtopgfgdgfjddpaaGreatDoor.Vc
/-
 The library's stable sort of structs of three numbers, walked: two sorted ranges joined; all.
-/
namespace Go.Proofs.YtopgfgdgfjddpaaGreatDoor.Vc.TS
open Go.RowKit
theorem cut_rng {a m b : Nat} (h1 : a < m) (h2 : m < b) {c : Nat} (hc : lo0 a m b ≤ c) (hc2 : c < hi0 a m b) : a ≤ c ∧ c < m ∧ m ≤ (a + b) / 2 + m - 1 - c ∧ (a + b) / 2 + m - 1 - c < b := by
 unfold lo0 at hc
 unfold hi0 at hc2
 by_cases h : (a + b) / 2 < m
 ·rw [if_pos h] at hc hc2; omega
 rw [if_neg h] at hc hc2; omega
theorem lo_hi {a m b : Nat} (h1 : a < m) (h2 : m < b) : lo0 a m b ≤ hi0 a m b := by
 unfold lo0 hi0
 split <;> omega
theorem symMerge_c {w0 : World} {ks : List Ck} {t : TypeId} {A : Option Addr} {n c : Nat} (hn : n ≤ 4000000000000) : ∀ (f a m b : Nat), b - a ≤ f → a < m → m < b → b ≤ n → ∀ (ds : List TV) (w : World), (∀ s ∈ ds, OkT s) → (∀ x y, a ≤ x → x < m → m ≤ y → y < b → ixT (gs ds x) < ixT (gs ds y)) → SR kT ds a m → SR kT ds m b → St w0 w (CkT t A n c ds :: ks) →
    Ret Tryz.prog 254 [.slice A n c, .int .i64 (a : Int), .int .i64 (m : Int), .int .i64 (b : Int), .func (.func 175) #[] #[]] w (fun v w' => v = .tuple #[] ∧ ∃ ds', RP ds ds' a b ∧ SR kT ds' a b ∧ St w0 w' (CkT t A n c ds' :: ks)) := by
  intro f
  induction f with
  | zero => intro a m b h1 h2 h3; omega
  | succ f ih =>
    intro a m b hf ham hmb hbn ds w hc hsep hA hB hS
    have hln : ds.length = n := (hS.rdT 0 O).1
    have hcap := gs_capd hc
    have hcmp := fun x y h1 h2 h3 h4 => cmp_lt (hcap y) (hcap x) (hsep x y h1 h2 h3 h4)
    refine Ret.of_cd Tryz.func254 O Tryz.ntmps254 O (post0 O) ?_
    refine Gbo O (Ops.sub O O O (by omega) (Gdc O ?_))
    refine Cd.cond_p _ O (fun h1 => ?_) (fun h1 => ?_)
    · have hm : m = a + 1 := by omega
      refine Gac O ?_
      refine Cd.loop (α := Nat × Nat) (fun z => [(0, .slice A n c), (1, .int .i64 (a : Int)), (2, .int .i64 (m : Int)), (3, .int .i64 (b : Int)), (4, .func (.func 175) #[] #[]), (10, .int .i64 (z.1 : Int)), (11, .int .i64 (z.2 : Int))])
        (fun z w' => (m ≤ z.1 ∧ z.1 ≤ z.2 ∧ z.2 ≤ b) ∧ (∀ x, m ≤ x → x < z.1 → kT (gs ds x) < kT (gs ds a)) ∧ (∀ x, z.2 ≤ x → x < b → kT (gs ds a) ≤ kT (gs ds x)) ∧ St w0 w' (CkT t A n c ds :: ks)) (fun z => z.2 - z.1) (m, b) ⟨rfl, rfl, rfl, rfl, rfl, rfl, rfl, trivial⟩ ⟨⟨Nat.le_refl _, by show m ≤ b; omega, Nat.le_refl _⟩, fun x h h' => by omega, fun x h h' => by omega, hS⟩ ?_
      rintro ⟨i, j⟩ e w1 ⟨⟨hi0, hij, hjb⟩, hL, hR, hS1⟩
      dsimp only at hi0 hij hjb hL hR hS1 ⊢
      refine Gbc O ?_
      refine Cd.cond_p _ O (fun h2 => ?_) (fun h2 => ?_)
      · refine Gao O (Ops.add O O O (by omega) ?_)
        refine Ops.convK O O (wrap_u64_in _ (by omega)) (Ops.shr1 O O O (by omega) (Ops.convK O O (IntWalk.i64_in _ (by omega)) (Gdc O ?_)))
        obtain ⟨h, hh⟩ : ∃ h : Nat, h = (i + j) / 2 := ⟨_, rfl⟩
        rw [show ((i : Int) + (j : Int)) / 2 = (h : Int) by omega]
        have hR1 := hS1.rdT 0 O
        have g1 : tg ds (h : Int) = gs ds h := O
        have g2 : tg ds (a : Int) = gs ds a := O
        refine Cd.draw [.ex (.func (.func 175) #[] #[]), xS (A) (n) (c), xI ((h : Int)), xP (ptrAt (A) (((h : Int)).toNat * 3)), .ex ((tg (ds) ((h : Int))).v), xS (A) (n) (c), xI ((a : Int)), xP (ptrAt (A) (((a : Int)).toNat * 3)), .ex ((tg (ds) ((a : Int))).v), xI (cmpV (gs ds h) (gs ds a)), xB (decide ((cmpV (gs ds h) (gs ds a)) < ((0 : Int))))] (by kernel_rfl) (by kernel_rfl) O (exL O) ?_ ?_
        · refine ⟨Dr O, Dr O, Dr O, fun _ _ hb _ _ => Ops.idxT (hR1.later hb) O O O (by omega) (by omega) (Az O), fun _ _ hb _ _ => Ops.ld_tv (hR1.later hb) O (by omega) O (Az O), Dr O, Dr O, fun _ _ hb _ _ => Ops.idxT (hR1.later hb) O O O (by omega) (by omega) (Az O), fun _ _ hb _ _ => Ops.ld_tv (hR1.later hb) O (by omega) O (Az O), ?_, Dr O, trivial⟩
          · intro e1 w1 hb hp hun
            refine Ops.call (cmpG_c (gs ds h) (gs ds a) _) O O O ?_
            rintro _ w9 ⟨rfl, hst9⟩
            refine Ops.n ?_
            exact After.dn hst9.below (by exact O)
        intro u w2 hb2 _
        have hS2 := hS1.later hb2
        refine Gec O ?_
        refine Cd.cond_p _ O (fun h3 => ?_) (fun h3 => ?_)
        · refine Gao O (Ops.add O O O (by omega) (Gdn O (tQ ?_)))
          refine ⟨(h + 1, j), by show j - (h + 1) < j - i; omega, ⟨O, O, O, O, O, O, O, trivial⟩, ⟨by show m ≤ h + 1; omega, by show h + 1 ≤ j; omega, hjb⟩, fun x hx1 hx2 => ?_, hR, hS2⟩
          have hx2 : x < h + 1 := hx2
          have k1 : kT (gs ds x) ≤ kT (gs ds h) := hB.le hx1 (by omega) (by omega)
          have k2 : kT (gs ds h) < kT (gs ds a) := (hcmp a h (Nat.le_refl _) ham (by omega) (by omega)).1 h3
          omega
        · refine Gan O (tQ ?_)
          refine ⟨(i, h), by show h - i < j - i; omega, ⟨O, O, O, O, O, O, O, trivial⟩, ⟨hi0, by show i ≤ h; omega, by show h ≤ b; omega⟩, hL, fun x hx1 hx2 => ?_, hS2⟩
          have hx1 : h ≤ x := hx1
          have k1 : kT (gs ds h) ≤ kT (gs ds x) := hB.le (by omega) hx1 hx2
          have k2 : kT (gs ds a) ≤ kT (gs ds h) := Int.not_lt.1 fun h' => h3 ((hcmp a h (Nat.le_refl _) ham (by omega) (by omega)).2 h')
          omega
      · have hije : i = j := by omega
        subst hije
        refine Gax O (thenQ_x (Gfc O ?_))
        refine Cd.loop (α := Nat × List TV) (fun z => [(0, .slice A n c), (4, .func (.func 175) #[] #[]), (10, .int .i64 (i : Int)), (13, .int .i64 (z.1 : Int))]) (fun z w' => (a ≤ z.1 ∧ z.1 ≤ i - 1) ∧ RP ds z.2 a b ∧ MovU ds z.2 a z.1 ∧ St w0 w' (CkT t A n c z.2 :: ks)) (fun z => i - z.1) (a, ds) ⟨O, O, O, O, trivial⟩ ⟨⟨Nat.le_refl _, by show a ≤ i - 1; omega⟩, RP.refl _ _ _, MovU.start _ _, hS1⟩ ?_
        rintro ⟨k, cu⟩ e w2 ⟨⟨hk1, hk2⟩, hp, hmv, hS2⟩
        dsimp only at hk1 hk2 hp hmv hS2 ⊢
        have hcl : cu.length = n := (hS2.rdT 0 O).1
        refine Gbo O (Ops.sub O O O (by omega) (Gdc O ?_))
        refine Cd.cond_p _ O (fun h3 => ?_) (fun h3 => ?_)
        · have hR3 := hS2.rdT 0 O
          have ek : ((k : Int) + 1).toNat = k + 1 := by omega
          have g1 : tg cu (k : Int) = gs cu k := O
          have g2 : tg cu ((k : Int) + 1) = gs cu (k + 1) := by unfold tg gs; rw [ek]
          refine Gac O ?_
          refine Cd.drawP [15, 17] [yS (A) (n) (c), yI ((k : Int)), yS (A) (n) (c), yI ((k : Int)), yI (((k : Int)) + ((1 : Int))), yS (A) (n) (c), yI ((k : Int)), yI (((k : Int)) + ((1 : Int))), yP (ptrAt (A) ((((k : Int)) + ((1 : Int))).toNat * 3)), .ex ((tg (cu) (((k : Int)) + ((1 : Int)))).v), yS (A) (n) (c), yI ((k : Int)), yP (ptrAt (A) (((k : Int)).toNat * 3)), .ex ((tg (cu) ((k : Int))).v), yP (ptrAt (A) (((k : Int)).toNat * 3)), .pr (fun _ w' => St w0 w' (CkT t A n c (cu.set k (gs cu (k + 1))) :: ks)), yP (ptrAt (A) ((((k : Int)) + ((1 : Int))).toNat * 3)), .pr (fun _ w' => St w0 w' (CkT t A n c (swp cu k (k + 1)) :: ks))] (by kernel_rfl) (by kernel_rfl) (ly (ly (ly (ly (ly (ly (ly (ly (ly (ly (ly (ly (ly (ly (ly (List.forall_mem_cons.2 ⟨Ye.lasts_pr (fun v w w' h hb => h.later hb), (ly (List.forall_mem_cons.2 ⟨Ye.lasts_pr (fun v w w' h hb => h.later hb), (fun _ h => by cases h)⟩))⟩)))))))))))))))) ?_ ?_
          · refine ⟨DrP O, DrP O, DrP O, DrP O, aP fun _ _ => Ops.add O O O (by omega) (AzP O O), DrP O, DrP O, aP fun _ _ => Ops.add O O O (by omega) (AzP O O), cP fun _ _ hb _ _ _ => Ops.idxT (hR3.later hb) O O O (by omega) (by omega) (AzP O O), cP fun _ _ hb _ _ _ => Ops.ld_tv (hR3.later hb) O (by omega) O (AzP O O), DrP O, DrP O, cP fun _ _ hb _ _ _ => Ops.idxT (hR3.later hb) O O O (by omega) (by omega) (AzP O O), cP fun _ _ hb _ _ _ => Ops.ld_tv (hR3.later hb) O (by omega) O (AzP O O), cP fun _ _ hb _ _ _ => Ops.idxT (hR3.later hb) O O O (by omega) (by omega) (AzP O O), ?_, ?_, ?_, trivial⟩
            · refine cPT fun e1 w1 hb hp hun hq => ?_
              refine Ops.st_tv 0 (hS2.later hb) O O O (by omega) ?_
              intro w6 hS6
              refine Ops.n ?_
              exact AfterU.st O (st_gs (i := (k : Int)) O g2 hS6)
            · refine dP 1 fun e1 w1 hp hun hq => ?_
              have hph := hp 15 _ _ (by kernel_rfl) O O (by kernel_rfl)
              have hR6 := hph.rdT 0 O
              have hl6 : (cu.set k (gs cu (k + 1))).length = n := by rw [List.length_set]; exact hcl
              refine Ops.idxT (hR6) O O O (by omega) (by omega) (Ops.n (p0_ O (by exact O)))
            · refine dPT 1 fun e1 w1 hp hun hq => ?_
              have hph := hp 15 _ _ (by kernel_rfl) O O (by kernel_rfl)
              have hR6 := hph.rdT 0 O
              have hl6 : (cu.set k (gs cu (k + 1))).length = n := by rw [List.length_set]; exact hcl
              refine Ops.st_tv 0 hph O O O (by omega) ?_
              intro w7 hS7
              refine Ops.n ?_
              exact AfterU.st O (st_gs ek g1 hS7)
          intro u w5 _ hu _ _
          have hS5 := hu 17 _ O (by kernel_rfl)
          refine Geo O (Ops.add O O O (by omega) (Gdn O (tQ ?_)))
          exact ⟨(k + 1, swp cu k (k + 1)), by show i - (k + 1) < i - k; omega, ⟨O, O, O, O, trivial⟩, ⟨by show a ≤ k + 1; omega, by show k + 1 ≤ i - 1; omega⟩, hp.trans (swp_RP (by omega) (by omega) hk1 (by omega) (by omega) (by omega)) (Nat.le_refl _) (Nat.le_refl _), hmv.next hk1 (by omega), hS5⟩
        · have hke : k = i - 1 := by omega
          subst hke
          refine Gax O (thenQ_x (Gfr O ?_))
          refine ret0_r ?_
          exact ⟨O, cu, hp, hmv.sorted (hm ▸ hB) (by omega) hjb (fun x h4 h5 => Int.le_of_lt (hL x (by omega) h5)) hR, hS2⟩
    refine Gao O (Ops.sub O O O (by omega) (Gdc O ?_))
    refine Cd.cond_p _ O (fun h2 => ?_) (fun h2 => ?_)
    · have hb1 : b = m + 1 := by omega
      refine Gac O ?_
      refine Cd.loop (α := Nat × Nat) (fun z => [(0, .slice A n c), (1, .int .i64 (a : Int)), (2, .int .i64 (m : Int)), (3, .int .i64 (b : Int)), (4, .func (.func 175) #[] #[]), (14, .int .i64 (z.1 : Int)), (15, .int .i64 (z.2 : Int))])
        (fun z w' => (a ≤ z.1 ∧ z.1 ≤ z.2 ∧ z.2 ≤ m) ∧ (∀ x, a ≤ x → x < z.1 → kT (gs ds x) ≤ kT (gs ds m)) ∧ (∀ x, z.2 ≤ x → x < m → kT (gs ds m) ≤ kT (gs ds x)) ∧ St w0 w' (CkT t A n c ds :: ks)) (fun z => z.2 - z.1) (a, m) ⟨rfl, rfl, rfl, rfl, rfl, rfl, rfl, trivial⟩ ⟨⟨Nat.le_refl _, by show a ≤ m; omega, Nat.le_refl _⟩, fun x h h' => by omega, fun x h h' => by omega, hS⟩ ?_
      rintro ⟨i, j⟩ e w1 ⟨⟨hi0, hij, hjb⟩, hL, hR, hS1⟩
      dsimp only at hi0 hij hjb hL hR hS1 ⊢
      refine Gbc O ?_
      refine Cd.cond_p _ O (fun h3 => ?_) (fun h3 => ?_)
      · refine Gao O (Ops.add O O O (by omega) ?_)
        refine Ops.convK O O (wrap_u64_in _ (by omega)) (Ops.shr1 O O O (by omega) (Ops.convK O O (IntWalk.i64_in _ (by omega)) (Gdc O ?_)))
        obtain ⟨h, hh⟩ : ∃ h : Nat, h = (i + j) / 2 := ⟨_, rfl⟩
        rw [show ((i : Int) + (j : Int)) / 2 = (h : Int) by omega]
        have hR1 := hS1.rdT 0 O
        have g1 : tg ds (h : Int) = gs ds h := O
        have g2 : tg ds (m : Int) = gs ds m := O
        refine Cd.draw [.ex (.func (.func 175) #[] #[]), xS (A) (n) (c), xI ((m : Int)), xP (ptrAt (A) (((m : Int)).toNat * 3)), .ex ((tg (ds) ((m : Int))).v), xS (A) (n) (c), xI ((h : Int)), xP (ptrAt (A) (((h : Int)).toNat * 3)), .ex ((tg (ds) ((h : Int))).v), xI (cmpV (gs ds m) (gs ds h)), xB (decide ((cmpV (gs ds m) (gs ds h)) < ((0 : Int)))), xB (decide (¬ ((cmpV (gs ds m) (gs ds h)) < ((0 : Int)))))] (by kernel_rfl) (by kernel_rfl) O (exL O) ?_ ?_
        · refine ⟨Dr O, Dr O, Dr O, fun _ _ hb _ _ => Ops.idxT (hR1.later hb) O O O (by omega) (by omega) (Az O), fun _ _ hb _ _ => Ops.ld_tv (hR1.later hb) O (by omega) O (Az O), Dr O, Dr O, fun _ _ hb _ _ => Ops.idxT (hR1.later hb) O O O (by omega) (by omega) (Az O), fun _ _ hb _ _ => Ops.ld_tv (hR1.later hb) O (by omega) O (Az O), ?_, Dr O, fun _ _ _ _ _ => Ops.not_p O O (Az O), trivial⟩
          · intro e1 w1 hb hp hun
            refine Ops.call (cmpG_c (gs ds m) (gs ds h) _) O O O ?_
            rintro _ w9 ⟨rfl, hst9⟩
            refine Ops.n ?_
            exact After.dn hst9.below (by exact O)
        intro u w2 hb2 _
        have hS2 := hS1.later hb2
        refine Gec O ?_
        refine Cd.cond_p _ O (fun h4 => ?_) (fun h4 => ?_)
        · refine Gao O (Ops.add O O O (by omega) (Gdn O (tQ ?_)))
          refine ⟨(h + 1, j), by show j - (h + 1) < j - i; omega, ⟨O, O, O, O, O, O, O, trivial⟩, ⟨by show a ≤ h + 1; omega, by show h + 1 ≤ j; omega, hjb⟩, fun x hx1 hx2 => ?_, hR, hS2⟩
          have hx2 : x < h + 1 := hx2
          have k1 : kT (gs ds x) ≤ kT (gs ds h) := hA.le hx1 (by omega) (by omega)
          have k2 : kT (gs ds h) ≤ kT (gs ds m) := Int.not_lt.1 fun h' => h4 ((hcmp h m (by omega) (by omega) (Nat.le_refl _) hmb).2 h')
          omega
        · refine Gan O (tQ ?_)
          refine ⟨(i, h), by show h - i < j - i; omega, ⟨O, O, O, O, O, O, O, trivial⟩, ⟨hi0, by show i ≤ h; omega, by show h ≤ m; omega⟩, hL, fun x hx1 hx2 => ?_, hS2⟩
          have hx1 : h ≤ x := hx1
          have k1 : kT (gs ds h) ≤ kT (gs ds x) := hA.le (by omega) hx1 hx2
          have k2 : kT (gs ds m) ≤ kT (gs ds h) := Int.le_of_lt ((hcmp h m (by omega) (by omega) (Nat.le_refl _) hmb).1 (Classical.not_not.1 h4))
          omega
      · have hije : i = j := by omega
        subst hije
        refine Gax O (thenQ_x (Gfc O ?_))
        refine Cd.loop (α := Nat × List TV) (fun z => [(0, .slice A n c), (4, .func (.func 175) #[] #[]), (14, .int .i64 (i : Int)), (17, .int .i64 (z.1 : Int))]) (fun z w' => (i ≤ z.1 ∧ z.1 ≤ m) ∧ RP ds z.2 a b ∧ MovD ds z.2 m z.1 ∧ St w0 w' (CkT t A n c z.2 :: ks)) (fun z => z.1) (m, ds) ⟨O, O, O, O, trivial⟩ ⟨⟨hjb, Nat.le_refl _⟩, RP.refl _ _ _, MovD.start _ _, hS1⟩ ?_
        rintro ⟨k, cu⟩ e w2 ⟨⟨hk1, hk2⟩, hp, hmv, hS2⟩
        dsimp only at hk1 hk2 hp hmv hS2 ⊢
        have hcl : cu.length = n := (hS2.rdT 0 O).1
        refine Gbc O ?_
        refine Cd.cond_p _ O (fun h4 => ?_) (fun h4 => ?_)
        · have hR3 := hS2.rdT 0 O
          have ek : ((k : Int) - 1).toNat = k - 1 := by omega
          have g1 : tg cu (k : Int) = gs cu k := O
          have g2 : tg cu ((k : Int) - 1) = gs cu (k - 1) := by unfold tg gs; rw [ek]
          refine Gac O ?_
          refine Cd.drawP [15, 17] [yS (A) (n) (c), yI ((k : Int)), yS (A) (n) (c), yI ((k : Int)), yI (((k : Int)) - ((1 : Int))), yS (A) (n) (c), yI ((k : Int)), yI (((k : Int)) - ((1 : Int))), yP (ptrAt (A) ((((k : Int)) - ((1 : Int))).toNat * 3)), .ex ((tg (cu) (((k : Int)) - ((1 : Int)))).v), yS (A) (n) (c), yI ((k : Int)), yP (ptrAt (A) (((k : Int)).toNat * 3)), .ex ((tg (cu) ((k : Int))).v), yP (ptrAt (A) (((k : Int)).toNat * 3)), .pr (fun _ w' => St w0 w' (CkT t A n c (cu.set k (gs cu (k - 1))) :: ks)), yP (ptrAt (A) ((((k : Int)) - ((1 : Int))).toNat * 3)), .pr (fun _ w' => St w0 w' (CkT t A n c (swp cu k (k - 1)) :: ks))] (by kernel_rfl) (by kernel_rfl) (ly (ly (ly (ly (ly (ly (ly (ly (ly (ly (ly (ly (ly (ly (ly (List.forall_mem_cons.2 ⟨Ye.lasts_pr (fun v w w' h hb => h.later hb), (ly (List.forall_mem_cons.2 ⟨Ye.lasts_pr (fun v w w' h hb => h.later hb), (fun _ h => by cases h)⟩))⟩)))))))))))))))) ?_ ?_
          · refine ⟨DrP O, DrP O, DrP O, DrP O, aP fun _ _ => Ops.sub O O O (by omega) (AzP O O), DrP O, DrP O, aP fun _ _ => Ops.sub O O O (by omega) (AzP O O), cP fun _ _ hb _ _ _ => Ops.idxT (hR3.later hb) O O O (by omega) (by omega) (AzP O O), cP fun _ _ hb _ _ _ => Ops.ld_tv (hR3.later hb) O (by omega) O (AzP O O), DrP O, DrP O, cP fun _ _ hb _ _ _ => Ops.idxT (hR3.later hb) O O O (by omega) (by omega) (AzP O O), cP fun _ _ hb _ _ _ => Ops.ld_tv (hR3.later hb) O (by omega) O (AzP O O), cP fun _ _ hb _ _ _ => Ops.idxT (hR3.later hb) O O O (by omega) (by omega) (AzP O O), ?_, ?_, ?_, trivial⟩
            · refine cPT fun e1 w1 hb hp hun hq => ?_
              refine Ops.st_tv 0 (hS2.later hb) O O O (by omega) ?_
              intro w6 hS6
              refine Ops.n ?_
              exact AfterU.st O (st_gs (i := (k : Int)) O g2 hS6)
            · refine dP 1 fun e1 w1 hp hun hq => ?_
              have hph := hp 15 _ _ (by kernel_rfl) O O (by kernel_rfl)
              have hR6 := hph.rdT 0 O
              have hl6 : (cu.set k (gs cu (k - 1))).length = n := by rw [List.length_set]; exact hcl
              refine Ops.idxT (hR6) O O O (by omega) (by omega) (Ops.n (p0_ O (by exact O)))
            · refine dPT 1 fun e1 w1 hp hun hq => ?_
              have hph := hp 15 _ _ (by kernel_rfl) O O (by kernel_rfl)
              have hR6 := hph.rdT 0 O
              have hl6 : (cu.set k (gs cu (k - 1))).length = n := by rw [List.length_set]; exact hcl
              refine Ops.st_tv 0 hph O O O (by omega) ?_
              intro w7 hS7
              refine Ops.n ?_
              exact AfterU.st O (st_gs ek g1 hS7)
          intro u w5 _ hu _ _
          have hS5 := hu 17 _ O (by kernel_rfl)
          refine Geo O (Ops.sub O O O (by omega) (Gdn O (tQ ?_)))
          exact ⟨(k - 1, swp cu k (k - 1)), by show k - 1 < k; omega, ⟨O, O, O, by show Value.int .i64 _ = .int .i64 _; congr 1; omega, trivial⟩, ⟨by show i ≤ k - 1; omega, by show k - 1 ≤ m; omega⟩, hp.trans (swp_RP (by omega) (by omega) (by omega) (by omega) (by omega) (by omega)) (Nat.le_refl _) (Nat.le_refl _), hmv.next (by omega) hk2 (by omega), hS5⟩
        · have hke : k = i := by omega
          subst hke
          refine Gax O (thenQ_x (Gfr O ?_))
          refine ret0_r ?_
          exact ⟨O, cu, hp, hb1 ▸ hmv.sorted hA hi0 hjb hL hR, hS2⟩
    have h1 : a + 1 < m := by omega
    have h2 : m + 1 < b := by omega
    refine Gao O (Ops.add O O O (by omega) ?_)
    refine Ops.convK O O (wrap_u64_in _ (by omega)) (Ops.shr1 O O O (by omega) (Ops.convK O O (IntWalk.i64_in _ (by omega)) ?_))
    obtain ⟨mid, hmid⟩ : ∃ h : Nat, h = (a + b) / 2 := ⟨_, rfl⟩
    rw [show ((a : Int) + (b : Int)) / 2 = (mid : Int) by omega]
    have hm2 : 2 * mid ≤ a + b ∧ a + b ≤ 2 * mid + 1 := by omega
    have hlh := lo_hi ham hmb
    have hh0 : hi0 a m b ≤ m := by unfold hi0; split <;> omega
    have hrng := fun c => cut_rng ham hmb (c := c)
    rw [← hmid] at hrng
    refine Gdo O (Ops.add O O O (by omega) (Gdj 2 O ?_))
    refine Cd.join (α := Unit) (fun _ => [(0, .slice A n c), (1, .int .i64 (a : Int)), (2, .int .i64 (m : Int)), (3, .int .i64 (b : Int)), (4, .func (.func 175) #[] #[]), (18, .int .i64 (mid : Int)), (19, .int .i64 ((mid : Int) + (m : Int))), (20, .int .i64 ((lo0 a m b : Nat) : Int)), (21, .int .i64 ((hi0 a m b : Nat) : Int))]) (fun _ w' => w' = w) ?_ ?_
    · refine Gbc O ?_
      refine Cd.cond_p _ O (fun h3 => ?_) (fun h3 => ?_)
      · have e1 : lo0 a m b = mid + m - b := by unfold lo0; rw [if_pos (by omega), ← hmid]
        have e2 : hi0 a m b = mid := by unfold hi0; rw [if_pos (by omega), ← hmid]
        rw [e1, e2]
        refine Gao O (Ops.sub O O O (by omega) (Gdn O (tQ ?_)))
        exact ⟨(), ⟨O, O, O, O, O, O, O, by show Value.int .i64 ((mid : Int) + (m : Int) - (b : Int)) = .int .i64 ((mid + m - b : Nat) : Int); congr 1; omega, O, trivial⟩, O⟩
      · have e1 : lo0 a m b = a := by unfold lo0; rw [if_neg (by omega)]
        have e2 : hi0 a m b = m := by unfold hi0; rw [if_neg (by omega)]
        rw [e1, e2]
        refine Gan O (tQ ?_)
        exact ⟨(), ⟨O, O, O, O, O, O, O, O, O, trivial⟩, O⟩
    rintro _ e w1 rfl
    refine Gao O (Ops.sub O O O (by omega) (Gdc O ?_))
    refine Cd.loop (α := Nat × Nat) (fun z => [(0, .slice A n c), (1, .int .i64 (a : Int)), (2, .int .i64 (m : Int)), (3, .int .i64 (b : Int)), (4, .func (.func 175) #[] #[]), (18, .int .i64 (mid : Int)), (19, .int .i64 ((mid : Int) + (m : Int))), (20, .int .i64 (z.1 : Int)), (21, .int .i64 (z.2 : Int)), (22, .int .i64 ((mid : Int) + (m : Int) - 1))])
      (fun z w' => (lo0 a m b ≤ z.1 ∧ z.1 ≤ z.2 ∧ z.2 ≤ hi0 a m b) ∧ (∀ x, lo0 a m b ≤ x → x < z.1 → kT (gs ds x) ≤ kT (gs ds (mid + m - 1 - x))) ∧ (∀ x, z.2 ≤ x → x < hi0 a m b → kT (gs ds (mid + m - 1 - x)) < kT (gs ds x)) ∧ St w0 w' (CkT t A n c ds :: ks)) (fun z => z.2 - z.1) (lo0 a m b, hi0 a m b) ⟨rfl, rfl, rfl, rfl, rfl, rfl, rfl, rfl, rfl, rfl, trivial⟩ ⟨⟨Nat.le_refl _, hlh, Nat.le_refl _⟩, fun x h h' => by omega, fun x h h' => by omega, hS⟩ ?_
    rintro ⟨i, j⟩ e w2 ⟨⟨hi0', hij, hjb⟩, hL, hR, hS1⟩
    dsimp only at hi0' hij hjb hL hR hS1 ⊢
    refine Gbc O ?_
    refine Cd.cond_p _ O (fun h3 => ?_) (fun h3 => ?_)
    · refine Gao O (Ops.add O O O (by omega) ?_)
      refine Ops.convK O O (wrap_u64_in _ (by omega)) (Ops.shr1 O O O (by omega) (Ops.convK O O (IntWalk.i64_in _ (by omega)) (Gdc O ?_)))
      obtain ⟨h, hh⟩ : ∃ h : Nat, h = (i + j) / 2 := ⟨_, rfl⟩
      rw [show ((i : Int) + (j : Int)) / 2 = (h : Int) by omega]
      have hr1 := hrng h (by omega) (by omega)
      have hR1 := hS1.rdT 0 O
      have ep : ((mid : Int) + (m : Int) - 1 - (h : Int)).toNat = mid + m - 1 - h := by omega
      have g1 : tg ds (h : Int) = gs ds h := O
      have g2 : tg ds ((mid : Int) + (m : Int) - 1 - (h : Int)) = gs ds (mid + m - 1 - h) := by unfold tg gs; rw [ep]
      refine Cd.draw [.ex (.func (.func 175) #[] #[]), xS (A) (n) (c), xI (((mid : Int) + (m : Int) - 1)), xI ((h : Int)), xI ((((mid : Int) + (m : Int) - 1)) - ((h : Int))), xP (ptrAt (A) (((((mid : Int) + (m : Int) - 1)) - ((h : Int))).toNat * 3)), .ex ((tg (ds) ((((mid : Int) + (m : Int) - 1)) - ((h : Int)))).v), xS (A) (n) (c), xI ((h : Int)), xP (ptrAt (A) (((h : Int)).toNat * 3)), .ex ((tg (ds) ((h : Int))).v), xI (cmpV (gs ds (mid + m - 1 - h)) (gs ds h)), xB (decide ((cmpV (gs ds (mid + m - 1 - h)) (gs ds h)) < ((0 : Int)))), xB (decide (¬ ((cmpV (gs ds (mid + m - 1 - h)) (gs ds h)) < ((0 : Int)))))] (by kernel_rfl) (by kernel_rfl) O (exL O) ?_ ?_
      · refine ⟨Dr O, Dr O, Dr O, Dr O, fun _ _ _ _ _ => Ops.sub O O O (by omega) (Az O), fun _ _ hb _ _ => Ops.idxT (hR1.later hb) O O O (by omega) (by omega) (Az O), fun _ _ hb _ _ => Ops.ld_tv (hR1.later hb) O (by omega) O (Az O), Dr O, Dr O, fun _ _ hb _ _ => Ops.idxT (hR1.later hb) O O O (by omega) (by omega) (Az O), fun _ _ hb _ _ => Ops.ld_tv (hR1.later hb) O (by omega) O (Az O), ?_, Dr O, fun _ _ _ _ _ => Ops.not_p O O (Az O), trivial⟩
        · intro e1 w1 hb hp hun
          refine Ops.call (cmpG_c (gs ds (mid + m - 1 - h)) (gs ds h) _) O (by rw [← g2]; rfl) O ?_
          rintro _ w9 ⟨rfl, hst9⟩
          refine Ops.n ?_
          exact After.dn hst9.below (by exact O)
      intro u w3 hb3 _
      have hS2 := hS1.later hb3
      refine Gec O ?_
      refine Cd.cond_p _ O (fun h4 => ?_) (fun h4 => ?_)
      · refine Gao O (Ops.add O O O (by omega) (Gdn O (tQ ?_)))
        refine ⟨(h + 1, j), by show j - (h + 1) < j - i; omega, ⟨O, O, O, O, O, O, O, O, O, O, trivial⟩, ⟨by show lo0 a m b ≤ h + 1; omega, by show h + 1 ≤ j; omega, hjb⟩, fun x hx1 hx2 => ?_, hR, hS2⟩
        have hx2 : x < h + 1 := hx2
        have hr2 := hrng x hx1 (by omega)
        have k1 : kT (gs ds x) ≤ kT (gs ds h) := hA.le (by omega) (by omega) (by omega)
        have k2 : kT (gs ds h) ≤ kT (gs ds (mid + m - 1 - h)) := Int.not_lt.1 fun h' => h4 ((hcmp h (mid + m - 1 - h) hr1.1 hr1.2.1 hr1.2.2.1 hr1.2.2.2).2 h')
        have k3 : kT (gs ds (mid + m - 1 - h)) ≤ kT (gs ds (mid + m - 1 - x)) := hB.le (by omega) (by omega) (by omega)
        omega
      · refine Gan O (tQ ?_)
        refine ⟨(i, h), by show h - i < j - i; omega, ⟨O, O, O, O, O, O, O, O, O, O, trivial⟩, ⟨hi0', by show i ≤ h; omega, by show h ≤ hi0 a m b; omega⟩, hL, fun x hx1 hx2 => ?_, hS2⟩
        have hx1 : h ≤ x := hx1
        have hr2 := hrng x (by omega) hx2
        have k1 : kT (gs ds h) ≤ kT (gs ds x) := hA.le (by omega) (by omega) (by omega)
        have k2 : kT (gs ds (mid + m - 1 - h)) < kT (gs ds h) := (hcmp h (mid + m - 1 - h) hr1.1 hr1.2.1 hr1.2.2.1 hr1.2.2.2).1 (Classical.not_not.1 h4)
        have k3 : kT (gs ds (mid + m - 1 - x)) ≤ kT (gs ds (mid + m - 1 - h)) := hB.le (by omega) (by omega) (by omega)
        omega
    have hije : i = j := by omega
    subst hije
    have hcut : CutI kT ds a m b i := ⟨hi0', hjb, by rw [← hmid]; exact hL, by rw [← hmid]; exact hR⟩
    -- the rotation
    have hrot := fun l1 => cut_all (l1 := l1) h1 h2 hA hB hcut
    rw [← hmid] at hrot
    have b1 : a ≤ i := by have := hi0'; unfold lo0 at this; split at this <;> omega
    have b2 : i ≤ mid := by have := hjb; unfold hi0 at this; split at this <;> omega
    have b3 : i ≤ m := by have := hjb; unfold hi0 at this; split at this <;> omega
    have b4 : mid + m - i ≤ b := by have := hi0'; unfold lo0 at this; split at this <;> omega
    refine Gax O (thenQ_x (Gfo O (Ops.sub O O O (by omega) (Gdj 0 O ?_))))
    refine Cd.join (α := List TV) (fun _ => [(0, .slice A n c), (1, .int .i64 (a : Int)), (3, .int .i64 (b : Int)), (4, .func (.func 175) #[] #[]), (18, .int .i64 (mid : Int)), (20, .int .i64 (i : Int)), (24, .int .i64 ((mid + m - i : Nat) : Int))]) (fun l1 w' => RotI ds l1 i m (mid + m - i) ∧ RP ds l1 a b ∧ St w0 w' (CkT t A n c l1 :: ks)) ?_ ?_
    · have e24 : ((mid : Int) + (m : Int) - (i : Int)) = ((mid + m - i : Nat) : Int) := by omega
      rw [e24]
      refine Gbo O ?_
      refine Ops.split_p 181 O (fun h4 => ?_) (fun h4 => ?_)
      · refine Ops.g O O O (Gdo O (Ops.g O O O (Gdo O (Ops.g O O O (Gdc O ?_)))))
        refine Cd.cond_p _ O (fun h5 => ?_) (fun h5 => ?_)
        · obtain ⟨P, X, Y, S, hds, lP, lX, lY⟩ : ∃ P X Y S : List TV, ds = P ++ (X ++ (Y ++ S)) ∧ P.length = i ∧ X.length = m - i ∧ Y.length = mid - i := by
            refine ⟨ds.take i, (ds.drop i).take (m - i), (ds.drop m).take (mid - i), (ds.drop m).drop (mid - i), ?_, by simp; omega, by simp; omega, by simp; omega⟩
            rw [List.take_append_drop, show ds.drop m = (ds.drop i).drop (m - i) by rw [List.drop_drop]; congr 1; omega, List.take_append_drop, List.take_append_drop]
          have hrotI : RotI ds (P ++ (Y ++ (X ++ S))) i m (mid + m - i) := by
            have := RotI.of P X Y S
            rw [← hds, lP, lX, lY] at this
            rwa [show i + (m - i) = m by omega, show m + (mid - i) = mid + m - i by omega] at this
          rw [hds] at hS1
          refine Gao O (Ops.call (rotate_c (P := P) (X := X) (Y := Y) (S := S) i m (mid + m - i) lP (by omega) (by omega) (by omega) (by omega) hn hS1) O O O ?_)
          rintro _ w4 ⟨rfl, hS4⟩
          refine Gdn O (tQ ?_)
          exact ⟨P ++ (Y ++ (X ++ S)), ⟨O, O, O, O, O, O, O, trivial⟩, hrotI, ⟨by rw [hds]; exact rot_perm P X Y S, fun x hx => hrotI.out x (by omega)⟩, hS4⟩
        · refine Gan O (tQ ?_)
          exact ⟨ds, ⟨O, O, O, O, O, O, O, trivial⟩, RotI.same ds (by omega) (by omega) (by omega), RP.refl _ _ _, hS1⟩
      · refine Ops.k O O O O O (Ops.k O O O O O (Ops.k O O O O O (Gdc O ?_)))
        refine Cd.cond_f O ?_
        refine Gan O (tQ ?_)
        exact ⟨ds, ⟨O, O, O, O, O, O, O, trivial⟩, RotI.same ds (by omega) (by omega) (by omega), RP.refl _ _ _, hS1⟩
    rintro l1 e w4 ⟨hr, hp1, hS4⟩
    obtain ⟨_, s1, s2, s3, s4, hx⟩ := hrot l1 hr
    have hl1 := hp1.len
    refine Cd.join (α := List TV) (fun _ => [(0, .slice A n c), (3, .int .i64 (b : Int)), (4, .func (.func 175) #[] #[]), (18, .int .i64 (mid : Int)), (24, .int .i64 ((mid + m - i : Nat) : Int))]) (fun l2 w' => RP l1 l2 a mid ∧ SR kT l2 a mid ∧ St w0 w' (CkT t A n c l2 :: ks)) ?_ ?_
    · refine Gbo O ?_
      refine Ops.split_p 195 O (fun h4 => ?_) (fun h4 => ?_)
      · refine Ops.g O O O (Gdo O (Ops.g O O O (Gdo O (Ops.g O O O (Gdc O ?_)))))
        refine Cd.cond_p _ O (fun h5 => ?_) (fun h5 => ?_)
        · refine Gao O ?_
          refine Ops.call (ih a i mid (by omega) (by omega) (by omega) (by omega) l1 _ (hp1.cap hc) (fun x y q1 q2 q3 q4 => by { rw [hr.out x (.inl q2), hr.left y q3 (by omega)]; exact hsep x (y + (m - i)) q1 (by omega) (by omega) (by omega) }) s1 s2 hS4) O O O ?_
          rintro _ w5 ⟨rfl, l2, hp2, hs2, hS5⟩
          refine Gdn O (tQ ?_)
          exact ⟨l2, ⟨O, O, O, O, O, trivial⟩, hp2, hs2, hS5⟩
        · have hie : i = mid := by omega
          refine Gan O (tQ ?_)
          exact ⟨l1, ⟨O, O, O, O, O, trivial⟩, RP.refl _ _ _, hie ▸ s1, hS4⟩
      · have hie : a = i := by omega
        refine Ops.k O O O O O (Ops.k O O O O O (Ops.k O O O O O (Gdc O ?_)))
        refine Cd.cond_f O ?_
        refine Gan O (tQ ?_)
        exact ⟨l1, ⟨O, O, O, O, O, trivial⟩, RP.refl _ _ _, hie ▸ s2, hS4⟩
    rintro l2 e w5 ⟨hp2, hs2, hS5⟩
    have hl2 := hp2.len
    have t3 : SR kT l2 mid (mid + m - i) := s3.congr fun x h h' => hp2.out x (.inr h)
    have t4 : SR kT l2 (mid + m - i) b := s4.congr fun x h h' => hp2.out x (.inr (by omega))
    have hfin : ∀ l3, RP l2 l3 mid b → SR kT l3 mid b → RP ds l3 a b ∧ SR kT l3 a b := fun l3 hp3 hs3 =>
      ⟨(hp1.trans hp2 (Nat.le_refl _) (by omega)).trans hp3 (by omega) (Nat.le_refl _), cut_join (by omega) (by omega) (by omega) hx hp2 hs2 hp3 hs3⟩
    refine Gao O ?_
    refine Ops.split_p 209 O (fun h4 => ?_) (fun h4 => ?_)
    · refine Ops.g O O O (Gdo O (Ops.g O O O (Gdo O (Ops.g O O O (Gdc O ?_)))))
      refine Cd.cond_p _ O (fun h5 => ?_) (fun h5 => ?_)
      · refine Gao O ?_
        refine Ops.call (ih mid (mid + m - i) b (by omega) (by omega) (by omega) hbn l2 _ (hp2.cap (hp1.cap hc)) (fun x y q1 q2 q3 q4 => by { rw [hp2.out x (.inr q1), hp2.out y (.inr (by omega)), hr.right x (by omega) q2, hr.out y (.inr q3)]; exact hsep (x - (mid + m - i - m)) y (by omega) (by omega) (by omega) q4 }) t3 t4 hS5) O O O ?_
        rintro _ w6 ⟨rfl, l3, hp3, hs3, hS6⟩
        have := hfin l3 hp3 hs3
        refine Gdn O (ret0_n ?_)
        exact ⟨O, l3, this.1, this.2, hS6⟩
      · have hie : mid + m - i = b := by omega
        have := hfin l2 (RP.refl _ _ _) (hie ▸ t3)
        refine Gan O (ret0_n ?_)
        exact ⟨O, l2, this.1, this.2, hS5⟩
    · have hie : mid = mid + m - i := by omega
      have := hfin l2 (RP.refl _ _ _) (hie ▸ t4)
      refine Ops.k O O O O O (Ops.k O O O O O (Ops.k O O O O O (Gdc O ?_)))
      refine Cd.cond_f O (Gan O (ret0_n ?_))
      exact ⟨O, l2, this.1, this.2, hS5⟩
def CutT (l : List TV) (n p : Nat) : Prop := ∀ x y, x < p → p ≤ y → y < n → ixT (gs l x) < ixT (gs l y)
theorem CutT.out {l l' : List TV} {n p a b : Nat} (h : CutT l n p) (hp : RP l l' a b) (hb : b ≤ l.length) (hn : b ≤ n) (hs : p ≤ a ∨ b ≤ p) : CutT l' n p := fun x y hx hy hyn => by
 have fx : ∃ x', gs l' x = gs l x' ∧ x' < p := by
  by_cases e : a ≤ x ∧ x < b
  ·obtain ⟨j, h1, h2, h3⟩ := hp.from hb e.1 e.2
   exact ⟨j, h3, by omega⟩
  exact ⟨x, hp.out x (by omega), hx⟩
 have fy : ∃ y', gs l' y = gs l y' ∧ p ≤ y' ∧ y' < n := by
  by_cases e : a ≤ y ∧ y < b
  ·obtain ⟨j, h1, h2, h3⟩ := hp.from hb e.1 e.2
   exact ⟨j, h3, by omega, by omega⟩
  exact ⟨y, hp.out y (by omega), hy, hyn⟩
 obtain ⟨x', e1, h1⟩ := fx
 obtain ⟨y', e2, h2, h3⟩ := fy
 rw [e1, e2]
 exact h x' y' h1 h2 h3
theorem mul_side {a p k : Nat} (ha : a = k * p) (hq : (k + 1) * p = a + p) (j : Nat) : j * p ≤ a ∨ a + p ≤ j * p := by
 rcases Nat.lt_or_ge k j with h | h
 ·right; rw [← hq]; exact Nat.mul_le_mul_right p h
 left; rw [ha]; exact Nat.mul_le_mul_right p h
theorem mul_end {a p k n : Nat} (ha : a = k * p) (hq : (k + 1) * p = a + p) (hn : n ≤ a + p) (j : Nat) : j * p ≤ a ∨ n ≤ j * p := by
 rcases mul_side ha hq j with h | h
 ·exact .inl h
 exact .inr (by omega)
theorem stable_c {w0 w : World} {ks : List Ck} {t : TypeId} {A : Option Addr} {n c : Nat} {ds : List TV} (hn : n ≤ 1000000000000) (hc : ∀ s ∈ ds, OkT s) (hord : ∀ x y, x < y → y < n → ixT (gs ds x) < ixT (gs ds y)) (hS : St w0 w (CkT t A n c ds :: ks)) :
  Ret Tryz.prog 220 [.slice A n c, .int .i64 (n : Int), .func (.func 175) #[] #[]] w (fun v w' => v = .tuple #[] ∧ ∃ ds', ds'.Perm ds ∧ SR kT ds' 0 n ∧ St w0 w' (CkT t A n c ds' :: ks)) := by
 have hln : ds.length = n := (hS.rdT 0 O).1
 refine Ret.of_cd Tryz.func220 O Tryz.ntmps220 O (post0 O) (Gbc O ?_)
 refine Cd.loop (α := Nat × List TV) (fun z => [(0, .slice A n c), (1, .int .i64 (n : Int)), (2, .func (.func 175) #[] #[]), (6, .int .i64 20), (7, .int .i64 ((z.1 * 20 : Nat) : Int)), (8, .int .i64 ((z.1 * 20 + 20 : Nat) : Int))]) (fun z w' => z.1 * 20 ≤ n ∧ z.2.Perm ds ∧ (∀ x, z.1 * 20 ≤ x → gs z.2 x = gs ds x) ∧ (∀ k, CutT z.2 n (k * 20)) ∧ Blks kT z.2 n 20 0 (z.1 * 20) ∧ St w0 w' (CkT t A n c z.2 :: ks)) (fun z => n - z.1 * 20) (0, ds) ⟨O, O, O, O, O, O, trivial⟩ ⟨by omega, List.Perm.refl _, fun _ _ => O, fun k x y h1 h2 h3 => hord x y (Nat.lt_of_lt_of_le h1 h2) h3, fun k h h' => by omega, hS⟩ ?_
 rintro ⟨k, cu⟩ e w1 ⟨hk, hp, hun, hcut, hB, hS1⟩
 dsimp only at hk hp hun hcut hB hS1 ⊢
 have hcul : cu.length = n := by rw [hp.length_eq]; exact hln
 have hcc : ∀ s ∈ cu, OkT s := fun s hs => hc s (hp.mem_iff.1 hs)
 have sep : ∀ (j : Nat), j * 20 < k * 20 → min (j * 20 + 20) n ≤ k * 20 := fun j hj => by omega
 refine Gbc O ?_
 refine Cd.cond_p _ O (fun h1 => ?_) (fun h1 => ?_)
 ·refine Gao O ?_
  refine Ops.call (insertion_c (k * 20) (k * 20 + 20) (by omega) hk (by omega) hcc (fun x y h2 h3 h4 => by rw [hun x h2, hun y (by omega)]; exact hord x y h3 (by omega)) hS1) O O O ?_
  rintro _ w2 ⟨rfl, cu2, hp2, hs2, hS2⟩
  refine Gdo O (Ops.add O O O (by omega) (Gdn O (tQ ?_)))
  refine ⟨(k + 1, cu2), by show n - (k + 1) * 20 < n - k * 20; omega, ⟨O, O, O, O, by show Value.int .i64 ((k * 20 + 20 : Nat) : Int) = .int .i64 (((k + 1) * 20 : Nat) : Int); congr 1; omega, by show Value.int .i64 (((k * 20 + 20 : Nat) : Int) + 20) = .int .i64 (((k + 1) * 20 + 20 : Nat) : Int); congr 1; omega, trivial⟩, by show (k + 1) * 20 ≤ n; omega, hp2.perm.trans hp, fun x hx => by { have hx : (k + 1) * 20 ≤ x := hx; rw [hp2.out x (.inr (by omega)), hun x (by omega)] }, fun j => (hcut j).out hp2 (by omega) (by omega) (by omega), fun j hj hj2 => ?_, hS2⟩
  have hj2 : j * 20 < (k + 1) * 20 := hj2
  by_cases e : j = k
  ·subst e
   rw [Nat.min_eq_left (by omega)]
   exact hs2
  exact (hB j hj (by omega)).congr fun x h h' => hp2.out x (.inl (by omega))
 refine Gax O (thenQ_x (Gfo O ?_))
 refine Ops.call (insertion_c (k * 20) n (Nat.le_refl _) hk (by omega) hcc (fun x y h2 h3 h4 => by rw [hun x h2, hun y (by omega)]; exact hord x y h3 h4) hS1) O O O ?_
 rintro _ w2 ⟨rfl, cu2, hp2, hs2, hS2⟩
 have hB2 : Blks kT cu2 n 20 0 n := fun j hj hj2 => by
  by_cases e : j = k
  ·subst e
   rw [Nat.min_eq_right (by omega)]
   exact hs2
  exact (hB j hj (by omega)).congr fun x h h' => hp2.out x (.inl (by omega))
 refine Gdc O ?_
 refine Cd.loop (α := Nat × List TV) (fun z => [(0, .slice A n c), (1, .int .i64 (n : Int)), (2, .func (.func 175) #[] #[]), (6, .int .i64 (z.1 : Int))]) (fun z w' => (0 < z.1 ∧ z.1 ≤ 2 * n + 20) ∧ z.2.Perm ds ∧ (∀ k, CutT z.2 n (k * z.1)) ∧ Blks kT z.2 n z.1 0 n ∧ St w0 w' (CkT t A n c z.2 :: ks)) (fun z => 2 * n + 20 - z.1) (20, cu2) ⟨O, O, O, O, trivial⟩ ⟨⟨by show 0 < 20; omega, by show 20 ≤ 2 * n + 20; omega⟩, hp2.perm.trans hp, fun j => (hcut j).out hp2 (by omega) (Nat.le_refl _) (by show j * 20 ≤ k * 20 ∨ n ≤ j * 20; omega), hB2, hS2⟩ ?_
 rintro ⟨s, c3⟩ e w3 ⟨⟨hs0, hsn⟩, hp3, hcut3, hB3, hS3⟩
 dsimp only at hs0 hsn hp3 hcut3 hB3 hS3 ⊢
 refine Gbc O ?_
 refine Cd.cond_p _ O (fun h2 => ?_) (fun h2 => ?_)
 ·refine Gao O (Ops.mul O O O (by omega) (Gdc O ?_))
  obtain ⟨p, hp⟩ : ∃ p : Nat, p = 2 * s := ⟨_, rfl⟩
  have hcp : ((2 : Int) * (s : Int)) = (p : Int) := by omega
  rw [hcp]
  refine Cd.loop (α := Nat × Nat × List TV) (fun z => [(0, .slice A n c), (1, .int .i64 (n : Int)), (2, .func (.func 175) #[] #[]), (6, .int .i64 (s : Int)), (7, .int .i64 (z.2.1 : Int)), (8, .int .i64 ((z.2.1 + p : Nat) : Int))]) (fun z w' => z.2.1 = z.1 * p ∧ z.2.1 ≤ n ∧ z.2.2.Perm ds ∧ (∀ k, CutT z.2.2 n (k * p)) ∧ (∀ k, z.2.1 ≤ k * s → CutT z.2.2 n (k * s)) ∧ Blks kT z.2.2 n p 0 z.2.1 ∧ Blks kT z.2.2 n s z.2.1 n ∧ St w0 w' (CkT t A n c z.2.2 :: ks)) (fun z => n - z.2.1) (0, 0, c3) ⟨O, O, O, O, O, by show Value.int .i64 (p : Int) = .int .i64 ((0 + p : Nat) : Int); rw [Nat.zero_add], trivial⟩ ⟨(Nat.zero_mul p).symm, Nat.zero_le _, hp3, fun k => by { have := hcut3 (2 * k); rwa [show 2 * k * s = k * p by rw [hp, Nat.mul_comm 2 k, Nat.mul_assoc]] at this }, fun k _ => hcut3 k, fun k h h' => absurd h' (Nat.not_lt_zero _), hB3, hS3⟩ ?_
  rintro ⟨k, a, c4⟩ e w4 ⟨ha, han, hp4, hcp4, hcs4, hBp, hBs, hS4⟩
  dsimp only at ha han hp4 hcp4 hcs4 hBp hBs hS4 ⊢
  have hc4l : c4.length = n := by rw [hp4.length_eq]; exact hln
  have hcc4 : ∀ s ∈ c4, OkT s := fun s hs => hc s (hp4.mem_iff.1 hs)
  have q1 : 2 * k * s = a := by rw [ha, hp, Nat.mul_comm 2 k, Nat.mul_assoc]
  have q2 : (2 * k + 1) * s = a + s := by rw [Nat.succ_mul, q1]
  have q3 : (k + 1) * p = a + p := by rw [Nat.succ_mul, ha]
  have hA1 : a < n → SR kT c4 a (min (a + s) n) := fun h => by
   have := hBs (2 * k) (by rw [q1]; exact Nat.le_refl _) (by rw [q1]; exact h)
   rwa [q1] at this
  have hA2 : a + s < n → SR kT c4 (a + s) (min (a + s + s) n) := fun h => by
   have := hBs (2 * k + 1) (by rw [q2]; omega) (by rw [q2]; exact h)
   rwa [q2] at this
  refine Gbc O ?_
  refine Cd.cond_p _ O (fun h3 => ?_) (fun h3 => ?_)
  ·have hap : a + p ≤ n := by omega
   have m1 := hA1 (by omega)
   have m2 := hA2 (by omega)
   rw [Nat.min_eq_left (by omega)] at m1 m2
   rw [show a + s + s = a + p by omega] at m2
   refine Gao O (Ops.add O O O (by omega) (Gdo O ?_))
   refine Ops.call (symMerge_c (by omega) p a (a + s) (a + p) (by omega) (by omega) (by omega) hap c4 _ hcc4 (fun x y h4 h5 h6 h7 => by { have h8 := hcs4 (2 * k + 1) (by rw [q2]; omega); rw [q2] at h8; exact h8 x y h5 h6 (by omega) }) m1 m2 hS4) O O O ?_
   rintro _ w5 ⟨rfl, c5, hp5, hs5, hS5⟩
   refine Gdo O (Ops.mul O O O (by omega) (Ops.add O O O (by omega) (Gdn O (tQ ?_))))
   refine ⟨(k + 1, a + p, c5), by show n - (a + p) < n - a; omega, ⟨O, O, O, O, O, by show Value.int .i64 (((a + p : Nat) : Int) + (2 : Int) * (s : Int)) = .int .i64 ((a + p + p : Nat) : Int); congr 1; omega, trivial⟩, q3.symm, hap, hp5.perm.trans hp4, fun j => (hcp4 j).out hp5 (by omega) hap (mul_side ha q3 j), fun j hj => (hcs4 j (by have hj : a + p ≤ j * s := hj; omega)).out hp5 (by omega) hap (.inr hj), fun j hj hj2 => ?_, fun j hj hj2 => ?_, hS5⟩
   ·have hj2 : j * p < a + p := hj2
    by_cases e : j = k
    ·subst e
     rw [← ha, Nat.min_eq_left hap]; exact hs5
    have hjk : j < k + 1 := by rw [← q3] at hj2; exact Nat.lt_of_mul_lt_mul_right hj2
    have h6 : j * p < k * p := Nat.mul_lt_mul_of_pos_right (by omega) (by omega)
    have h7 := mul_gap h6
    exact (hBp j (Nat.zero_le _) (by rw [ha]; exact h6)).congr fun x h h' => hp5.out x (.inl (by omega))
   have hj : a + p ≤ j * s := hj
   exact (hBs j (by omega) hj2).congr fun x h h' => hp5.out x (.inr (by omega))
  have hap : n < a + p := by omega
  have key : ∀ c5 : List TV, RP c4 c5 a n → SR kT c5 a n → Blks kT c5 n p 0 n := fun c5 hp5 hs5 j hj hj2 => by
   by_cases e : j = k
   ·subst e
    rw [← ha, Nat.min_eq_right (by omega)]; exact hs5
   have hjk : j < k + 1 := by
    have : j * p < (k + 1) * p := by rw [q3]; omega
    exact Nat.lt_of_mul_lt_mul_right this
   have h6 : j * p < k * p := Nat.mul_lt_mul_of_pos_right (by omega) (by omega)
   have h7 := mul_gap h6
   exact (hBp j (Nat.zero_le _) (by rw [ha]; exact h6)).congr fun x h h' => hp5.out x (.inl (by omega))
  refine Gax O (thenQ_x (Gfo O (Ops.add O O O (by omega) (Gdc O ?_))))
  refine Cd.cond_p _ O (fun h4 => ?_) (fun h4 => ?_)
  ·have m1 := hA1 (by omega)
   have m2 := hA2 (by omega)
   rw [Nat.min_eq_left (by omega)] at m1
   rw [Nat.min_eq_right (by omega)] at m2
   refine Gao O ?_
   refine Ops.call (symMerge_c (by omega) n a (a + s) n (by omega) (by omega) (by omega) (Nat.le_refl _) c4 _ hcc4 (fun x y h4 h5 h6 h7 => by { have h8 := hcs4 (2 * k + 1) (by rw [q2]; omega); rw [q2] at h8; exact h8 x y h5 h6 h7 }) m1 m2 hS4) O O O ?_
   rintro _ w5 ⟨rfl, c5, hp5, hs5, hS5⟩
   refine Gdo O (Ops.mul O O O (by omega) (Gdn O (tQ ?_)))
   exact ⟨(p, c5), by show 2 * n + 20 - p < 2 * n + 20 - s; omega, ⟨O, O, O, by show Value.int .i64 ((s : Int) * 2) = .int .i64 (p : Int); congr 1; omega, trivial⟩, ⟨by show 0 < p; omega, by show p ≤ 2 * n + 20; omega⟩, hp5.perm.trans hp4, fun j => (hcp4 j).out hp5 (by omega) (Nat.le_refl _) (mul_end ha q3 (by omega) j), key c5 hp5 hs5, hS5⟩
  have hs4 : SR kT c4 a n := by
   by_cases h5 : a < n
   ·have := hA1 h5
    rwa [Nat.min_eq_right (by omega)] at this
   exact SR.one _ _ (by omega)
  refine Gao O (Ops.mul O O O (by omega) (Gdn O (tQ ?_)))
  exact ⟨(p, c4), by show 2 * n + 20 - p < 2 * n + 20 - s; omega, ⟨O, O, O, by show Value.int .i64 ((s : Int) * 2) = .int .i64 (p : Int); congr 1; omega, trivial⟩, ⟨by show 0 < p; omega, by show p ≤ 2 * n + 20; omega⟩, hp4, hcp4, key c4 (RP.refl _ _ _) hs4, hS4⟩
 refine Gax O (thenQ_x (Gfn O ?_))
 refine ret0_n ?_
 exact ⟨O, c3, hp3, hB3.done (by omega), hS3⟩
theorem sortStable_c {w0 w : World} {ks : List Ck} {t : TypeId} {A : Option Addr} {n c : Nat} {ds : List TV} (hn : n ≤ 1000000000000) (hc : ∀ s ∈ ds, OkT s) (hord : ∀ x y, x < y → y < n → ixT (gs ds x) < ixT (gs ds y)) (hS : St w0 w (CkT t A n c ds :: ks)) :
  Ret Tryz.prog 174 [.slice A n c, .func (.func 175) #[] #[]] w (fun v w' => v = .tuple #[] ∧ ∃ ds', ds'.Perm ds ∧ SR kT ds' 0 n ∧ St w0 w' (CkT t A n c ds' :: ks)) := by
 refine Ret.of_cd Tryz.func174 O Tryz.ntmps174 O (post0 O) ?_
 refine Gbo O (Ops.len O O (Gdo O ?_))
 refine Ops.call (stable_c hn hc hord hS) O O O ?_
 rintro _ w1 ⟨rfl, ds', h1, h2, h3⟩
 refine Gdn O (ret0_n ?_)
 exact ⟨O, ds', h1, h2, h3⟩
end Go.Proofs.YtopgfgdgfjddpaaGreatDoor.Vc.TS
/-
 Faces under faces, walked in the program.
-/
namespace Go.Proofs.YtopgfgdgfjddpaaGreatDoor.Vc
open Go.RowKit
structure FcR (w : World) (A8 : Option Addr) (X : List Int) (N : Nat) (AD : Option Addr) (rs : List SlV) (B : List (List Int)) : Prop where
 len : X.length = N + 2
 big : N ≤ 500
 rk : RdI w A8 (N + 2) X
 bl : RowsI w AD N rs B
 bln : B.length = N
 sa : ∀ e : Int, 0 ≤ e → e < (N : Int) → SA (gl B e) ∧ (gl B e).length ≤ 500
theorem FcR.later {w w' : World} {A8 : Option Addr} {X : List Int} {N : Nat} {AD : Option Addr} {rs : List SlV} {B : List (List Int)} (h : FcR w A8 X N AD rs B) (hb : Below w.heap.size w w') : FcR w' A8 X N AD rs B := ⟨h.len, h.big, h.rk.later hb, h.bl.later hb, h.bln, h.sa⟩
abbrev fcV (A8 : Option Addr) (m c8 : Nat) (q : Int) (AR : Option Addr) (r cR : Nat) (AD : Option Addr) (N cD : Nat) : List Value := [.slice A8 m c8, .int .i64 q, .slice AR r cR, .slice AD N cD]
theorem isUnder_c (P A8 : Option Addr) (c8 : Nat) (q : Int) (AR : Option Addr) (r cR : Nat) (AD : Option Addr) (N cD : Nat) (X : List Int) (rs : List SlV) (B : List (List Int)) (a b : Int) (w : World) (hP : Rd w P 4 (fun j => (fcV A8 (N + 2) c8 q AR r cR AD N cD).getD j undef)) (hF : FcR w A8 X N AD rs B) (ha : 0 ≤ a ∧ a < (N : Int) + 2) (hb : 0 ≤ b ∧ b < (N : Int) + 2) :
  Ret Tryz.prog 177 [.pointer P, .int .i64 a, .int .i64 b] w (fun v w' => v = .bool (decide (UndP N B a b)) ∧ w' = w) := by
 have hbig := hF.big
 have hbln := hF.bln
 have hsa := hF.sa (b - 1)
 have hPo : Rd w (ptrAt P 1) 3 (fun j => [Value.int .i64 q, .slice AR r cR, .slice AD N cD].getD j undef) := (hP.behind (o := 1) (m := 3) (by omega)).congr fun j hj => by
  rcases (show j = 0 ∨ j = 1 ∨ j = 2 by omega) with rfl | rfl | rfl <;> rfl
 have yes : UndP N B a b → Value.bool true = .bool (decide (UndP N B a b)) := fun h => congrArg Value.bool (decide_eq_true h).symm
 have no : ¬ UndP N B a b → Value.bool false = .bool (decide (UndP N B a b)) := fun h => congrArg Value.bool (decide_eq_false h).symm
 refine Ret.of_cd Tryz.func177 O Tryz.ntmps177 O (post1 O) (Gbo O ?_)
 refine Ops.split_p 10 O (fun h1 => ?_) (fun h1 => ?_)
 ·refine Ops.k O O O O O (Ops.k O O O O O (Gdo O (Ops.k O O O O O (Ops.k O O O O O (Ops.k O O O O O (Ops.k O O O O O (Ops.k O O O O O (Ops.k O O O O O (Ops.k O O O O O (Ops.k O O O O O (Gdo O ?_)))))))))))
  refine Ops.k O O O O O (Ops.k O O O O O (Ops.k O O O O O (Ops.k O O O O O (Ops.k O O O O O (Ops.k O O O O O (Ops.k O O O O O (Ops.k O O O O O (Ops.k O O O O O (Ops.skipu O O O O (Ops.skipu O O O O (Ops.k O O O O O ?_)))))))))))
  refine Ops.k O O O O O (Ops.skipu O O O O (Ops.skipu O O O O (Ops.skipu O O O O (Ops.skipu O O O O (Ops.skipu O O O O (Ops.skipu O O O O (Ops.skipu O O O O (Ops.skipu O O O O (Ops.k O O O O O (Gdr O ?_))))))))))
  refine ret1_b O ?_
  exact ⟨yes (.inl h1), O⟩
 refine Ops.g O O O (Gdo O (Ops.g O O O (Gdo O ?_)))
 refine Ops.split_p 14 O (fun h2 => ?_) (fun h2 => ?_)
 ·refine Ops.k O O O O O (Ops.k O O O O O (Ops.k O O O O O (Ops.k O O O O O (Ops.k O O O O O (Ops.k O O O O O (Ops.k O O O O O (Ops.k O O O O O (Gdo O (Ops.k O O O O O (Ops.k O O O O O (Ops.k O O O O O ?_)))))))))))
  refine Ops.k O O O O O (Ops.k O O O O O (Ops.k O O O O O (Ops.k O O O O O (Ops.k O O O O O (Ops.k O O O O O (Ops.skipu O O O O (Ops.skipu O O O O (Ops.k O O O O O (Ops.k O O O O O (Ops.skipu O O O O (Ops.skipu O O O O ?_)))))))))))
  refine Ops.skipu O O O O (Ops.skipu O O O O (Ops.skipu O O O O (Ops.skipu O O O O (Ops.skipu O O O O (Ops.skipu O O O O (Ops.k O O O O O (Gdr O ?_)))))))
  refine ret1_b O ?_
  exact ⟨yes (.inr (.inl h2)), O⟩
 refine Ops.g O O O (Gdo O (Ops.g O O O (Gdo O (Ops.g O O O ?_))))
 refine Ops.nilp hP (by decide) O O ?_
 refine Ops.g O O O (Ops.fld hP O O O O inferInstance (Ops.g O O O (Ops.ldf_s (j := 0) hP (by exact congrArg Value.pointer O) O O O O ?_)))
 refine Ops.g O O O (Ops.len O O (Ops.g O O O (Ops.sub O O O (by omega) (Ops.g O O O (Gdo O ?_)))))
 refine Ops.split_p 24 O (fun h3 => ?_) (fun h3 => ?_)
 ·refine Ops.k O O O O O (Ops.k O O O O O (Ops.k O O O O O (Ops.k O O O O O (Ops.k O O O O O (Ops.k O O O O O (Ops.k O O O O O (Ops.k O O O O O (Ops.k O O O O O (Ops.skipu O O O O (Ops.skipu O O O O (Ops.k O O O O O ?_)))))))))))
  refine Ops.k O O O O O (Ops.skipu O O O O (Ops.skipu O O O O (Ops.skipu O O O O (Ops.skipu O O O O (Ops.skipu O O O O (Ops.skipu O O O O (Ops.skipu O O O O (Ops.skipu O O O O (Ops.k O O O O O (Gdr O ?_))))))))))
  refine ret1_b O ?_
  exact ⟨yes (.inr (.inr (.inl (by omega)))), O⟩
 refine Ops.g O O O (Gdo O (Ops.g O O O (Gdo O (Ops.g O O O ?_))))
 refine Ops.nilp hP (by decide) O O ?_
 refine Ops.g O O O (Ops.fld hP O O O O inferInstance (Ops.g O O O (Ops.ldf_s (j := 0) hP (by exact congrArg Value.pointer O) O O O O ?_)))
 refine Ops.g O O O (Ops.len O O (Ops.g O O O (Ops.sub O O O (by omega) (Ops.g O O O (Gdo O (Ops.g O O O (Gdo O ?_)))))))
 refine Ops.split_p 33 O (fun h4 => ?_) (fun h4 => ?_)
 ·refine Ops.g O O O (Gdo O (Ops.g O O O (Gdo O (Ops.g O O O (Gdo O (Ops.g O O O (Gdo O ?_)))))))
  refine Ops.split_p 37 O (fun h5 => ?_) (fun h5 => ?_)
  ·refine Ops.g O O O (Gdo O (Ops.g O O O ?_))
   refine Ops.nilp hP (by decide) O O ?_
   refine Ops.g O O O (Ops.fld hP O O O O inferInstance ?_)
   refine Ops.g O O O (Gdo O (Ops.g O O O (Ops.sub O O O (by omega) (Ops.g O O O (Gdo O (Ops.g O O O (Ops.sub O O O (by omega) (Ops.g O O O ?_))))))))
   refine Ops.call (isBelowN_c (ptrAt P 1) AR AD cR r cD q N rs B (a - 1) (b - 1) _ hPo hF.bl hbln (by omega) (hsa (by omega) (by omega)).1 (by have := (hsa (by omega) (by omega)).2; omega)) O O O ?_
   rintro _ _ ⟨rfl, rfl⟩
   refine Ops.g O O O (Gdr O ?_)
   refine ret1_b O ?_
   refine ⟨congrArg Value.bool (decide_eq_decide.2 ⟨fun h => .inr (.inr (.inr ⟨by omega, by omega, by omega, by omega, h⟩)), fun h => ?_⟩), O⟩
   rcases h with h | h | h | h
   ·exact absurd h h1
   ·exact absurd h h2
   ·omega
   exact h.2.2.2.2
  refine Ops.k O O O O O (Ops.k O O O O O (Ops.k O O O O O (Ops.k O O O O O (Ops.k O O O O O (Ops.k O O O O O (Ops.k O O O O O (Ops.k O O O O O (Ops.g O O O (Gdr O ?_)))))))))
  refine ret1_b O ?_
  refine ⟨no fun h => ?_, O⟩
  rcases h with h | h | h | h
  ·exact h1 h
  ·exact h2 h
  ·omega
  omega
 refine Ops.k O O O O O (Ops.k O O O O O (Ops.g O O O (Gdo O (Ops.g O O O (Gdo O (Ops.k O O O O O (Ops.k O O O O O (Ops.k O O O O O (Ops.k O O O O O (Ops.k O O O O O (Ops.k O O O O O ?_)))))))))))
 refine Ops.k O O O O O (Ops.k O O O O O (Ops.g O O O (Gdr O ?_)))
 refine ret1_b O ?_
 refine ⟨no fun h => ?_, O⟩
 rcases h with h | h | h | h
 ·exact h1 h
 ·exact h2 h
 ·omega
 omega
end Go.Proofs.YtopgfgdgfjddpaaGreatDoor.Vc
