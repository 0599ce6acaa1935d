/-
  The texts Co20, Co24, Co25, Co32, Cw6, Cw7 in one. Conditions: as each part states them.
-/
import Derived.Test.YtdedegbendjmbaaGreatDoorZf
import Derived.Test.YtdedegbendjmbaaGreatDoorZh
import Derived.Test.YtdedegbendjmbaaGreatDoorZg
import Derived.Test.YtdedegbendjmbaaGreatDoorZe
import Derived.Test.YtdedegbendjmbaaGreatDoorZb
import Derived.Test.YtdedegbendjmbaaGreatDoorZc
/-
 The faces with so many elements of a complex, walked in the program. Conditions: as each states them.
-/
namespace Go.Proofs.YtdedegbendjmbaaGreatDoor.Vc
open Go.RowKit

/-! those that are kept of an ascending row -/
theorem kepC_mem_lt {xs : Nat → List Int} {n a : Nat} (h : a ∈ kepC xs n) : a < n := by
 unfold kepC at h
 exact List.mem_range.1 (List.mem_filter.1 h).1
theorem kepC_nodup (xs : Nat → List Int) (n : Nat) : (kepC xs n).Nodup := List.nodup_range.filter _
theorem kepC_SL {xs : Nat → List Int} : ∀ {n : Nat}, (∀ a b, a < b → b < n → ¬ LT (xs b) (xs a)) → SL ((kepC xs n).map xs) ∧ ∀ x, x ∈ (kepC xs n).map xs ↔ ∃ a, a < n ∧ xs a = x
 | 0, _ => ⟨by simp [kepC, SL], fun x => by simp [kepC]⟩
 | n + 1, h => by
  obtain ⟨ih1, ih2⟩ := kepC_SL (xs := xs) (n := n) fun a b h1 h2 => h a b h1 (by omega)
  rw [kepC_succ, List.map_append]
  by_cases e : n = 0 ∨ xs n ≠ xs (n - 1)
  ·rw [if_pos e]
   constructor
   ·unfold SL
    rw [List.pairwise_append]
    refine ⟨ih1, by simp, fun a ha b hb => ?_⟩
    obtain rfl : b = xs n := by simpa using hb
    obtain ⟨i, hi, rfl⟩ := (ih2 a).1 ha
    rcases e with e | e
    ·omega
    ·have h1 : LT (xs (n - 1)) (xs n) := LT.tri (h (n - 1) n (by omega) (by omega)) e
     by_cases e2 : i = n - 1
     ·rw [e2]; exact h1
     ·by_cases e3 : xs i = xs (n - 1)
      ·rw [e3]; exact h1
      ·exact (LT.tri (h i (n - 1) (by omega) (by omega)) (Ne.symm e3)).trans h1
   ·intro x
    rw [List.mem_append, ih2]
    constructor
    ·rintro (⟨a, h1, h2⟩ | h1)
     ·exact ⟨a, by omega, h2⟩
     ·exact ⟨n, by omega, by simpa using (show x = xs n by simpa using h1).symm⟩
    ·rintro ⟨a, h1, h2⟩
     by_cases e2 : a = n
     ·subst e2; exact .inr (by simp [h2])
     ·exact .inl ⟨a, by omega, h2⟩
  ·rw [if_neg e]
   have e1 : n ≠ 0 := fun h => e (.inl h)
   have e2 : xs n = xs (n - 1) := Classical.byContradiction fun h => e (.inr h)
   refine ⟨by simpa using ih1, fun x => ?_⟩
   rw [List.map_nil, List.append_nil, ih2]
   constructor
   ·rintro ⟨a, h1, h2⟩; exact ⟨a, by omega, h2⟩
   ·rintro ⟨a, h1, h2⟩
    by_cases e3 : a = n
    ·subst e3; exact ⟨a - 1, by omega, by rw [← e2]; exact h2⟩
    ·exact ⟨a, by omega, h2⟩
theorem St.rowAt {w0 w : World} {p : Ck} {t2 : TypeId} {rs : List SlV} {L : List (List Int)} (h : St w0 w (p :: rowsCk t2 rs L)) (hl : rs.length = L.length) {a : Nat} (ha : a < L.length) : RdI w (sv rs a).a (sv rs a).n (L.getD a []) :=
 h.rdI (a + 1) (by rw [List.getElem?_cons_succ]; exact rowsCk_get hl (by omega))
/-- a row of lists in order, each once -/
theorem sortOnce {L : List (List Int)} {q : List Nat} (hq : q.Perm (List.range L.length)) (hs : q.Pairwise fun a b => ¬ LT (L.getD b []) (L.getD a [])) (k : Nat) {F : List (List Int)} (hL : ∀ x, x ∈ L ↔ x ∈ faL F k) :
  let xs := fun a => L.getD (q.getD a 0) []
  let q2 := (kepC xs L.length).map fun a => q.getD a 0
  q2.map (fun i => L.getD i []) = fcs F k ∧ q2.Nodup ∧ (∀ i ∈ q2, i < L.length) ∧ (kepC xs L.length).length = (fcs F k).length := by
 intro xs q2
 have hql : q.length = L.length := by rw [hq.length_eq, List.length_range]
 have hqn : q.Nodup := hq.nodup_iff.2 List.nodup_range
 have hqg : ∀ a (h : a < L.length), q.getD a 0 = q[a] := fun a h => by simp [List.getD_eq_getElem?_getD, show a < q.length by omega]
 have hqm : ∀ a, a < L.length → q.getD a 0 < L.length := fun a h => List.mem_range.1 (hq.mem_iff.1 (by rw [hqg a h]; exact List.getElem_mem _))
 obtain ⟨h1, h2⟩ := kepC_SL (xs := xs) (n := L.length) fun a b hab hb => by
  show ¬ LT (L.getD (q.getD b 0) []) (L.getD (q.getD a 0) [])
  rw [hqg a (by omega), hqg b hb]
  exact List.pairwise_iff_getElem.1 hs a b (by omega) (by omega) hab
 have e : q2.map (fun i => L.getD i []) = (kepC xs L.length).map xs := by simp [q2, xs]
 have e2 : (kepC xs L.length).map xs = fcs F k := fcs_of h1 fun x => by
  rw [h2, ← hL]
  constructor
  ·rintro ⟨a, ha, rfl⟩
   show L.getD _ [] ∈ L
   rw [List.getD_eq_getElem?_getD, List.getElem?_eq_getElem (hqm a ha)]
   exact List.getElem_mem _
  ·intro hx
   obtain ⟨i, hi, rfl⟩ := List.mem_iff_getElem.1 hx
   obtain ⟨a, ha, e⟩ := List.mem_iff_getElem.1 (hq.mem_iff.2 (List.mem_range.2 hi))
   refine ⟨a, by omega, ?_⟩
   show L.getD (q.getD a 0) [] = _
   rw [hqg a (by omega), e]
   simp [List.getD_eq_getElem?_getD, hi]
 refine ⟨e.trans e2, ?_, fun i hi => ?_, by rw [← e2, List.length_map]⟩
 ·refine List.Pairwise.map _ ?_ ((kepC_nodup xs L.length).imp_of_mem (S := fun a b => q.getD a 0 ≠ q.getD b 0) ?_)
  ·exact fun a b h => h
  ·intro a b ha hb hab
   have ha := kepC_mem_lt ha
   have hb := kepC_mem_lt hb
   rw [hqg a ha, hqg b hb]
   exact fun h => hab ((List.getElem_inj hqn).1 h)
 ·obtain ⟨a, ha, rfl⟩ := List.mem_map.1 hi
  exact hqm a (kepC_mem_lt ha)

/-- parts of the first lists -/
def faG (F : List (List Int)) (k i : Nat) : List (List Int) := if k = 0 then [[]] else (F.take i).flatMap fun f => ptsP f k
theorem faG_all (F : List (List Int)) (k : Nat) : faG F k F.length = faL F k := by unfold faG faL; rw [List.take_length]
theorem faG_zero (F : List (List Int)) (k : Nat) : faG F k 0 = if k = 0 then [[]] else [] := by unfold faG; split <;> rfl
theorem faG_succ {F : List (List Int)} {k i : Nat} (h : i < F.length) : faG F k (i + 1) = if 0 < k ∧ k ≤ (gl F (i : Int)).length then faG F k i ++ ptsP (gl F (i : Int)) k else faG F k i := by
 unfold faG
 by_cases e : k = 0
 ·simp [e]
 ·rw [if_neg e, if_neg e, take_succ_gl h, List.flatMap_append]
  by_cases e2 : k ≤ (gl F (i : Int)).length
  ·rw [if_pos ⟨by omega, e2⟩]; simp
  ·rw [if_neg (fun h => e2 h.2)]
   have := ptsP_short (l := gl F (i : Int)) (k := k) (by omega)
   simp [this]
theorem faG_num {F : List (List Int)} (k i : Nat) (h6 : ∀ f ∈ F, f.length ≤ 6) : (faG F k i).length ≤ 64 * F.length + 1 := by
 have h := faL_num (F := F.take i) k fun f hf => h6 f (List.mem_of_mem_take hf)
 have e : faG F k i = faL (F.take i) k := rfl
 rw [e]
 have : (F.take i).length ≤ F.length := by simp; omega
 omega

theorem facesWith_c (Pc : Option Addr) (V : Int) (A : Option Addr) (n c : Nat) (rs : List SlV) (F : List (List Int)) (k : Nat) (w : World) (hP : Rd w Pc 2 (fun j => [Value.int .i64 V, .slice A n c].getD j undef)) (hR : RowsI w A n rs F) (hn : n ≤ 1000) (h6 : ∀ f ∈ F, f.length ≤ 6) (hk : k ≤ 7) :
    Ret Tryz.prog 93 [.pointer Pc, .int .i64 (k : Int)] w (fun v w' => ∃ A' c' rs', v = .slice A' (fcs F k).length c' ∧ rs'.length = (fcs F k).length ∧ St w w' (mat 25 2 A' (fcs F k).length c' rs' (fcs F k) ++ [])) := by
  have hFl := hR.len
  have hz := faG_zero F k
  refine Ret.of_cd Tryz.func93 rfl Tryz.ntmps93 rfl (post1 rfl) ?_
  refine Cd.seq ?_
  refine Cd.region ?_
  refine Ops.mv_sl rfl rfl rfl ?_
  refine Ops.nil ?_
  refine thenQ_n ?_
  refine Cd.seq ?_
  refine Cd.region ?_
  refine Ops.bs0 (St.refl w) rfl ?_
  intro A1 w1 hS1
  have hS1 : St w w1 [CkR 25 A1 0 0 []] := hS1
  refine Ops.mv_sl rfl rfl rfl ?_
  refine Ops.nil ?_
  refine thenQ_n ?_
  refine Cd.join (α := Option Addr × Nat × List SlV) (fun z => [(0, .pointer Pc), (1, .int .i64 (k : Int)), (5, .slice z.1 (faG F k 0).length z.2.1)]) (fun z w' => z.2.2.length = (faG F k 0).length ∧ St w w' (mat 25 2 z.1 (faG F k 0).length z.2.1 z.2.2 (faG F k 0))) ?_ ?_
  · refine Cd.seq ?_
    refine Cd.region ?_
    refine Ops.mv_int rfl rfl rfl ?_
    refine Ops.eql rfl rfl rfl ?_
    refine Ops.nil ?_
    refine thenQ_n ?_
    refine Cd.cond_p _ rfl (fun h1 => ?_) (fun h1 => ?_)
    · rw [if_pos (by omega)] at hz
      rw [hz]
      refine Cd.region ?_
      refine Ops.mv_sl rfl rfl rfl ?_
      refine Ops.bs1R hS1 rfl rfl rfl ?_
      intro A2 w2 hS2
      refine Ops.appR 1 hS2 rfl (hS2.rdR 0 rfl) rfl rfl rfl (by omega) (by omega) rfl ?_
      intro A3 c3 w3 hS3
      have hS3 : St w w3 [CkR 25 A3 (0 + 1) c3 ([] ++ [slNil])] := hS3.tail
      refine Ops.mv_sl rfl rfl rfl ?_
      refine Ops.nil ?_
      refine thenQ_n ?_
      exact ⟨(A3, c3, [slNil]), ⟨rfl, rfl, rfl, trivial⟩, rfl, (List.append_nil (mat 25 2 A3 1 c3 [slNil] [[]])) ▸ nilRows 1 hS3⟩
    · rw [if_neg (by omega)] at hz
      rw [hz]
      refine Cd.skip ?_
      refine thenQ_n ?_
      exact ⟨(A1, 0, []), ⟨rfl, rfl, rfl, trivial⟩, rfl, hS1⟩
  rintro ⟨A5, c5, rs5⟩ e w2 ⟨hrl5, hS2⟩
  dsimp only at hrl5 hS2 ⊢
  clear hS1
  refine Cd.seq ?_
  refine Cd.seq ?_
  refine Cd.region ?_
  refine Ops.mv_ptr rfl rfl rfl ?_
  refine Ops.nilp (hS2.old hP) (by omega) rfl rfl ?_
  skip
  refine Ops.fld (hS2.old hP) rfl rfl rfl rfl inferInstance ?_
  skip
  refine Ops.ldf_s (hS2.old hP) rfl rfl rfl rfl rfl ?_
  refine Ops.len rfl rfl ?_
  refine Ops.mv_int rfl rfl rfl ?_
  refine Ops.nil ?_
  refine thenQ_n ?_
  refine Cd.block ?_
  refine Cd.loop (α := Nat × Option Addr × Nat × List SlV) (fun z => [(1, .int .i64 (k : Int)), (5, .slice z.2.1 (faG F k z.1).length z.2.2.1), (17, .slice A n c), (18, .int .i64 (n : Int)), (19, .int .i64 (z.1 : Int))])
    (fun z w' => z.1 ≤ n ∧ z.2.2.2.length = (faG F k z.1).length ∧ St w w' (mat 25 2 z.2.1 (faG F k z.1).length z.2.2.1 z.2.2.2 (faG F k z.1))) (fun z => n - z.1) (0, A5, c5, rs5) ⟨rfl, rfl, rfl, rfl, rfl, trivial⟩ ⟨Nat.zero_le _, hrl5, hS2⟩ ?_
  clear hrl5 hS2 hz
  rintro ⟨i, A5, c5, rs5⟩ e w3 ⟨hi, hrl, hS3⟩
  dsimp only at hi hrl hS3 ⊢
  refine Cd.seq ?_
  refine Cd.region ?_
  refine Ops.lss rfl rfl rfl ?_
  refine Ops.nil ?_
  refine thenQ_n ?_
  refine Cd.seq ?_
  refine Cd.cond_p _ rfl (fun h3 => ?_) (fun h3 => ?_)
  · have hiF : i < F.length := by omega
    have hM := hS3.oldRows hR
    have hrow := hM.at_ (i := (i : Int)) (by omega) (by omega)
    have hcap := hM.cap_ (i := (i : Int)) (by omega) (by omega)
    have hrl0 := hrow.1
    have hsucc := faG_succ (k := k) hiF
    have hnum := faG_num (F := F) k i h6
    have hf6 := h6 (gl F (i : Int)) (by rw [gl_mem hiF]; exact List.getElem_mem _)
    have hpn := ptsP_small (l := gl F (i : Int)) k hf6
    refine Cd.skip ?_
    refine thenQ_n ?_
    refine Cd.seq ?_
    refine Cd.block ?_
    refine Cd.seq ?_
    refine Cd.region ?_
    refine Ops.idx hM.top.2 rfl rfl rfl (by omega) (by omega) ?_
    refine Ops.ld_sl hM.top rfl (by omega) rfl rfl ?_
    refine Ops.mv_sl rfl rfl rfl ?_
    refine Ops.nil ?_
    refine thenQ_n ?_
    refine Cd.seq ?_
    refine Cd.region ?_
    refine Ops.mv_int rfl rfl rfl ?_
    refine Ops.gtr rfl rfl rfl ?_
    refine Ops.mv_bool rfl rfl rfl ?_
    refine Ops.split_p 25 rfl (fun h4 => ?_) (fun h4 => ?_)
    · refine Ops.rung rfl rfl rfl ?_
      refine Ops.mv_int rfl rfl rfl ?_
      refine Ops.rung rfl rfl rfl ?_
      refine Ops.mv_sl rfl rfl rfl ?_
      refine Ops.rung rfl rfl rfl ?_
      refine Ops.call (sizeI_c _ _ _ _) rfl rfl rfl ?_
      rintro _ _ ⟨rfl, rfl⟩
      refine Ops.rung rfl rfl rfl ?_
      refine Ops.leq rfl rfl rfl ?_
      refine Ops.pick_t rfl rfl rfl ?_
      refine Ops.nil ?_
      refine thenQ_n ?_
      refine Cd.cond_p _ rfl (fun h5 => ?_) (fun h5 => ?_)
      · rw [if_pos ⟨by omega, by omega⟩] at hsucc
        refine Cd.region ?_
        refine Ops.mv_sl rfl rfl rfl ?_
        refine Ops.mv_sl rfl rfl rfl ?_
        refine Ops.mv_int rfl rfl rfl ?_
        refine Ops.call (partsOf_c k _ _ _ (gl F (i : Int)) _ hrow hcap.1 (by omega) hk) rfl rfl rfl ?_
        rintro _ w4 ⟨A6, c6, rs6, rfl, hrl6, hT⟩
        have hR6 : RdR w4 A6 (ptsP (gl F (i : Int)) k).length rs6 := hT.rdR 0 rfl
        have hS4 := hS3.call2 hT
        refine Ops.appR 0 hS4 rfl hR6 rfl rfl rfl (by omega) (by omega) rfl ?_
        intro A7 c7 w5 hS5
        have hS5 : St w w5 (CkR 25 A7 ((faG F k i).length + (ptsP (gl F (i : Int)) k).length) c7 (rs5 ++ rs6) :: (rowsCk 2 rs5 (faG F k i) ++ (CkR 25 A6 (ptsP (gl F (i : Int)) k).length c6 rs6 :: (rowsCk 2 rs6 (ptsP (gl F (i : Int)) k) ++ [])))) := hS5
        have hS6 : St w w5 (mat 25 2 A7 (faG F k (i + 1)).length c7 (rs5 ++ rs6) (faG F k (i + 1))) := by
          rw [hsucc, List.length_append]
          unfold mat
          rw [rowsCk_append hrl]
          refine hS5.sub (List.Sublist.cons_cons _ ((List.Sublist.refl _).append ?_))
          rw [List.append_nil]
          exact List.sublist_cons_self _ _
        refine Ops.mv_sl rfl rfl rfl ?_
        refine Ops.nil ?_
        refine blockQ_n ?_
        refine thenQ_n ?_
        refine Cd.region ?_
        refine Ops.add rfl rfl rfl (by omega) ?_
        refine Ops.mv_int rfl rfl rfl ?_
        refine Ops.nil ?_
        refine thenQ_n ?_
        exact ⟨(i + 1, A7, c7, rs5 ++ rs6), by show n - (i + 1) < n - i; omega, ⟨rfl, by show Value.slice A7 ((faG F k i).length + (ptsP (gl F (i : Int)) k).length) c7 = .slice A7 (faG F k (i + 1)).length c7; rw [hsucc, List.length_append], rfl, rfl, rfl, trivial⟩, by show i + 1 ≤ n; omega, by show (rs5 ++ rs6).length = _; rw [hsucc, List.length_append, List.length_append, hrl, hrl6], hS6⟩
      · rw [if_neg (by omega)] at hsucc
        rw [← hsucc] at hrl hS3 ⊢
        refine Cd.skip ?_
        refine blockQ_n ?_
        refine thenQ_n ?_
        refine Cd.region ?_
        refine Ops.add rfl rfl rfl (by omega) ?_
        refine Ops.mv_int rfl rfl rfl ?_
        refine Ops.nil ?_
        refine thenQ_n ?_
        exact ⟨(i + 1, A5, c5, rs5), by show n - (i + 1) < n - i; omega, ⟨rfl, rfl, rfl, rfl, rfl, trivial⟩, by show i + 1 ≤ n; omega, hrl, hS3⟩
    · rw [if_neg (by omega)] at hsucc
      rw [← hsucc] at hrl hS3 ⊢
      refine Ops.skipg rfl rfl rfl rfl rfl ?_
      refine Ops.skipg rfl rfl rfl rfl rfl ?_
      refine Ops.skipg rfl rfl rfl rfl rfl ?_
      refine Ops.skipg rfl rfl rfl rfl rfl ?_
      refine Ops.pick_f rfl rfl rfl ?_
      refine Ops.nil ?_
      refine thenQ_n ?_
      refine Cd.cond_f rfl ?_
      refine Cd.skip ?_
      refine blockQ_n ?_
      refine thenQ_n ?_
      refine Cd.region ?_
      refine Ops.add rfl rfl rfl (by omega) ?_
      refine Ops.mv_int rfl rfl rfl ?_
      refine Ops.nil ?_
      refine thenQ_n ?_
      exact ⟨(i + 1, A5, c5, rs5), by show n - (i + 1) < n - i; omega, ⟨rfl, rfl, rfl, rfl, rfl, trivial⟩, by show i + 1 ≤ n; omega, hrl, hS3⟩
  · have hie : i = F.length := by omega
    rw [hie, faG_all] at hrl hS3 ⊢
    have hnum := faL_num (F := F) k h6
    have hLm : ∀ a, a < (faL F k).length → ((faL F k).getD a []).length ≤ 6 := fun a ha => by
      have hm : (faL F k).getD a [] ∈ faL F k := by
        rw [List.getD_eq_getElem?_getD, List.getElem?_eq_getElem ha]; exact List.getElem_mem _
      rcases faL_mem.1 hm with ⟨_, h⟩ | ⟨_, f, hf, h, _⟩
      · rw [h]; simp
      · have := h.length_le
        have := h6 f hf
        omega
    generalize hLe : faL F k = L at *
    have hcapL : ∀ a, a < L.length → (sv rs5 a).n ≤ 9223372036854775807 := fun a ha => by
      have h := (St.rowAt hS3 hrl ha).1
      have := hLm a ha
      omega
    refine Cd.exit ?_
    refine thenQ_x ?_
    refine thenQ_x ?_
    refine blockQ_x ?_
    refine thenQ_n ?_
    refine Cd.seq ?_
    refine Cd.region ?_
    refine Ops.mv_sl rfl rfl rfl ?_
    refine Ops.call (sortL_c 0 hS3 rfl (by omega) (fun a => L.getD a []) hcapL (fun w' q hq1 hq2 h a ha => St.rowAt (p := CkR 25 A5 L.length c5 (q.map (sv rs5))) h hrl ha)) rfl rfl rfl ?_
    rintro _ w4 ⟨rfl, q, hq, hqs, hS4⟩
    have hS4 : St w w4 (CkR 25 A5 L.length c5 (q.map (sv rs5)) :: rowsCk 2 rs5 L) := hS4
    have hql : q.length = L.length := by rw [hq.length_eq, List.length_range]
    have hqm : ∀ a, a < L.length → q.getD a 0 < L.length := fun a h => List.mem_range.1 (hq.mem_iff.1 (by
      rw [List.getD_eq_getElem?_getD, List.getElem?_eq_getElem (show a < q.length by omega)]; exact List.getElem_mem _))
    have hsv : ∀ a, a < L.length → sv (q.map (sv rs5)) a = sv rs5 (q.getD a 0) := fun a h => by
      show (q.map (sv rs5)).getD a slNil = _
      simp only [List.getD_eq_getElem?_getD, List.getElem?_map, List.getElem?_eq_getElem (show a < q.length by omega), Option.map_some, Option.getD_some]
    obtain ⟨e1, e2, e3, e4⟩ := sortOnce hq hqs k (F := F) (fun x => by rw [hLe])
    refine Ops.nil ?_
    refine thenQ_n ?_
    refine Cd.seq ?_
    refine Cd.region ?_
    refine Ops.mv_sl rfl rfl rfl ?_
    refine Ops.call (compactF_c 0 hS4 rfl (by omega) (fun a => L.getD (q.getD a 0) []) (fun a ha => by rw [hsv a ha]; exact hcapL _ (hqm a ha)) (fun w' q2 hq1 hq2 h a ha => by
      rw [hsv a ha]
      exact St.rowAt (p := CkR 25 A5 L.length c5 (q2.map (sv (q.map (sv rs5))))) h hrl (hqm a ha))) rfl rfl rfl ?_
    rintro _ w5 ⟨rfl, hS5⟩
    generalize hkp : kepC (fun a => L.getD (q.getD a 0) []) L.length = kp at *
    have hss : kp.map (sv (q.map (sv rs5))) = (kp.map fun a => q.getD a 0).map fun i => rs5.getD i slNil := by
      rw [List.map_map]
      exact List.map_congr_left fun a ha => by rw [← hkp] at ha; exact hsv a (kepC_mem_lt ha)
    have hS5 : St w w5 ([CkR 25 A5 kp.length c5 (kp.map (sv (q.map (sv rs5))))] ++ rowsCk 2 rs5 L) := hS5
    have hS6 := hS5.pick hrl e2 (fun i hi => by rw [hrl]; exact e3 i hi)
    rw [e1, hss, e4] at hS6
    refine Ops.mv_sl rfl rfl rfl ?_
    refine Ops.nil ?_
    refine thenQ_n ?_
    refine Cd.ret ?_
    refine ret1_s rfl ?_
    exact ⟨A5, c5, (kp.map fun a => q.getD a 0).map fun i => rs5.getD i slNil, by rw [e4], by rw [List.length_map, List.length_map]; exact e4, by rw [List.append_nil]; exact hS6⟩
end Go.Proofs.YtdedegbendjmbaaGreatDoor.Vc
/-
 Numbers of faces, vectors and characteristics of complexes, walked in the program. Conditions: as each states them.
-/
namespace Go.Proofs.YtdedegbendjmbaaGreatDoor.Vc
open Go.RowKit

theorem depth_c (Pc : Option Addr) (V : Int) (A : Option Addr) (n c : Nat) (rs : List SlV) (F : List (List Int)) (w : World) (hP : Rd w Pc 2 (fun j => [Value.int .i64 V, .slice A n c].getD j undef)) (hR : RowsI w A n rs F) (hn : n ≤ 1000) (h6 : ∀ f ∈ F, f.length ≤ 1000000) :
  Ret Tryz.prog 132 [.pointer Pc] w (fun v w' => v = .int .i64 (dpt F : Int) ∧ w' = w) := by
 have hFl := hR.len
 refine Ret.of_cd Tryz.func132 rfl Tryz.ntmps132 rfl (post1 rfl) ?_
 refine Cd.seq ?_
 refine Cd.region ?_
 refine Ops.mv_int rfl rfl rfl ?_
 refine Ops.nil ?_
 refine thenQ_n ?_
 refine Cd.seq ?_
 refine Cd.region ?_
 refine Ops.mv_int rfl rfl rfl ?_
 refine Ops.nil ?_
 refine thenQ_n ?_
 refine Cd.seq ?_
 refine Cd.seq ?_
 refine Cd.region ?_
 refine Ops.mv_ptr rfl rfl rfl ?_
 refine Ops.nilp hP (by omega) rfl rfl ?_
 skip
 refine Ops.fld hP rfl rfl rfl rfl inferInstance ?_
 skip
 refine Ops.ldf_s hP rfl rfl rfl rfl rfl ?_
 refine Ops.len rfl rfl ?_
 refine Ops.mv_int rfl rfl rfl ?_
 refine Ops.nil ?_
 refine thenQ_n ?_
 refine Cd.block ?_
 refine Cd.loop (α := Nat) (fun i => [(3, .int .i64 ((dpt (F.take i) : Nat) : Int)), (9, .slice A n c), (10, .int .i64 (n : Int)), (11, .int .i64 (i : Int))]) (fun i w' => w' = w ∧ i ≤ n) (fun i => n - i) 0 ⟨rfl, rfl, rfl, rfl, trivial⟩ ⟨rfl, Nat.zero_le _⟩ ?_
 rintro i e w ⟨rfl, hi⟩
 refine Cd.seq ?_
 refine Cd.region ?_
 refine Ops.lss rfl rfl rfl ?_
 refine Ops.nil ?_
 refine thenQ_n ?_
 refine Cd.seq ?_
 refine Cd.cond_p _ rfl (fun h3 => ?_) (fun h3 => ?_)
 ·have hiF : i < F.length := by omega
  have hrow := hR.at_ (i := (i : Int)) (by omega) (by omega)
  have hrl0 := hrow.1
  refine Cd.skip ?_
  refine thenQ_n ?_
  refine Cd.seq ?_
  refine Cd.block ?_
  refine Cd.seq ?_
  refine Cd.region ?_
  refine Ops.idx hR.top.2 rfl rfl rfl (by omega) (by omega) ?_
  refine Ops.ld_sl hR.top rfl (by omega) rfl rfl ?_
  refine Ops.mv_sl rfl rfl rfl ?_
  refine Ops.nil ?_
  refine thenQ_n ?_
  refine Cd.region ?_
  refine Ops.mv_int rfl rfl rfl ?_
  refine Ops.mv_sl rfl rfl rfl ?_
  refine Ops.call (sizeI_c _ _ _ _) rfl rfl rfl ?_
  rintro _ _ ⟨rfl, rfl⟩
  refine Ops.maxI rfl rfl rfl ?_
  refine Ops.mv_int rfl rfl rfl ?_
  refine Ops.nil ?_
  refine blockQ_n ?_
  refine thenQ_n ?_
  refine Cd.region ?_
  refine Ops.add rfl rfl rfl (by omega) ?_
  refine Ops.mv_int rfl rfl rfl ?_
  refine Ops.nil ?_
  refine thenQ_n ?_
  exact ⟨i + 1, by show n - (i + 1) < n - i; omega, ⟨by show Value.int .i64 _ = .int .i64 _; rw [dpt_succ hiF]; congr 1; omega, rfl, rfl, rfl, trivial⟩, rfl, by omega⟩
 ·refine Cd.exit ?_
  refine thenQ_x ?_
  refine thenQ_x ?_
  refine blockQ_x ?_
  refine thenQ_n ?_
  refine Cd.seq ?_
  refine Cd.region ?_
  refine Ops.mv_int rfl rfl rfl ?_
  refine Ops.mv_int rfl rfl rfl ?_
  refine Ops.nil ?_
  refine thenQ_n ?_
  refine Cd.ret ?_
  refine ret1_i rfl ?_
  have hin : i = F.length := by omega
  refine ⟨?_, rfl⟩
  rw [hin, List.take_length]

/-- the numbers of faces with fewer than so many elements -/
def fvG (F : List (List Int)) (k : Nat) : List Int := (List.range k).map fun j => ((fcs F j).length : Int)
theorem fvG_succ (F : List (List Int)) (k : Nat) : fvG F (k + 1) = fvG F k ++ [((fcs F k).length : Int)] := by simp [fvG, List.range_succ]
theorem fvP_bd {F : List (List Int)} (hn : F.length ≤ 400) (h6 : ∀ f ∈ F, f.length ≤ 6) : ∀ x ∈ fvP F, 0 ≤ x ∧ x ≤ 30000 := fun x hx => by
 obtain ⟨k, _, rfl⟩ := List.mem_map.1 hx
 have := fcs_num k h6
 omega

theorem fVector_c (Pc : Option Addr) (V : Int) (A : Option Addr) (n c : Nat) (rs : List SlV) (F : List (List Int)) (w : World) (hP : Rd w Pc 2 (fun j => [Value.int .i64 V, .slice A n c].getD j undef)) (hR : RowsI w A n rs F) (hn : n ≤ 1000) (h6 : ∀ f ∈ F, f.length ≤ 6) :
  Ret Tryz.prog 94 [.pointer Pc] w (fun v w' => ∃ A' c', v = .slice A' (dpt F + 1) c' ∧ St w w' [CkI 2 A' (dpt F + 1) c' (fvP F)]) := by
 have hd := dpt_bd h6
 refine Ret.of_cd Tryz.func94 rfl Tryz.ntmps94 rfl (post1 rfl) ?_
 refine Cd.seq ?_
 refine Cd.region ?_
 refine Ops.mv_sl rfl rfl rfl ?_
 refine Ops.nil ?_
 refine thenQ_n ?_
 refine Cd.seq ?_
 refine Cd.region ?_
 refine Ops.mv_sl rfl rfl rfl ?_
 refine Ops.nil ?_
 refine thenQ_n ?_
 refine Cd.seq ?_
 refine Cd.seq ?_
 refine Cd.region ?_
 refine Ops.mv_ptr rfl rfl rfl ?_
 refine Ops.call (depth_c Pc V A n c rs F w hP hR hn (fun f hf => by have := h6 f hf; omega)) rfl rfl rfl ?_
 rintro _ w ⟨rfl, rfl⟩
 refine Ops.add rfl rfl rfl (by omega) ?_
 refine Ops.mv_int rfl rfl rfl ?_
 refine Ops.nil ?_
 refine thenQ_n ?_
 refine Cd.block ?_
 refine Cd.loop (α := Nat × Option Addr × Nat) (fun z => [(0, .pointer Pc), (3, .slice z.2.1 z.1 z.2.2), (7, .int .i64 ((dpt F : Int) + 1)), (8, .int .i64 (z.1 : Int))]) (fun z w' => z.1 ≤ dpt F + 1 ∧ St w w' [CkI 2 z.2.1 z.1 z.2.2 (fvG F z.1)]) (fun z => dpt F + 1 - z.1) (0, none, 0) ⟨rfl, rfl, rfl, rfl, trivial⟩ ⟨Nat.zero_le _, (St.refl w).nil _⟩ ?_
 rintro ⟨k, A3, c3⟩ e w1 ⟨hk, hS⟩
 dsimp only at hk hS ⊢
 refine Cd.seq ?_
 refine Cd.region ?_
 refine Ops.lss rfl rfl rfl ?_
 refine Ops.nil ?_
 refine thenQ_n ?_
 refine Cd.seq ?_
 refine Cd.cond_p _ rfl (fun h1 => ?_) (fun h1 => ?_)
 ·refine Cd.skip ?_
  refine thenQ_n ?_
  refine Cd.seq ?_
  refine Cd.block ?_
  refine Cd.seq ?_
  refine Cd.region ?_
  refine Ops.mv_int rfl rfl rfl ?_
  refine Ops.mv_int rfl rfl rfl ?_
  refine Ops.nil ?_
  refine thenQ_n ?_
  refine Cd.region ?_
  refine Ops.mv_sl rfl rfl rfl ?_
  refine Ops.mv_ptr rfl rfl rfl ?_
  refine Ops.mv_int rfl rfl rfl ?_
  refine Ops.call (facesWith_c Pc V A n c rs F k _ (hS.old hP) (hS.oldRows hR) hn h6 (by omega)) rfl rfl rfl ?_
  rintro _ w2 ⟨A4, c4, rs4, rfl, _, hT⟩
  have hS2 : St w w2 [CkI 2 A3 k c3 (fvG F k)] := hS.later hT.below
  have hnum := fcs_num (F := F) k h6
  refine Ops.call (sizeR_c _ _ _ _) rfl rfl rfl ?_
  rintro _ _ ⟨rfl, rfl⟩
  refine Ops.bs1I hS2 rfl rfl rfl ?_
  intro A5 w3 hS3
  refine Ops.appI 1 hS3 rfl (hS3.rdI 0 rfl) rfl rfl rfl (by omega) (by omega) rfl ?_
  intro A6 c6 w4 hS4
  have hS4 : St w w4 [CkI 2 A6 (k + 1) c6 (fvG F (k + 1))] := by rw [fvG_succ]; exact hS4.tail
  refine Ops.mv_sl rfl rfl rfl ?_
  refine Ops.nil ?_
  refine blockQ_n ?_
  refine thenQ_n ?_
  refine Cd.region ?_
  refine Ops.add rfl rfl rfl (by omega) ?_
  refine Ops.mv_int rfl rfl rfl ?_
  refine Ops.nil ?_
  refine thenQ_n ?_
  exact ⟨(k + 1, A6, c6), by show dpt F + 1 - (k + 1) < dpt F + 1 - k; omega, ⟨rfl, rfl, rfl, rfl, trivial⟩, by show k + 1 ≤ dpt F + 1; omega, hS4⟩
 ·have hke : k = dpt F + 1 := by omega
  subst hke
  refine Cd.exit ?_
  refine thenQ_x ?_
  refine thenQ_x ?_
  refine blockQ_x ?_
  refine thenQ_n ?_
  refine Cd.seq ?_
  refine Cd.region ?_
  refine Ops.mv_sl rfl rfl rfl ?_
  refine Ops.mv_sl rfl rfl rfl ?_
  refine Ops.nil ?_
  refine thenQ_n ?_
  refine Cd.ret ?_
  refine ret1_s rfl ?_
  exact ⟨A3, c3, rfl, hS⟩

theorem FVector_c (V : Int) (A : Option Addr) (n c : Nat) (rs : List SlV) (F : List (List Int)) (w : World) (hT : Tab w) (hR : RowsI w A n rs F) (hC : Cplx V F) :
  Ret Tryz.prog 35 [.agg #[.int .i64 V, .slice A n c]] w (AnsR (fvP F) 0 w) := by
 have hFl := hR.len
 have hF4 := hC.f
 refine Ret.of_cd Tryz.func35 rfl Tryz.ntmps35 rfl (post2 rfl) ?_
 refine Cd.seq ?_
 refine Cd.region ?_
 refine Ops.box2 (St.refl w) rfl rfl ?_
 intro Ab w1 hS1
 refine Ops.mv_sl rfl rfl rfl ?_
 refine Ops.mv_int rfl rfl rfl ?_
 refine Ops.nil ?_
 refine thenQ_n ?_
 refine Cd.seq ?_
 refine Cd.seq ?_
 refine Cd.region ?_
 refine Ops.ld_agg 1 (hS1.rd 0 rfl) rfl rfl rfl ?_
 refine Ops.call (isComplex_c V A n c rs F _ (hT.later hS1.below) (hS1.oldRows hR) (by omega)) rfl rfl rfl ?_
 rintro _ w2 ⟨rfl, hst⟩
 have hS2 := hS1.later hst.below
 first | refine Ops.not_p rfl rfl ?_ | refine Ops.not rfl rfl ?_
 refine Ops.nil ?_
 refine thenQ_n ?_
 refine Cd.cond_pf rfl (fun h => h hC) ?_
 refine Cd.skip ?_
 refine thenQ_n ?_
 refine Cd.seq ?_
 refine Cd.region ?_
 refine Ops.call (fVector_c Ab V A n c rs F _ (hS2.rd 0 rfl) (hS2.oldRows hR) (by omega) (fun f hf => (hC.row f hf).1.2)) rfl rfl rfl ?_
 rintro _ w3 ⟨A4, c4, rfl, hst3⟩
 have hS3 := hS2.call2 hst3
 refine Ops.mv_sl rfl rfl rfl ?_
 refine Ops.mv_int rfl rfl rfl ?_
 refine Ops.nil ?_
 refine thenQ_n ?_
 refine Cd.ret ?_
 refine ret2_si rfl rfl ?_
 exact ⟨A4, c4, by rw [fvP_len], by rw [fvP_len]; exact hS3.tail⟩
end Go.Proofs.YtdedegbendjmbaaGreatDoor.Vc
/-
 Characteristics and h-vectors of complexes, walked in the program. Conditions: as each states them.
-/
namespace Go.Proofs.YtdedegbendjmbaaGreatDoor.Vc
open Go.RowKit

theorem sumN_bd {g : Nat → Int} {b : Int} (h0 : 0 ≤ b) : ∀ {n : Nat}, (∀ i, i < n → -b ≤ g i ∧ g i ≤ b) → -(n * b) ≤ sumN n g ∧ sumN n g ≤ n * b
 | 0, _ => by simp [sumN]
 | n + 1, h => by
  have h1 := sumN_bd h0 (n := n) fun i hi => h i (by omega)
  have h2 := h n (by omega)
  have e : ((n + 1 : Nat) : Int) * b = n * b + b := by rw [Int.natCast_add, Int.add_mul]; simp
  rw [e]
  unfold sumN
  omega
/-- the terms of an alternating sum -/
def altT (f : List Int) (i : Nat) : Int := if i % 2 = 0 then gi f (i : Int) else -gi f (i : Int)
def altS (f : List Int) : Int := sumN f.length (altT f)
theorem gi_bnd {f : List Int} {b : Int} (hb : ∀ x ∈ f, 0 ≤ x ∧ x ≤ b) {i : Nat} (h : i < f.length) : 0 ≤ gi f (i : Int) ∧ gi f (i : Int) ≤ b := by
 rw [gi_mem h]; exact hb _ (List.getElem_mem _)
theorem altT_bd {f : List Int} {b : Int} (hb : ∀ x ∈ f, 0 ≤ x ∧ x ≤ b) {i : Nat} (h : i < f.length) : -b ≤ altT f i ∧ altT f i ≤ b := by
 have := gi_bnd hb h
 unfold altT
 split <;> omega

theorem eulerOf_c (A : Option Addr) (n c : Nat) (f : List Int) (w : World) (hR : RdI w A n f) (hn : n ≤ 100) (hb : ∀ x ∈ f, 0 ≤ x ∧ x ≤ 30000) :
  Ret Tryz.prog 106 [.slice A n c] w (fun v w' => v = .int .i64 (altS f) ∧ w' = w) := by
 have hfl := hR.1
 have hbd : ∀ k, k ≤ n → -3000000 ≤ sumN k (altT f) ∧ sumN k (altT f) ≤ 3000000 := fun k hk => by
  have h1 := sumN_bd (g := altT f) (b := 30000) (by omega) (n := k) fun i hi => altT_bd hb (by omega)
  have h2 : (k : Int) * 30000 ≤ 3000000 := by omega
  omega
 refine Ret.of_cd Tryz.func106 rfl Tryz.ntmps106 rfl (post1 rfl) ?_
 refine Cd.seq ?_
 refine Cd.region ?_
 refine Ops.mv_int rfl rfl rfl ?_
 refine Ops.nil ?_
 refine thenQ_n ?_
 refine Cd.seq ?_
 refine Cd.region ?_
 refine Ops.mv_int rfl rfl rfl ?_
 refine Ops.nil ?_
 refine thenQ_n ?_
 refine Cd.seq ?_
 refine Cd.seq ?_
 refine Cd.region ?_
 refine Ops.mv_sl rfl rfl rfl ?_
 refine Ops.len rfl rfl ?_
 refine Ops.mv_int rfl rfl rfl ?_
 refine Ops.nil ?_
 refine thenQ_n ?_
 refine Cd.block ?_
 refine Cd.loop (α := Nat) (fun i => [(3, .int .i64 (sumN i (altT f))), (6, .slice A n c), (7, .int .i64 (n : Int)), (8, .int .i64 (i : Int))]) (fun i w' => w' = w ∧ i ≤ n) (fun i => n - i) 0 ⟨rfl, rfl, rfl, rfl, trivial⟩ ⟨rfl, Nat.zero_le _⟩ ?_
 rintro i e w ⟨rfl, hi⟩
 have h0 := hbd i hi
 refine Cd.seq ?_
 refine Cd.region ?_
 refine Ops.lss rfl rfl rfl ?_
 refine Ops.nil ?_
 refine thenQ_n ?_
 refine Cd.seq ?_
 refine Cd.cond_p _ rfl (fun h3 => ?_) (fun h3 => ?_)
 ·have h1 := hbd (i + 1) (by omega)
  have h2 : sumN (i + 1) (altT f) = sumN i (altT f) + altT f i := rfl
  have h5 := gi_bnd hb (i := i) (by omega)
  refine Cd.skip ?_
  refine thenQ_n ?_
  refine Cd.seq ?_
  refine Cd.block ?_
  refine Cd.seq ?_
  refine Cd.region ?_
  refine Ops.mv_int rfl rfl rfl ?_
  refine Ops.idx hR.2 rfl rfl rfl (by omega) (by omega) ?_
  refine Ops.ld_int hR rfl (by omega) rfl rfl ?_
  refine Ops.mv_int rfl rfl rfl ?_
  refine Ops.mv_int rfl rfl rfl ?_
  refine Ops.nil ?_
  refine thenQ_n ?_
  refine Cd.seq ?_
  refine Cd.region ?_
  refine Ops.mv_int rfl rfl rfl ?_
  refine Ops.rem rfl rfl rfl (by omega) ?_
  refine Ops.eql rfl rfl rfl ?_
  refine Ops.nil ?_
  refine thenQ_n ?_
  refine Cd.cond_p _ rfl (fun h4 => ?_) (fun h4 => ?_)
  ·have e : altT f i = gi f (i : Int) := by unfold altT; rw [if_pos (by omega)]
   refine Cd.region ?_
   refine Ops.mv_int rfl rfl rfl ?_
   refine Ops.mv_int rfl rfl rfl ?_
   refine Ops.add rfl rfl rfl (by omega) ?_
   refine Ops.mv_int rfl rfl rfl ?_
   refine Ops.nil ?_
   refine blockQ_n ?_
   refine thenQ_n ?_
   refine Cd.region ?_
   refine Ops.add rfl rfl rfl (by omega) ?_
   refine Ops.mv_int rfl rfl rfl ?_
   refine Ops.nil ?_
   refine thenQ_n ?_
   exact ⟨i + 1, by show n - (i + 1) < n - i; omega, ⟨by show Value.int .i64 _ = .int .i64 _; rw [h2, e], rfl, rfl, rfl, trivial⟩, rfl, by omega⟩
  ·have e : altT f i = -gi f (i : Int) := by unfold altT; rw [if_neg (by omega)]
   refine Cd.region ?_
   refine Ops.mv_int rfl rfl rfl ?_
   refine Ops.mv_int rfl rfl rfl ?_
   refine Ops.sub rfl rfl rfl (by omega) ?_
   refine Ops.mv_int rfl rfl rfl ?_
   refine Ops.nil ?_
   refine blockQ_n ?_
   refine thenQ_n ?_
   refine Cd.region ?_
   refine Ops.add rfl rfl rfl (by omega) ?_
   refine Ops.mv_int rfl rfl rfl ?_
   refine Ops.nil ?_
   refine thenQ_n ?_
   exact ⟨i + 1, by show n - (i + 1) < n - i; omega, ⟨by show Value.int .i64 _ = .int .i64 _; rw [h2, e]; congr 1, rfl, rfl, rfl, trivial⟩, rfl, by omega⟩
 ·have hin : i = f.length := by omega
  refine Cd.exit ?_
  refine thenQ_x ?_
  refine thenQ_x ?_
  refine blockQ_x ?_
  refine thenQ_n ?_
  refine Cd.seq ?_
  refine Cd.region ?_
  refine Ops.mv_int rfl rfl rfl ?_
  refine Ops.mv_int rfl rfl rfl ?_
  refine Ops.nil ?_
  refine thenQ_n ?_
  refine Cd.ret ?_
  refine ret1_i rfl ?_
  exact ⟨by rw [hin]; rfl, rfl⟩

/-- binomials as the program counts them -/
def chz (m : Nat) : Nat → Int
 | 0 => 1
 | i + 1 => chz m i * ((m : Int) - i) / ((i : Int) + 1)
theorem chz_bd : ∀ m, m < 8 → ∀ i, i < 9 → 0 ≤ chz m i ∧ chz m i ≤ 100 := by decide +kernel
theorem chz_pD : ∀ m, m < 7 → ∀ i, i < 8 → i ≤ m → pDn m i = if i % 2 = 0 then chz m i else -chz m i := by decide +kernel

theorem choose_c (m k : Nat) (w : World) (hm : m ≤ 6) (hk : k ≤ m) :
  Ret Tryz.prog 145 [.int .i64 (m : Int), .int .i64 (k : Int)] w (fun v w' => v = .int .i64 (chz m k) ∧ w' = w) := by
 refine Ret.of_cd Tryz.func145 rfl Tryz.ntmps145 rfl (post1 rfl) ?_
 refine Cd.seq ?_
 refine Cd.region ?_
 refine Ops.mv_int rfl rfl rfl ?_
 refine Ops.nil ?_
 refine thenQ_n ?_
 refine Cd.seq ?_
 refine Cd.region ?_
 refine Ops.mv_int rfl rfl rfl ?_
 refine Ops.nil ?_
 refine thenQ_n ?_
 refine Cd.seq ?_
 refine Cd.seq ?_
 refine Cd.region ?_
 refine Ops.mv_int rfl rfl rfl ?_
 refine Ops.mv_int rfl rfl rfl ?_
 refine Ops.nil ?_
 refine thenQ_n ?_
 refine Cd.block ?_
 refine Cd.loop (α := Nat) (fun i => [(0, .int .i64 (m : Int)), (5, .int .i64 (chz m i)), (7, .int .i64 (k : Int)), (8, .int .i64 (i : Int))]) (fun i w' => w' = w ∧ i ≤ k) (fun i => k - i) 0 ⟨rfl, rfl, rfl, rfl, trivial⟩ ⟨rfl, Nat.zero_le _⟩ ?_
 rintro i e w ⟨rfl, hi⟩
 have h0 := chz_bd m (by omega) i (by omega)
 refine Cd.seq ?_
 refine Cd.region ?_
 refine Ops.lss rfl rfl rfl ?_
 refine Ops.nil ?_
 refine thenQ_n ?_
 refine Cd.seq ?_
 refine Cd.cond_p _ rfl (fun h3 => ?_) (fun h3 => ?_)
 ·have hm0 : 0 ≤ chz m i * ((m : Int) - i) := Int.mul_nonneg h0.1 (by omega)
  have hm1 : chz m i * ((m : Int) - i) ≤ 100 * 6 := Int.mul_le_mul h0.2 (by omega) (by omega) (by omega)
  refine Cd.skip ?_
  refine thenQ_n ?_
  refine Cd.seq ?_
  refine Cd.block ?_
  refine Cd.seq ?_
  refine Cd.region ?_
  refine Ops.mv_int rfl rfl rfl ?_
  refine Ops.mv_int rfl rfl rfl ?_
  refine Ops.nil ?_
  refine thenQ_n ?_
  refine Cd.region ?_
  refine Ops.mv_int rfl rfl rfl ?_
  refine Ops.mv_int rfl rfl rfl ?_
  refine Ops.mv_int rfl rfl rfl ?_
  refine Ops.sub rfl rfl rfl (by omega) ?_
  refine Ops.mul rfl rfl rfl (by omega) ?_
  refine Ops.mv_int rfl rfl rfl ?_
  refine Ops.add rfl rfl rfl (by omega) ?_
  refine Ops.quo rfl rfl rfl (by omega) ?_
  refine Ops.mv_int rfl rfl rfl ?_
  refine Ops.nil ?_
  refine blockQ_n ?_
  refine thenQ_n ?_
  refine Cd.region ?_
  refine Ops.add rfl rfl rfl (by omega) ?_
  refine Ops.mv_int rfl rfl rfl ?_
  refine Ops.nil ?_
  refine thenQ_n ?_
  exact ⟨i + 1, by show k - (i + 1) < k - i; omega, ⟨rfl, rfl, rfl, rfl, trivial⟩, rfl, by omega⟩
 ·have hik : i = k := by omega
  subst hik
  refine Cd.exit ?_
  refine thenQ_x ?_
  refine thenQ_x ?_
  refine blockQ_x ?_
  refine thenQ_n ?_
  refine Cd.seq ?_
  refine Cd.region ?_
  refine Ops.mv_int rfl rfl rfl ?_
  refine Ops.mv_int rfl rfl rfl ?_
  refine Ops.nil ?_
  refine thenQ_n ?_
  refine Cd.ret ?_
  refine ret1_i rfl ?_
  exact ⟨rfl, rfl⟩

/-! h-vectors, term by term -/
def hvE (f : List Int) (d k i p : Nat) : Int := pW (f.take k) d p + (if k ≤ p ∧ p - k < i then gi f (k : Int) * pDn (d - k) (p - k) else 0)
def hvL (f : List Int) (d k i : Nat) : List Int := (List.range (d + 1)).map (hvE f d k i)
theorem hvL_len (f : List Int) (d k i : Nat) : (hvL f d k i).length = d + 1 := by simp [hvL]
theorem hvL_at {f : List Int} {d k i p : Nat} (h : p ≤ d) : gi (hvL f d k i) (p : Int) = hvE f d k i p := by
 rw [gi_mem (by rw [hvL_len]; omega)]
 simp [hvL]
theorem hvL_zero (f : List Int) (d : Nat) : List.replicate (d + 1) 0 = hvL f d 0 0 := by
 unfold hvL
 rw [List.map_congr_left (g := fun _ => (0 : Int)) fun p _ => by simp [hvE, pW], List.map_const', List.length_range]
theorem hvE_new (f : List Int) (d k p : Nat) : hvE f d k 0 p = pW (f.take k) d p := by simp [hvE]
theorem hvE_next {f : List Int} {d k : Nat} (hf : f.length = d + 1) (hk : k ≤ d) {p : Nat} (hp : p ≤ d) : hvE f d k (d - k + 1) p = hvE f d (k + 1) 0 p := by
 rw [hvE_new, take_succ_gi (by omega), pW_snoc, List.length_take, Nat.min_eq_left (by omega)]
 unfold hvE
 congr 1
 by_cases h : k ≤ p
 ·rw [if_pos ⟨h, by omega⟩, if_pos h]
 ·rw [if_neg (fun h' => h h'.1), if_neg h]
theorem hvL_next {f : List Int} {d k : Nat} (hf : f.length = d + 1) (hk : k ≤ d) : hvL f d k (d - k + 1) = hvL f d (k + 1) 0 :=
 List.map_congr_left fun p hp => hvE_next hf hk (by have := List.mem_range.1 hp; omega)
theorem hvL_set {f : List Int} {d k i : Nat} (h : k + i ≤ d) : (hvL f d k i).set (k + i) (hvE f d k i (k + i) + gi f (k : Int) * pDn (d - k) i) = hvL f d k (i + 1) := by
 apply List.ext_getElem
 ·rw [List.length_set, hvL_len, hvL_len]
 ·intro p h1 h2
  rw [List.getElem_set]
  simp only [hvL, List.getElem_map, List.getElem_range]
  by_cases hp : k + i = p
  ·subst hp
   rw [if_pos rfl]
   unfold hvE
   rw [if_neg (by omega), if_pos ⟨by omega, by omega⟩, show k + i - k = i by omega]
   omega
  ·rw [if_neg hp]
   unfold hvE
   by_cases h3 : k ≤ p ∧ p - k < i
   ·rw [if_pos h3, if_pos ⟨h3.1, by omega⟩]
   ·rw [if_neg h3, if_neg (by omega)]
theorem hvL_all {f : List Int} {d : Nat} (hf : f.length = d + 1) : hvL f d (d + 1) 0 = hP f := by
 unfold hvL hP
 rw [hf]
 refine List.map_congr_left fun p _ => ?_
 rw [hvE_new, List.take_of_length_le (by omega)]; rfl
theorem pDn_bd : ∀ (m n : Nat), -(2 ^ m : Int) ≤ pDn m n ∧ pDn m n ≤ 2 ^ m
 | 0, n => by unfold pDn p1; split <;> decide
 | m + 1, n => by
  have h1 := pDn_bd m n
  have e : (2 ^ (m + 1) : Int) = 2 ^ m + 2 ^ m := by rw [Int.pow_succ]; omega
  show -(2 ^ (m + 1) : Int) ≤ pDn m n - pX (pDn m) n ∧ pDn m n - pX (pDn m) n ≤ 2 ^ (m + 1)
  rw [e]
  have h0 : (0 : Int) ≤ 2 ^ m := Int.pow_nonneg (by decide)
  cases n with
  | zero => simp only [pX]; omega
  | succ n =>
   have h2 := pDn_bd m n
   simp only [pX]
   omega
theorem mul_bd {a b x y : Int} (ha : 0 ≤ a ∧ a ≤ b) (hx : -y ≤ x ∧ x ≤ y) : -(b * y) ≤ a * x ∧ a * x ≤ b * y := by
 have h1 : a * x ≤ a * y := Int.mul_le_mul_of_nonneg_left hx.2 ha.1
 have h2 : a * -y ≤ a * x := Int.mul_le_mul_of_nonneg_left hx.1 ha.1
 have h3 : a * y ≤ b * y := Int.mul_le_mul_of_nonneg_right ha.2 (by omega)
 rw [Int.mul_neg] at h2
 omega
theorem pow_le6 {m : Nat} (h : m ≤ 6) : (2 ^ m : Int) ≤ 64 := by
 have : ∀ m, m < 7 → (2 ^ m : Int) ≤ 64 := by decide
 exact this m (by omega)
theorem pW_bd : ∀ (f : List Int) (m n : Nat), m ≤ 6 → (∀ x ∈ f, 0 ≤ x ∧ x ≤ 30000) → -((f.length : Int) * 1920000) ≤ pW f m n ∧ pW f m n ≤ (f.length : Int) * 1920000
 | [], _, _, _, _ => by simp [pW]
 | a :: r, m, n, hm, h => by
  have h1 := pDn_bd m n
  have h2 := pow_le6 hm
  have h3 := mul_bd (y := 64) (h a (by simp)) (show -64 ≤ pDn m n ∧ pDn m n ≤ 64 by omega)
  show _ ≤ a * pDn m n + pX (pW r (m - 1)) n ∧ a * pDn m n + pX (pW r (m - 1)) n ≤ _
  rw [List.length_cons]
  cases n with
  | zero => simp only [pX]; omega
  | succ n =>
   have h4 := pW_bd r (m - 1) n (by omega) fun x hx => h x (by simp [hx])
   simp only [pX]
   omega
theorem hvE_bd {f : List Int} {d k i p : Nat} (hf : f.length = d + 1) (hd : d ≤ 6) (hk : k ≤ d) (h : ∀ x ∈ f, 0 ≤ x ∧ x ≤ 30000) : -20000000 ≤ hvE f d k i p ∧ hvE f d k i p ≤ 20000000 := by
 have h1 := pW_bd (f.take k) d p hd fun x hx => h x (List.mem_of_mem_take hx)
 have h2 : ((f.take k).length : Int) ≤ 7 := by simp; omega
 have h3 := pDn_bd (d - k) (p - k)
 have h4 := pow_le6 (m := d - k) (by omega)
 have h5 := mul_bd (y := 64) (gi_bnd h (i := k) (by omega)) (show -64 ≤ pDn (d - k) (p - k) ∧ _ by omega)
 unfold hvE
 split <;> omega

theorem hVector_c (A : Option Addr) (d c : Nat) (f : List Int) (w : World) (hR : RdI w A (d + 1) f) (hd : d ≤ 6) (hb : ∀ x ∈ f, 0 ≤ x ∧ x ≤ 30000) :
    Ret Tryz.prog 101 [.slice A (d + 1) c] w (fun v w' => ∃ A' c', v = .slice A' (d + 1) c' ∧ St w w' [CkI 2 A' (d + 1) c' (hP f)]) := by
  have hfl := hR.1
  refine Ret.of_cd Tryz.func101 rfl Tryz.ntmps101 rfl (post1 rfl) ?_
  refine Cd.seq ?_
  refine Cd.region ?_
  refine Ops.mv_sl rfl rfl rfl ?_
  refine Ops.nil ?_
  refine thenQ_n ?_
  refine Cd.seq ?_
  refine Cd.region ?_
  refine Ops.mv_sl rfl rfl rfl ?_
  refine Ops.call (sizeI_c _ _ _ _) rfl rfl rfl ?_
  rintro _ w ⟨rfl, rfl⟩
  refine Ops.sub rfl rfl rfl (by omega) ?_
  refine Ops.mv_int rfl rfl rfl ?_
  refine Ops.nil ?_
  refine thenQ_n ?_
  refine Cd.seq ?_
  refine Cd.region ?_
  refine Ops.mv_int rfl rfl rfl ?_
  refine Ops.add rfl rfl rfl (by omega) ?_
  refine Ops.mkI (d + 1) (St.refl w) (by show Value.int .i64 (((d + 1 : Nat) : Int) - 1 + 1) = _; congr 1; omega) rfl (by omega) ?_
  intro A4 w1 hS1
  have hS1 : St w w1 [CkI 2 A4 (d + 1) (d + 1) (hvL f d 0 0)] := by rw [← hvL_zero]; exact hS1
  refine Ops.mv_sl rfl rfl rfl ?_
  refine Ops.nil ?_
  refine thenQ_n ?_
  refine Cd.seq ?_
  refine Cd.seq ?_
  refine Cd.region ?_
  refine Ops.mv_sl rfl rfl rfl ?_
  refine Ops.len rfl rfl ?_
  refine Ops.mv_int rfl rfl rfl ?_
  refine Ops.nil ?_
  refine thenQ_n ?_
  refine Cd.block ?_
  refine Cd.loop (α := Nat) (fun k => [(3, .int .i64 (((d + 1 : Nat) : Int) - 1)), (4, .slice A4 (d + 1) (d + 1)), (16, .slice A (d + 1) c), (17, .int .i64 ((d + 1 : Nat) : Int)), (18, .int .i64 (k : Int))]) (fun k w' => k ≤ d + 1 ∧ St w w' [CkI 2 A4 (d + 1) (d + 1) (hvL f d k 0)]) (fun k => d + 1 - k) 0 ⟨rfl, rfl, rfl, rfl, rfl, trivial⟩ ⟨Nat.zero_le _, hS1⟩ ?_
  rintro k e w2 ⟨hk, hS2⟩
  refine Cd.seq ?_
  refine Cd.region ?_
  refine Ops.lss rfl rfl rfl ?_
  refine Ops.nil ?_
  refine thenQ_n ?_
  refine Cd.seq ?_
  refine Cd.cond_p _ rfl (fun h1 => ?_) (fun h1 => ?_)
  · have hkd : k ≤ d := by omega
    have hR2 := hS2.oldI hR
    refine Cd.skip ?_
    refine thenQ_n ?_
    refine Cd.seq ?_
    refine Cd.block ?_
    refine Cd.seq ?_
    refine Cd.region ?_
    refine Ops.mv_int rfl rfl rfl ?_
    refine Ops.idx hR2.2 rfl rfl rfl (by omega) (by omega) ?_
    refine Ops.ld_int hR2 rfl (by omega) rfl rfl ?_
    refine Ops.mv_int rfl rfl rfl ?_
    refine Ops.mv_int rfl rfl rfl ?_
    refine Ops.nil ?_
    refine thenQ_n ?_
    refine Cd.seq ?_
    refine Cd.region ?_
    refine Ops.mv_int rfl rfl rfl ?_
    refine Ops.mv_int rfl rfl rfl ?_
    refine Ops.sub rfl rfl rfl (by omega) ?_
    refine Ops.mv_int rfl rfl rfl ?_
    refine Ops.nil ?_
    refine thenQ_n ?_
    refine Cd.seq ?_
    refine Cd.region ?_
    refine Ops.mv_int rfl rfl rfl ?_
    refine Ops.add rfl rfl rfl (by omega) ?_
    refine Ops.mv_int rfl rfl rfl ?_
    refine Ops.nil ?_
    refine thenQ_n ?_
    refine Cd.block ?_
    refine Cd.loop (α := Nat) (fun i => [(3, .int .i64 (((d + 1 : Nat) : Int) - 1)), (4, .slice A4 (d + 1) (d + 1)), (5, .int .i64 (k : Int)), (6, .int .i64 (gi f (k : Int))), (7, .int .i64 ((d - k : Nat) : Int)), (16, .slice A (d + 1) c), (17, .int .i64 ((d + 1 : Nat) : Int)), (18, .int .i64 (k : Int)), (27, .int .i64 ((d - k + 1 : Nat) : Int)), (28, .int .i64 (i : Int))])
      (fun i w' => i ≤ d - k + 1 ∧ St w w' [CkI 2 A4 (d + 1) (d + 1) (hvL f d k i)]) (fun i => d - k + 1 - i) 0 ⟨rfl, rfl, rfl, rfl, by show Value.int .i64 (((d + 1 : Nat) : Int) - 1 - k) = .int .i64 ((d - k : Nat) : Int); congr 1; omega, rfl, rfl, rfl, by show Value.int .i64 (((d + 1 : Nat) : Int) - 1 - k + 1) = .int .i64 ((d - k + 1 : Nat) : Int); congr 1; omega, rfl, trivial⟩ ⟨Nat.zero_le _, hS2⟩ ?_
    rintro i e w3 ⟨hi, hS3⟩
    refine Cd.seq ?_
    refine Cd.region ?_
    refine Ops.lss rfl rfl rfl ?_
    refine Ops.nil ?_
    refine thenQ_n ?_
    refine Cd.seq ?_
    refine Cd.cond_p _ rfl (fun h2 => ?_) (fun h2 => ?_)
    · have hg := gi_bnd hb (i := k) (by omega)
      have hch := chz_bd (d - k) (by omega) i (by omega)
      have hpd := chz_pD (d - k) (by omega) i (by omega) (by omega)
      have hE := hvE_bd (i := i) (p := k + i) hfl hd hkd hb
      have hm0 : 0 ≤ gi f (k : Int) * chz (d - k) i := Int.mul_nonneg hg.1 hch.1
      have hm1 : gi f (k : Int) * chz (d - k) i ≤ 30000 * 100 := Int.mul_le_mul hg.2 hch.2 hch.1 (by omega)
      have hset := hvL_set (f := f) (d := d) (k := k) (i := i) (by omega)
      have hat : gi (hvL f d k i) ((k : Int) + i) = hvE f d k i (k + i) := by
        have := hvL_at (f := f) (k := k) (i := i) (p := k + i) (d := d) (by omega)
        rwa [Int.natCast_add] at this
      have hlen := hvL_len f d k i
      have hRh : RdI w3 A4 (d + 1) (hvL f d k i) := hS3.rdI 0 rfl
      refine Cd.skip ?_
      refine thenQ_n ?_
      refine Cd.seq ?_
      refine Cd.block ?_
      refine Cd.seq ?_
      refine Cd.region ?_
      refine Ops.mv_int rfl rfl rfl ?_
      refine Ops.mv_int rfl rfl rfl ?_
      refine Ops.nil ?_
      refine thenQ_n ?_
      refine Cd.seq ?_
      refine Cd.region ?_
      refine Ops.mv_int rfl rfl rfl ?_
      refine Ops.mv_int rfl rfl rfl ?_
      refine Ops.mv_int rfl rfl rfl ?_
      refine Ops.call (choose_c (d - k) i _ (by omega) (by omega)) rfl rfl rfl ?_
      rintro _ _ ⟨rfl, rfl⟩
      refine Ops.mul rfl rfl rfl (by omega) ?_
      refine Ops.mv_int rfl rfl rfl ?_
      refine Ops.nil ?_
      refine thenQ_n ?_
      refine Cd.seq ?_
      refine Cd.seq ?_
      refine Cd.region ?_
      refine Ops.mv_int rfl rfl rfl ?_
      refine Ops.rem rfl rfl rfl (by omega) ?_
      refine Ops.eql rfl rfl rfl ?_
      refine Ops.nil ?_
      refine thenQ_n ?_
      refine Cd.cond_p _ rfl (fun h4 => ?_) (fun h4 => ?_)
      · rw [if_neg (by omega)] at hpd
        rw [hpd, Int.mul_neg] at hset
        refine Cd.region ?_
        refine Ops.mv_int rfl rfl rfl ?_
        refine Ops.neg rfl rfl (by omega) ?_
        refine Ops.mv_int rfl rfl rfl ?_
        refine Ops.nil ?_
        refine thenQ_n ?_
        refine Cd.region ?_
        refine Ops.mv_sl rfl rfl rfl ?_
        refine Ops.mv_int rfl rfl rfl ?_
        refine Ops.mv_int rfl rfl rfl ?_
        refine Ops.add rfl rfl rfl (by omega) ?_
        refine Ops.idx hRh.2 rfl rfl rfl (by omega) (by omega) ?_
        refine Ops.ld_int hRh rfl (by omega) rfl rfl ?_
        rw [hat]
        refine Ops.mv_int rfl rfl rfl ?_
        refine Ops.add rfl rfl rfl (by omega) ?_
        refine Ops.idx hRh.2 rfl rfl rfl (by omega) (by omega) ?_
        refine Ops.st_int 0 hS3 rfl rfl rfl (by omega) ?_
        intro w4 hS4
        refine Ops.nil ?_
        refine blockQ_n ?_
        refine thenQ_n ?_
        refine Cd.region ?_
        refine Ops.add rfl rfl rfl (by omega) ?_
        refine Ops.mv_int rfl rfl rfl ?_
        refine Ops.nil ?_
        refine thenQ_n ?_
        exact ⟨i + 1, by show d - k + 1 - (i + 1) < d - k + 1 - i; omega, ⟨rfl, rfl, rfl, rfl, rfl, rfl, rfl, rfl, rfl, rfl, trivial⟩, by omega, by rw [← hset]; exact hS4⟩
      · rw [if_pos (by omega)] at hpd
        rw [hpd] at hset
        refine Cd.skip ?_
        refine thenQ_n ?_
        refine Cd.region ?_
        refine Ops.mv_sl rfl rfl rfl ?_
        refine Ops.mv_int rfl rfl rfl ?_
        refine Ops.mv_int rfl rfl rfl ?_
        refine Ops.add rfl rfl rfl (by omega) ?_
        refine Ops.idx hRh.2 rfl rfl rfl (by omega) (by omega) ?_
        refine Ops.ld_int hRh rfl (by omega) rfl rfl ?_
        rw [hat]
        refine Ops.mv_int rfl rfl rfl ?_
        refine Ops.add rfl rfl rfl (by omega) ?_
        refine Ops.idx hRh.2 rfl rfl rfl (by omega) (by omega) ?_
        refine Ops.st_int 0 hS3 rfl rfl rfl (by omega) ?_
        intro w4 hS4
        refine Ops.nil ?_
        refine blockQ_n ?_
        refine thenQ_n ?_
        refine Cd.region ?_
        refine Ops.add rfl rfl rfl (by omega) ?_
        refine Ops.mv_int rfl rfl rfl ?_
        refine Ops.nil ?_
        refine thenQ_n ?_
        exact ⟨i + 1, by show d - k + 1 - (i + 1) < d - k + 1 - i; omega, ⟨rfl, rfl, rfl, rfl, rfl, rfl, rfl, rfl, rfl, rfl, trivial⟩, by omega, by rw [← hset]; exact hS4⟩
    · have hie : i = d - k + 1 := by omega
      rw [hie, hvL_next hfl hkd] at hS3
      refine Cd.exit ?_
      refine thenQ_x ?_
      refine thenQ_x ?_
      refine blockQ_x ?_
      refine blockQ_n ?_
      refine thenQ_n ?_
      refine Cd.region ?_
      refine Ops.add rfl rfl rfl (by omega) ?_
      refine Ops.mv_int rfl rfl rfl ?_
      refine Ops.nil ?_
      refine thenQ_n ?_
      exact ⟨k + 1, by show d + 1 - (k + 1) < d + 1 - k; omega, ⟨rfl, rfl, rfl, rfl, rfl, trivial⟩, by omega, hS3⟩
  · have hke : k = d + 1 := by omega
    rw [hke, hvL_all hfl] at hS2
    refine Cd.exit ?_
    refine thenQ_x ?_
    refine thenQ_x ?_
    refine blockQ_x ?_
    refine thenQ_n ?_
    refine Cd.seq ?_
    refine Cd.region ?_
    refine Ops.mv_sl rfl rfl rfl ?_
    refine Ops.mv_sl rfl rfl rfl ?_
    refine Ops.nil ?_
    refine thenQ_n ?_
    refine Cd.ret ?_
    refine ret1_s rfl ?_
    exact ⟨A4, d + 1, rfl, hS2⟩

def hvV (V : Int) (F : List (List Int)) : List Int := if Cplx V F then hP (fvP F) else []
def hvK (V : Int) (F : List (List Int)) : Int := if Cplx V F then 0 else 1
theorem HVector_c (V : Int) (A : Option Addr) (n c : Nat) (rs : List SlV) (F : List (List Int)) (w : World) (hT : Tab w) (hR : RowsI w A n rs F) (hn : n ≤ 9223372036854775807) :
  Ret Tryz.prog 47 [.agg #[.int .i64 V, .slice A n c]] w (AnsR (hvV V F) (hvK V F) w) := by
 have hFl := hR.len
 refine Ret.of_cd Tryz.func47 rfl Tryz.ntmps47 rfl (post2 rfl) ?_
 refine Cd.seq ?_
 refine Cd.region ?_
 refine Ops.box2 (St.refl w) rfl rfl ?_
 intro Ab w1 hS1
 refine Ops.mv_sl rfl rfl rfl ?_
 refine Ops.mv_int rfl rfl rfl ?_
 refine Ops.nil ?_
 refine thenQ_n ?_
 refine Cd.seq ?_
 refine Cd.seq ?_
 refine Cd.region ?_
 refine Ops.ld_agg 1 (hS1.rd 0 rfl) rfl rfl rfl ?_
 refine Ops.call (isComplex_c V A n c rs F _ (hT.later hS1.below) (hS1.oldRows hR) hn) rfl rfl rfl ?_
 rintro _ w2 ⟨rfl, hst⟩
 have hS2 := hS1.later hst.below
 unfold hvV hvK
 first | refine Ops.not_p rfl rfl ?_ | refine Ops.not rfl rfl ?_
 refine Ops.nil ?_
 refine thenQ_n ?_
 refine Cd.cond_p _ rfl (fun h1 => ?_) (fun h1 => ?_)
 ·rw [if_neg h1, if_neg h1]
  refine Cd.seq ?_
  refine Cd.region ?_
  refine Ops.mv_sl rfl rfl rfl ?_
  refine Ops.mv_int rfl rfl rfl ?_
  refine Ops.nil ?_
  refine thenQ_n ?_
  refine Cd.ret ?_
  refine thenQ_r ?_
  refine ret2_si rfl rfl ?_
  exact ⟨none, 0, rfl, hS2.none.nil _⟩
 have hC := Classical.not_not.1 h1
 have hF4 := hC.f
 have h6 : ∀ f ∈ F, f.length ≤ 6 := fun f hf => (hC.row f hf).1.2
 rw [if_pos hC, if_pos hC]
 refine Cd.skip ?_
 refine thenQ_n ?_
 refine Cd.seq ?_
 refine Cd.region ?_
 refine Ops.call (fVector_c Ab V A n c rs F _ (hS2.rd 0 rfl) (hS2.oldRows hR) (by omega) h6) rfl rfl rfl ?_
 rintro _ w3 ⟨A4, c4, rfl, hst3⟩
 have hS3 := hS2.call2 hst3
 refine Ops.call (hVector_c A4 (dpt F) c4 (fvP F) _ (hst3.rdI 0 rfl) (dpt_bd h6) (fvP_bd hF4 h6)) rfl rfl rfl ?_
 rintro _ w4 ⟨A5, c5, rfl, hst4⟩
 have hS4 := hS3.later hst4.below
 have hl : (hP (fvP F)).length = dpt F + 1 := by rw [hP_len, fvP_len]
 refine Ops.mv_sl rfl rfl rfl ?_
 refine Ops.mv_int rfl rfl rfl ?_
 refine Ops.nil ?_
 refine thenQ_n ?_
 refine Cd.ret ?_
 refine ret2_si rfl rfl ?_
 exact ⟨A5, c5, by rw [hl], by rw [hl]; exact (hS3.call hst4).sub (List.sublist_append_left _ _)⟩

theorem EulerOfComplex_c (V : Int) (A : Option Addr) (n c : Nat) (rs : List SlV) (F : List (List Int)) (w : World) (hT : Tab w) (hR : RowsI w A n rs F) (hC : Cplx V F) :
  Ret Tryz.prog 51 [.agg #[.int .i64 V, .slice A n c]] w (fun v w' => v = .tuple #[.int .i64 (altS ((fvP F).drop 1)), .int .i64 0] ∧ St w w' []) := by
 have hFl := hR.len
 have hF4 := hC.f
 have h6 : ∀ f ∈ F, f.length ≤ 6 := fun f hf => (hC.row f hf).1.2
 have hd := dpt_bd h6
 refine Ret.of_cd Tryz.func51 rfl Tryz.ntmps51 rfl (post2 rfl) ?_
 refine Cd.seq ?_
 refine Cd.region ?_
 refine Ops.box2 (St.refl w) rfl rfl ?_
 intro Ab w1 hS1
 refine Ops.mv_int rfl rfl rfl ?_
 refine Ops.mv_int rfl rfl rfl ?_
 refine Ops.nil ?_
 refine thenQ_n ?_
 refine Cd.seq ?_
 refine Cd.seq ?_
 refine Cd.region ?_
 refine Ops.ld_agg 1 (hS1.rd 0 rfl) rfl rfl rfl ?_
 refine Ops.call (isComplex_c V A n c rs F _ (hT.later hS1.below) (hS1.oldRows hR) (by omega)) rfl rfl rfl ?_
 rintro _ w2 ⟨rfl, hst⟩
 have hS2 := hS1.later hst.below
 first | refine Ops.not_p rfl rfl ?_ | refine Ops.not rfl rfl ?_
 refine Ops.nil ?_
 refine thenQ_n ?_
 refine Cd.cond_pf rfl (fun h => h hC) ?_
 refine Cd.skip ?_
 refine thenQ_n ?_
 refine Cd.seq ?_
 refine Cd.region ?_
 refine Ops.call (fVector_c Ab V A n c rs F _ (hS2.rd 0 rfl) (hS2.oldRows hR) (by omega) h6) rfl rfl rfl ?_
 rintro _ w3 ⟨A4, c4, rfl, hst3⟩
 have hS3 := hS2.later hst3.below
 have hR3 : RdI w3 A4 (dpt F + 1) (fvP F) := hst3.rdI 0 rfl
 have hc4 : dpt F + 1 ≤ c4 := (hst3.cap 0 rfl).1
 refine Ops.cut_l (l := 1) rfl rfl rfl (by omega) ?_
 refine Ops.call (eulerOf_c _ _ _ ((fvP F).drop 1) _ (hR3.drop (l := 1) (by omega) hc4) (by omega) (fun x hx => fvP_bd (by omega) h6 x (List.mem_of_mem_drop hx))) rfl rfl rfl ?_
 rintro _ _ ⟨rfl, rfl⟩
 refine Ops.mv_int rfl rfl rfl ?_
 refine Ops.mv_int rfl rfl rfl ?_
 refine Ops.nil ?_
 refine thenQ_n ?_
 refine Cd.ret ?_
 refine ret2_ii rfl rfl ?_
 exact ⟨rfl, hS3.none⟩
end Go.Proofs.YtdedegbendjmbaaGreatDoor.Vc
/-
 Joins of complexes and vectors, walked on both sides. Conditions: as each states them.
-/
namespace Go.Proofs.YtdedegbendjmbaaGreatDoor.Vc
open Go.RowKit

def jcV (V : Int) (F : List (List Int)) (W : Int) (G : List (List Int)) : Int := if Cplx V F ∧ Cplx W G then jnV V F G else 0
def jcL (V : Int) (F : List (List Int)) (W : Int) (G : List (List Int)) : List (List Int) := if Cplx V F ∧ Cplx W G then jnLs V F G else []
def jcK (V : Int) (F : List (List Int)) (W : Int) (G : List (List Int)) : Int := if Cplx V F ∧ Cplx W G then jnK V F G else 1
theorem implJoin_c (V : Int) (A : Option Addr) (n c : Nat) (rs : List SlV) (F : List (List Int)) (W : Int) (B : Option Addr) (m d : Nat) (ts : List SlV) (G : List (List Int)) (w : World) (hT : Tab w) (hR : RowsI w A n rs F) (hQ : RowsI w B m ts G) (hn : n ≤ 9223372036854775807) (hm : m ≤ 9223372036854775807) :
  Ret Tryz.prog 49 [.agg #[.int .i64 V, .slice A n c], .agg #[.int .i64 W, .slice B m d]] w (AnsC (jcV V F W G) (jcL V F W G) (jcK V F W G) w) := by
 have hFl := hR.len
 have hGl := hQ.len
 refine Ret.of_cd Tryz.func49 rfl Tryz.ntmps49 rfl (postc2 rfl rfl) ?_
 refine Cd.seq ?_
 refine Cd.region ?_
 refine Ops.box2 (St.refl w) rfl rfl ?_
 intro A2 w1 hS1
 refine Ops.box2 hS1 rfl rfl ?_
 intro A3 w2 hS2
 refine Ops.new2 hS2 rfl ?_
 intro A4 w3 hS3
 have hS3 : St w w3 [cxZ A4, cxB A3 W B m d, cxB A2 V A n c] := hS3
 clear hS1 hS2
 refine Ops.mv_int rfl rfl rfl ?_
 refine Ops.nil ?_
 refine thenQ_n ?_
 refine Cd.seq ?_
 refine Cd.seq ?_
 refine Cd.region ?_
 refine Ops.ld_agg 1 (hS3.rd 2 rfl) rfl rfl rfl ?_
 refine Ops.call (isComplex_c V A n c rs F _ (hT.later hS3.below) (hS3.oldRows hR) hn) rfl rfl rfl ?_
 rintro _ w4 ⟨rfl, hst⟩
 have hS4 := hS3.later hst.below
 clear hS3
 unfold jcV jcL jcK
 first | refine Ops.not_p rfl rfl ?_ | refine Ops.not rfl rfl ?_
 refine Ops.mv_bool rfl rfl rfl ?_
 refine Ops.split_p 9 rfl (fun h1 => ?_) (fun h1 => ?_)
 ·rw [if_neg (fun h => h1 h.1), if_neg (fun h => h1 h.1), if_neg (fun h => h1 h.1)]
  refine Ops.skipg rfl rfl rfl rfl rfl ?_
  refine Ops.skipg rfl rfl rfl rfl rfl ?_
  refine Ops.skipg rfl rfl rfl rfl rfl ?_
  refine Ops.pick_t rfl rfl rfl ?_
  refine Ops.nil ?_
  refine thenQ_n ?_
  refine Cd.cond_t rfl ?_
  refine Cd.seq ?_
  refine Cd.region ?_
  refine Ops.bldZ2 (by exact inferInstance) (by exact inferInstance) rfl rfl rfl ?_
  refine Ops.st_agg 2 0 hS4 rfl rfl rfl rfl rfl rfl rfl ?_
  intro w9 hS9
  refine Ops.mv_int rfl rfl rfl ?_
  refine Ops.nil ?_
  refine thenQ_n ?_
  refine Cd.ret ?_
  refine thenQ_r ?_
  skip
  refine retc2_r rfl (hS9.rd 0 rfl) rfl ?_
  exact AnsC.none hS9
 have hF := Classical.not_not.1 h1
 refine Ops.rung rfl rfl rfl ?_
 refine Ops.ld_agg 1 (hS4.rd 1 rfl) rfl rfl rfl ?_
 refine Ops.rung rfl rfl rfl ?_
 refine Ops.call (isComplex_c W B m d ts G _ (hT.later hS4.below) (hS4.oldRows hQ) hm) rfl rfl rfl ?_
 rintro _ w5 ⟨rfl, hst⟩
 have hS5 := hS4.later hst.below
 clear hS4
 refine Ops.rung rfl rfl rfl ?_
 first | refine Ops.not_p rfl rfl ?_ | refine Ops.not rfl rfl ?_
 refine Ops.pick_f rfl rfl rfl ?_
 refine Ops.nil ?_
 refine thenQ_n ?_
 refine Cd.cond_p _ rfl (fun h2 => ?_) (fun h2 => ?_)
 ·rw [if_neg (fun h => h2 h.2), if_neg (fun h => h2 h.2), if_neg (fun h => h2 h.2)]
  refine Cd.seq ?_
  refine Cd.region ?_
  refine Ops.bldZ2 (by exact inferInstance) (by exact inferInstance) rfl rfl rfl ?_
  refine Ops.st_agg 2 0 hS5 rfl rfl rfl rfl rfl rfl rfl ?_
  intro w9 hS9
  refine Ops.mv_int rfl rfl rfl ?_
  refine Ops.nil ?_
  refine thenQ_n ?_
  refine Cd.ret ?_
  refine thenQ_r ?_
  skip
  refine retc2_r rfl (hS9.rd 0 rfl) rfl ?_
  exact AnsC.none hS9
 have hG := Classical.not_not.1 h2
 rw [if_pos ⟨hF, hG⟩, if_pos ⟨hF, hG⟩, if_pos ⟨hF, hG⟩]
 refine Cd.skip ?_
 refine thenQ_n ?_
 refine Cd.seq ?_
 refine Cd.region ?_
 refine Ops.ld_agg 1 (hS5.rd 2 rfl) rfl rfl rfl ?_
 skip
 refine Ops.ld_agg 1 (hS5.rd 1 rfl) rfl rfl rfl ?_
 skip
 refine Ops.call (joined_c V A n c rs F W B m d ts G _ (hT.later hS5.below) (hS5.oldRows hR) (hS5.oldRows hQ) hF hG) rfl rfl rfl ?_
 rintro _ w6 ⟨A6, c6, rs6, rfl, hrl6, hst6⟩
 have hS6 := hS5.call2 hst6
 refine Ops.extract rfl rfl rfl ?_
 refine Ops.extract rfl rfl rfl ?_
 refine Ops.st_agg 2 0 hS6 rfl rfl rfl rfl rfl rfl rfl ?_
 intro w7 hS7
 refine Ops.mv_int rfl rfl rfl ?_
 refine Ops.nil ?_
 refine thenQ_n ?_
 refine Cd.ret ?_
 skip
 refine retc2_r rfl (hS7.rd 0 rfl) rfl ?_
 exact ⟨A6, c6, rs6, rfl, hrl6, hS7.tail.tail.tail⟩
theorem specJoin_c (V : Int) (A : Option Addr) (n c : Nat) (rs : List SlV) (F : List (List Int)) (W : Int) (B : Option Addr) (m d : Nat) (ts : List SlV) (G : List (List Int)) (w : World) (hR : RowsI w A n rs F) (hQ : RowsI w B m ts G) (hn : n ≤ 9223372036854775807) (hm : m ≤ 9223372036854775807) :
  Ret Tryz.prog 50 [.agg #[.int .i64 V, .slice A n c], .agg #[.int .i64 W, .slice B m d]] w (AnsC (jcV V F W G) (jcL V F W G) (jcK V F W G) w) := by
 have hFl := hR.len
 have hGl := hQ.len
 refine Ret.of_cd Tryz.func50 rfl Tryz.ntmps50 rfl (postc2 rfl rfl) ?_
 refine Cd.seq ?_
 refine Cd.region ?_
 refine Ops.box2 (St.refl w) rfl rfl ?_
 intro A2 w1 hS1
 refine Ops.box2 hS1 rfl rfl ?_
 intro A3 w2 hS2
 refine Ops.new2 hS2 rfl ?_
 intro A4 w3 hS3
 have hS3 : St w w3 [cxZ A4, cxB A3 W B m d, cxB A2 V A n c] := hS3
 clear hS1 hS2
 refine Ops.mv_int rfl rfl rfl ?_
 refine Ops.nil ?_
 refine thenQ_n ?_
 refine Cd.seq ?_
 refine Cd.seq ?_
 refine Cd.region ?_
 refine Ops.ld_agg 1 (hS3.rd 2 rfl) rfl rfl rfl ?_
 refine Ops.call (l17Is_c V A n c rs F _  (hS3.oldRows hR) hn) rfl rfl rfl ?_
 rintro _ w4 ⟨rfl, hst⟩
 have hS4 := hS3.later hst.below
 clear hS3
 unfold jcV jcL jcK
 first | refine Ops.not_p rfl rfl ?_ | refine Ops.not rfl rfl ?_
 refine Ops.mv_bool rfl rfl rfl ?_
 refine Ops.split_p 9 rfl (fun h1 => ?_) (fun h1 => ?_)
 ·rw [if_neg (fun h => h1 h.1), if_neg (fun h => h1 h.1), if_neg (fun h => h1 h.1)]
  refine Ops.skipg rfl rfl rfl rfl rfl ?_
  refine Ops.skipg rfl rfl rfl rfl rfl ?_
  refine Ops.skipg rfl rfl rfl rfl rfl ?_
  refine Ops.pick_t rfl rfl rfl ?_
  refine Ops.nil ?_
  refine thenQ_n ?_
  refine Cd.cond_t rfl ?_
  refine Cd.seq ?_
  refine Cd.region ?_
  refine Ops.bldZ2 (by exact inferInstance) (by exact inferInstance) rfl rfl rfl ?_
  refine Ops.st_agg 2 0 hS4 rfl rfl rfl rfl rfl rfl rfl ?_
  intro w9 hS9
  refine Ops.mv_int rfl rfl rfl ?_
  refine Ops.nil ?_
  refine thenQ_n ?_
  refine Cd.ret ?_
  refine thenQ_r ?_
  skip
  refine retc2_r rfl (hS9.rd 0 rfl) rfl ?_
  exact AnsC.none hS9
 have hF := Classical.not_not.1 h1
 refine Ops.rung rfl rfl rfl ?_
 refine Ops.ld_agg 1 (hS4.rd 1 rfl) rfl rfl rfl ?_
 refine Ops.rung rfl rfl rfl ?_
 refine Ops.call (l17Is_c W B m d ts G _  (hS4.oldRows hQ) hm) rfl rfl rfl ?_
 rintro _ w5 ⟨rfl, hst⟩
 have hS5 := hS4.later hst.below
 clear hS4
 refine Ops.rung rfl rfl rfl ?_
 first | refine Ops.not_p rfl rfl ?_ | refine Ops.not rfl rfl ?_
 refine Ops.pick_f rfl rfl rfl ?_
 refine Ops.nil ?_
 refine thenQ_n ?_
 refine Cd.cond_p _ rfl (fun h2 => ?_) (fun h2 => ?_)
 ·rw [if_neg (fun h => h2 h.2), if_neg (fun h => h2 h.2), if_neg (fun h => h2 h.2)]
  refine Cd.seq ?_
  refine Cd.region ?_
  refine Ops.bldZ2 (by exact inferInstance) (by exact inferInstance) rfl rfl rfl ?_
  refine Ops.st_agg 2 0 hS5 rfl rfl rfl rfl rfl rfl rfl ?_
  intro w9 hS9
  refine Ops.mv_int rfl rfl rfl ?_
  refine Ops.nil ?_
  refine thenQ_n ?_
  refine Cd.ret ?_
  refine thenQ_r ?_
  skip
  refine retc2_r rfl (hS9.rd 0 rfl) rfl ?_
  exact AnsC.none hS9
 have hG := Classical.not_not.1 h2
 rw [if_pos ⟨hF, hG⟩, if_pos ⟨hF, hG⟩, if_pos ⟨hF, hG⟩]
 refine Cd.skip ?_
 refine thenQ_n ?_
 refine Cd.seq ?_
 refine Cd.region ?_
 refine Ops.ld_agg 1 (hS5.rd 2 rfl) rfl rfl rfl ?_
 skip
 refine Ops.ld_agg 1 (hS5.rd 1 rfl) rfl rfl rfl ?_
 skip
 refine Ops.call (l17Join_c V A n c rs F W B m d ts G _  (hS5.oldRows hR) (hS5.oldRows hQ) hF hG) rfl rfl rfl ?_
 rintro _ w6 ⟨A6, c6, rs6, rfl, hrl6, hst6⟩
 have hS6 := hS5.call2 hst6
 refine Ops.extract rfl rfl rfl ?_
 refine Ops.extract rfl rfl rfl ?_
 refine Ops.st_agg 2 0 hS6 rfl rfl rfl rfl rfl rfl rfl ?_
 intro w7 hS7
 refine Ops.mv_int rfl rfl rfl ?_
 refine Ops.nil ?_
 refine thenQ_n ?_
 refine Cd.ret ?_
 skip
 refine retc2_r rfl (hS7.rd 0 rfl) rfl ?_
 exact ⟨A6, c6, rs6, rfl, hrl6, hS7.tail.tail.tail⟩

theorem l17Size_c (V : Int) (A : Option Addr) (n c : Nat) (rs : List SlV) (F : List (List Int)) (w : World) (hR : RowsI w A n rs F) (hn : n ≤ 1000) (h6 : ∀ f ∈ F, f.length ≤ 1000000) :
  Ret Tryz.prog 76 [.agg #[.int .i64 V, .slice A n c]] w (fun v w' => v = .int .i64 (dpt F : Int) ∧ St w w' []) := by
 have hFl := hR.len
 refine Ret.of_cd Tryz.func76 rfl Tryz.ntmps76 rfl (post1 rfl) ?_
 refine Cd.seq ?_
 refine Cd.region ?_
 refine Ops.box2 (St.refl w) rfl rfl ?_
 intro Ab w1 hS1
 have hS1 : St w w1 [cxB Ab V A n c] := hS1
 refine Ops.mv_int rfl rfl rfl ?_
 refine Ops.nil ?_
 refine thenQ_n ?_
 refine Cd.seq ?_
 refine Cd.region ?_
 refine Ops.mv_int rfl rfl rfl ?_
 refine Ops.nil ?_
 refine thenQ_n ?_
 refine Cd.seq ?_
 refine Cd.seq ?_
 refine Cd.region ?_
 refine Ops.mv_int rfl rfl rfl ?_
 refine Ops.nil ?_
 refine thenQ_n ?_
 refine Cd.block ?_
 refine Cd.loop (α := Nat) (fun i => [(1, .pointer Ab), (3, .int .i64 ((dpt (F.take i) : Nat) : Int)), (4, .int .i64 (i : Int))]) (fun i w' => St w w' [cxB Ab V A n c] ∧ i ≤ n) (fun i => n - i) 0 ⟨rfl, rfl, rfl, trivial⟩ ⟨hS1, Nat.zero_le _⟩ ?_
 rintro i e w2 ⟨hS, hi⟩
 refine Cd.seq ?_
 refine Cd.seq ?_
 refine Cd.region ?_
 refine Ops.mv_int rfl rfl rfl ?_
 refine Ops.fld (hS.rd 0 rfl) rfl rfl rfl rfl inferInstance ?_
 refine Ops.ldf_s (hS.rd 0 rfl) rfl rfl rfl rfl rfl ?_
 refine Ops.len rfl rfl ?_
 refine Ops.lss rfl rfl rfl ?_
 refine Ops.nil ?_
 refine thenQ_n ?_
 refine Cd.cond_p _ rfl (fun h3 => ?_) (fun h3 => ?_)
 ·have hiF : i < F.length := by omega
  have hM := hS.oldRows hR
  have hrow := hM.at_ (i := (i : Int)) (by omega) (by omega)
  have hrl0 := hrow.1
  refine Cd.skip ?_
  refine thenQ_n ?_
  refine Cd.seq ?_
  refine Cd.block ?_
  refine Cd.region ?_
  refine Ops.mv_int rfl rfl rfl ?_
  refine Ops.fld (hS.rd 0 rfl) rfl rfl rfl rfl inferInstance ?_
  refine Ops.ldf_s (hS.rd 0 rfl) rfl rfl rfl rfl rfl ?_
  refine Ops.mv_int rfl rfl rfl ?_
  refine Ops.idx hM.top.2 rfl rfl rfl (by omega) (by omega) ?_
  refine Ops.ld_sl hM.top rfl (by omega) rfl rfl ?_
  refine Ops.len rfl rfl ?_
  refine Ops.maxI rfl rfl rfl ?_
  refine Ops.mv_int rfl rfl rfl ?_
  refine Ops.nil ?_
  refine blockQ_n ?_
  refine thenQ_n ?_
  refine Cd.region ?_
  refine Ops.mv_int rfl rfl rfl ?_
  refine Ops.add rfl rfl rfl (by omega) ?_
  refine Ops.mv_int rfl rfl rfl ?_
  refine Ops.nil ?_
  refine thenQ_n ?_
  exact ⟨i + 1, by show n - (i + 1) < n - i; omega, ⟨rfl, by show Value.int .i64 _ = .int .i64 _; rw [dpt_succ hiF]; congr 1; omega, rfl, trivial⟩, hS, by omega⟩
 ·have hin : i = F.length := by omega
  refine Cd.exit ?_
  refine thenQ_x ?_
  refine thenQ_x ?_
  refine blockQ_x ?_
  refine thenQ_n ?_
  refine Cd.seq ?_
  refine Cd.region ?_
  refine Ops.mv_int rfl rfl rfl ?_
  refine Ops.mv_int rfl rfl rfl ?_
  refine Ops.nil ?_
  refine thenQ_n ?_
  refine Cd.ret ?_
  refine ret1_i rfl ?_
  refine ⟨?_, hS.none⟩
  rw [hin, List.take_length]

theorem l17F_c (V : Int) (A : Option Addr) (n c : Nat) (rs : List SlV) (F : List (List Int)) (w : World) (hR : RowsI w A n rs F) (hn : n ≤ 1000) (h6 : ∀ f ∈ F, f.length ≤ 6) :
  Ret Tryz.prog 103 [.agg #[.int .i64 V, .slice A n c]] w (fun v w' => ∃ A' c', v = .slice A' (dpt F + 1) c' ∧ St w w' [CkI 2 A' (dpt F + 1) c' (fvP F)]) := by
 have hd := dpt_bd h6
 have hl6 : ∀ f ∈ F, f.length ≤ 1000000 := fun f hf => by have := h6 f hf; omega
 refine Ret.of_cd Tryz.func103 rfl Tryz.ntmps103 rfl (post1 rfl) ?_
 refine Cd.seq ?_
 refine Cd.region ?_
 refine Ops.box2 (St.refl w) rfl rfl ?_
 intro Ab w1 hS1
 refine Ops.mv_sl rfl rfl rfl ?_
 refine Ops.nil ?_
 refine thenQ_n ?_
 refine Cd.seq ?_
 refine Cd.region ?_
 refine Ops.bs0 hS1 rfl ?_
 intro A3 w2 hS2
 have hS2 : St w w2 [CkI 2 A3 0 0 (fvG F 0), cxB Ab V A n c] := hS2
 refine Ops.mv_sl rfl rfl rfl ?_
 refine Ops.nil ?_
 refine thenQ_n ?_
 refine Cd.seq ?_
 refine Cd.seq ?_
 refine Cd.region ?_
 refine Ops.mv_int rfl rfl rfl ?_
 refine Ops.nil ?_
 refine thenQ_n ?_
 refine Cd.block ?_
 refine Cd.loop (α := Nat × Option Addr × Nat) (fun z => [(1, .pointer Ab), (3, .slice z.2.1 z.1 z.2.2), (4, .int .i64 (z.1 : Int))]) (fun z w' => z.1 ≤ dpt F + 1 ∧ St w w' [CkI 2 z.2.1 z.1 z.2.2 (fvG F z.1), cxB Ab V A n c]) (fun z => dpt F + 1 - z.1) (0, A3, 0) ⟨rfl, rfl, rfl, trivial⟩ ⟨Nat.zero_le _, hS2⟩ ?_
 rintro ⟨k, A3, c3⟩ e w3 ⟨hk, hS⟩
 dsimp only at hk hS ⊢
 refine Cd.seq ?_
 refine Cd.seq ?_
 refine Cd.region ?_
 refine Ops.mv_int rfl rfl rfl ?_
 refine Ops.ld_agg 1 (hS.rd 1 rfl) rfl rfl rfl ?_
 refine Ops.call (l17Size_c V A n c rs F _ (hS.oldRows hR) hn hl6) rfl rfl rfl ?_
 rintro _ w4 ⟨rfl, hst⟩
 have hS := hS.later hst.below
 refine Ops.leq rfl rfl rfl ?_
 refine Ops.nil ?_
 refine thenQ_n ?_
 refine Cd.cond_p _ rfl (fun h1 => ?_) (fun h1 => ?_)
 ·have hnum := fcs_num (F := F) k h6
  have hFl := hR.len
  refine Cd.skip ?_
  refine thenQ_n ?_
  refine Cd.seq ?_
  refine Cd.block ?_
  refine Cd.region ?_
  refine Ops.mv_sl rfl rfl rfl ?_
  refine Ops.ld_agg 1 (hS.rd 1 rfl) rfl rfl rfl ?_
  refine Ops.mv_int rfl rfl rfl ?_
  refine Ops.call (l17Faces_c V A n c rs F k _ (hS.oldRows hR) hn h6 (by omega)) rfl rfl rfl ?_
  rintro _ w5 ⟨A4, c4, rs4, rfl, _, hT⟩
  have hS5 := hS.later hT.below
  refine Ops.len rfl rfl ?_
  refine Ops.bs1I hS5 rfl rfl rfl ?_
  intro A5 w6 hS6
  refine Ops.appI 1 hS6 rfl (hS6.rdI 0 rfl) rfl rfl rfl (by omega) (by omega) rfl ?_
  intro A6 c6 w7 hS7
  have hS7 : St w w7 [CkI 2 A6 (k + 1) c6 (fvG F (k + 1)), cxB Ab V A n c] := by rw [fvG_succ]; exact hS7.tail
  refine Ops.mv_sl rfl rfl rfl ?_
  refine Ops.nil ?_
  refine blockQ_n ?_
  refine thenQ_n ?_
  refine Cd.region ?_
  refine Ops.mv_int rfl rfl rfl ?_
  refine Ops.add rfl rfl rfl (by omega) ?_
  refine Ops.mv_int rfl rfl rfl ?_
  refine Ops.nil ?_
  refine thenQ_n ?_
  exact ⟨(k + 1, A6, c6), by show dpt F + 1 - (k + 1) < dpt F + 1 - k; omega, ⟨rfl, rfl, rfl, trivial⟩, by show k + 1 ≤ dpt F + 1; omega, hS7⟩
 ·have hke : k = dpt F + 1 := by omega
  subst hke
  refine Cd.exit ?_
  refine thenQ_x ?_
  refine thenQ_x ?_
  refine blockQ_x ?_
  refine thenQ_n ?_
  refine Cd.seq ?_
  refine Cd.region ?_
  refine Ops.mv_sl rfl rfl rfl ?_
  refine Ops.mv_sl rfl rfl rfl ?_
  refine Ops.nil ?_
  refine thenQ_n ?_
  refine Cd.ret ?_
  refine ret1_s rfl ?_
  exact ⟨A3, c3, rfl, hS.sub (List.Sublist.cons_cons _ (List.nil_sublist _))⟩

/-! the reference's polynomial -/
def plH (f : List Int) (k : Nat) : List Int := (List.range k).map fun i => pW (f.take k) (k - 1) (k - 1 - i)
def nxE (p : List Int) (i j : Nat) : Int := (if 1 ≤ j ∧ j ≤ i then gi p ((j - 1 : Nat) : Int) else 0) - (if j < i then gi p (j : Int) else 0)
def nxL (p : List Int) (i : Nat) : List Int := (List.range (p.length + 1)).map (nxE p i)
theorem plH_len (f : List Int) (k : Nat) : (plH f k).length = k := by simp [plH]
theorem plH_at {f : List Int} {k i : Nat} (h : i < k) : gi (plH f k) (i : Int) = pW (f.take k) (k - 1) (k - 1 - i) := by
 rw [gi_mem (by rw [plH_len]; exact h)]; simp [plH]
theorem nxL_len (p : List Int) (i : Nat) : (nxL p i).length = p.length + 1 := by simp [nxL]
theorem nxL_at {p : List Int} {i j : Nat} (h : j ≤ p.length) : gi (nxL p i) (j : Int) = nxE p i j := by
 rw [gi_mem (by rw [nxL_len]; omega)]; simp [nxL]
theorem nxL_zero (p : List Int) : List.replicate (p.length + 1) 0 = nxL p 0 := by
 unfold nxL
 rw [List.map_congr_left (g := fun _ => (0 : Int)) fun j _ => by simp [nxE]; omega, List.map_const', List.length_range]
theorem nxL_step {p : List Int} {i : Nat} (h : i < p.length) : (((nxL p i).set (i + 1) (gi p (i : Int))).set i (nxE p i i - gi p (i : Int))) = nxL p (i + 1) := by
 apply List.ext_getElem
 ·rw [List.length_set, List.length_set, nxL_len, nxL_len]
 ·intro j h1 h2
  rw [List.getElem_set, List.getElem_set]
  simp only [nxL, List.getElem_map, List.getElem_range]
  by_cases h3 : i = j
  ·subst h3
   rw [if_pos rfl]
   unfold nxE
   rw [if_neg (show ¬ i < i by omega), if_pos (show i < i + 1 by omega)]
   by_cases h4 : 1 ≤ i
   ·rw [if_pos ⟨h4, Nat.le_refl _⟩, if_pos ⟨h4, by omega⟩]; omega
   ·rw [if_neg (by omega), if_neg (by omega)]; omega
  ·rw [if_neg h3]
   by_cases h4 : i + 1 = j
   ·subst h4
    rw [if_pos rfl]
    unfold nxE
    rw [if_pos ⟨by omega, Nat.le_refl _⟩, if_neg (by omega)]
    simp
   ·rw [if_neg h4]
    unfold nxE
    by_cases h5 : 1 ≤ j ∧ j ≤ i
    ·rw [if_pos h5, if_pos (show 1 ≤ j ∧ j ≤ i + 1 from ⟨h5.1, by omega⟩), if_pos (show j < i by omega), if_pos (show j < i + 1 by omega)]
    ·rw [if_neg h5, if_neg (show ¬ (1 ≤ j ∧ j ≤ i + 1) by omega)]
     by_cases h6 : j < i
     ·rw [if_pos h6, if_pos (show j < i + 1 by omega)]
     ·rw [if_neg h6, if_neg (show ¬ j < i + 1 by omega)]
theorem plH_step {f : List Int} {k : Nat} (h : k < f.length) : (nxL (plH f k) k).set 0 (gi (nxL (plH f k) k) 0 + gi f (k : Int)) = plH f (k + 1) := by
 have h0 : gi (nxL (plH f k) k) ((0 : Nat) : Int) = nxE (plH f k) k 0 := nxL_at (Nat.zero_le _)
 have key : ∀ j, j ≤ k → pW (f.take (k + 1)) k (k - j) = nxE (plH f k) k j + if j = 0 then gi f (k : Int) else 0 := fun j hj => by
  rw [take_succ_gi h, pW_snoc, List.length_take, Nat.min_eq_left (by omega), Nat.sub_self]
  have e1 : (if k ≤ k - j then gi f (k : Int) * pDn 0 (k - j - k) else 0) = if j = 0 then gi f (k : Int) else 0 := by
   by_cases hj0 : j = 0
   ·rw [if_pos (by omega), if_pos hj0, hj0]
    simp [pDn, p1]
   ·by_cases hk0 : k ≤ k - j
    ·omega
    ·rw [if_neg hk0, if_neg hj0]
  rw [e1]
  congr 1
  match k, h, hj with
  | 0, _, hj =>
   obtain rfl : j = 0 := by omega
   simp [nxE, pW]
  | k + 1, h, hj =>
   rw [show pW (f.take (k + 1)) (k + 1) = pD (pW (f.take (k + 1)) k) from pW_D (by simp; omega)]
   unfold nxE
   have hq : ∀ i, i < k + 1 → gi (plH f (k + 1)) (i : Int) = pW (f.take (k + 1)) k (k - i) := fun i hi => plH_at hi
   by_cases h1 : 1 ≤ j
   ·rw [if_pos ⟨h1, hj⟩, hq (j - 1) (by omega), show k - (j - 1) = k + 1 - j by omega]
    by_cases h2 : j < k + 1
    ·rw [if_pos h2, hq j h2, show k + 1 - j = (k - j) + 1 by omega]; rfl
    ·rw [if_neg h2, show k + 1 - j = 0 by omega]; rfl
   ·obtain rfl : j = 0 := by omega
    rw [if_neg (by omega), if_pos (by omega), hq 0 (by omega)]
    show pW (f.take (k + 1)) k (k + 1) - pW (f.take (k + 1)) k k = 0 - pW (f.take (k + 1)) k (k - 0)
    rw [pW_deg (by simp; omega) (by omega)]; rfl
 apply List.ext_getElem
 ·rw [List.length_set, nxL_len, plH_len, plH_len]
 ·intro j h1 h2
  have h3 := h2
  rw [plH_len] at h3
  have e1 : (plH f (k + 1))[j] = pW (f.take (k + 1)) k (k - j) := by simp [plH]
  rw [e1, key j (by omega), List.getElem_set]
  by_cases hj : 0 = j
  ·subst hj
   rw [if_pos rfl, if_pos rfl, ← h0]; rfl
  ·rw [if_neg hj, if_neg (fun e => hj e.symm)]
   simp [nxL]
theorem plH_bd {f : List Int} {k i : Nat} (hk : k ≤ 7) (h : ∀ x ∈ f, 0 ≤ x ∧ x ≤ 30000) (hi : i < k) : -14000000 ≤ gi (plH f k) (i : Int) ∧ gi (plH f k) (i : Int) ≤ 14000000 := by
 rw [plH_at hi]
 have h1 := pW_bd (f.take k) (k - 1) (k - 1 - i) (by omega) fun x hx => h x (List.mem_of_mem_take hx)
 have h2 : ((f.take k).length : Int) ≤ 7 := by simp; omega
 omega
theorem nxE_bd {f : List Int} {k i j : Nat} (hk : k ≤ 7) (h : ∀ x ∈ f, 0 ≤ x ∧ x ≤ 30000) (hi : i ≤ k) : -28000000 ≤ nxE (plH f k) i j ∧ nxE (plH f k) i j ≤ 28000000 := by
 unfold nxE
 have h1 := fun (q : Nat) (hq : q < k) => plH_bd (f := f) hk h hq
 split <;> split
 ·rename_i a b; have := h1 (j - 1) (by omega); have := h1 j (by omega); omega
 ·rename_i a b; have := h1 (j - 1) (by omega); omega
 ·rename_i a b; have := h1 j (by omega); omega
 ·omega

set_option maxHeartbeats 1000000 in
theorem l17H_c (A : Option Addr) (d c : Nat) (f : List Int) (w : World) (hR : RdI w A (d + 1) f) (hd : d ≤ 6) (hb : ∀ x ∈ f, 0 ≤ x ∧ x ≤ 30000) :
  Ret Tryz.prog 102 [.slice A (d + 1) c] w (fun v w' => ∃ A' c', v = .slice A' (d + 1) c' ∧ St w w' [CkI 2 A' (d + 1) c' (hP f)]) := by
 have hfl := hR.1
 refine Ret.of_cd Tryz.func102 rfl Tryz.ntmps102 rfl (post1 rfl) ?_
 refine Cd.seq ?_
 refine Cd.region ?_
 refine Ops.mv_sl rfl rfl rfl ?_
 refine Ops.nil ?_
 refine thenQ_n ?_
 refine Cd.seq ?_
 refine Cd.region ?_
 refine Ops.mv_sl rfl rfl rfl ?_
 refine Ops.len rfl rfl ?_
 refine Ops.sub rfl rfl rfl (by omega) ?_
 refine Ops.mv_int rfl rfl rfl ?_
 refine Ops.nil ?_
 refine thenQ_n ?_
 refine Cd.seq ?_
 refine Cd.region ?_
 refine Ops.bs0 (St.refl w) rfl ?_
 intro A4 w1 hS1
 have hS1 : St w w1 [CkI 2 A4 0 0 (plH f 0)] := hS1
 refine Ops.mv_sl rfl rfl rfl ?_
 refine Ops.nil ?_
 refine thenQ_n ?_
 refine Cd.seq ?_
 refine Cd.seq ?_
 refine Cd.region ?_
 refine Ops.mv_int rfl rfl rfl ?_
 refine Ops.nil ?_
 refine thenQ_n ?_
 refine Cd.block ?_
 refine Cd.loop (α := Nat × Option Addr × Nat) (fun z => [(0, .slice A (d + 1) c), (3, .int .i64 (((d + 1 : Nat) : Int) - 1)), (4, .slice z.2.1 z.1 z.2.2), (5, .int .i64 (z.1 : Int))]) (fun z w' => z.1 ≤ d + 1 ∧ St w w' [CkI 2 z.2.1 z.1 z.2.2 (plH f z.1)]) (fun z => d + 1 - z.1) (0, A4, 0) ⟨rfl, rfl, rfl, rfl, trivial⟩ ⟨Nat.zero_le _, hS1⟩ ?_
 rintro ⟨k, A4, c4⟩ e w2 ⟨hk, hS2⟩
 dsimp only at hk hS2 ⊢
 have hpl := plH_len f k
 refine Cd.seq ?_
 refine Cd.seq ?_
 refine Cd.region ?_
 refine Ops.mv_int rfl rfl rfl ?_
 refine Ops.mv_int rfl rfl rfl ?_
 refine Ops.leq rfl rfl rfl ?_
 refine Ops.nil ?_
 refine thenQ_n ?_
 refine Cd.cond_p _ rfl (fun h1 => ?_) (fun h1 => ?_)
 ·have hkd : k ≤ d := by omega
  refine Cd.skip ?_
  refine thenQ_n ?_
  refine Cd.seq ?_
  refine Cd.block ?_
  refine Cd.seq ?_
  refine Cd.region ?_
  refine Ops.mv_sl rfl rfl rfl ?_
  refine Ops.len rfl rfl ?_
  refine Ops.add rfl rfl rfl (by omega) ?_
  refine Ops.mkI (k + 1) hS2 rfl rfl (by omega) ?_
  intro A6 w3 hS3
  have hS3 : St w w3 [CkI 2 A6 (k + 1) (k + 1) (nxL (plH f k) 0), CkI 2 A4 k c4 (plH f k)] := by rw [← nxL_zero, hpl]; exact hS3
  refine Ops.mv_sl rfl rfl rfl ?_
  refine Ops.nil ?_
  refine thenQ_n ?_
  refine Cd.seq ?_
  refine Cd.seq ?_
  refine Cd.region ?_
  refine Ops.mv_int rfl rfl rfl ?_
  refine Ops.nil ?_
  refine thenQ_n ?_
  refine Cd.block ?_
  refine Cd.loop (α := Nat) (fun i => [(0, .slice A (d + 1) c), (3, .int .i64 (((d + 1 : Nat) : Int) - 1)), (4, .slice A4 k c4), (5, .int .i64 (k : Int)), (6, .slice A6 (k + 1) (k + 1)), (7, .int .i64 (i : Int))]) (fun i w' => i ≤ k ∧ St w w' [CkI 2 A6 (k + 1) (k + 1) (nxL (plH f k) i), CkI 2 A4 k c4 (plH f k)]) (fun i => k - i) 0 ⟨rfl, rfl, rfl, rfl, rfl, rfl, trivial⟩ ⟨Nat.zero_le _, hS3⟩ ?_
  clear hS3 hS2
  rintro i e w4 ⟨hi, hS4⟩
  refine Cd.seq ?_
  refine Cd.seq ?_
  refine Cd.region ?_
  refine Ops.mv_int rfl rfl rfl ?_
  refine Ops.mv_sl rfl rfl rfl ?_
  refine Ops.len rfl rfl ?_
  refine Ops.lss rfl rfl rfl ?_
  refine Ops.nil ?_
  refine thenQ_n ?_
  refine Cd.cond_p _ rfl (fun h2 => ?_) (fun h2 => ?_)
  ·have hik : i < k := by omega
   have hN : RdI w4 A6 (k + 1) (nxL (plH f k) i) := hS4.rdI 0 rfl
   have hP : RdI w4 A4 k (plH f k) := hS4.rdI 1 rfl
   have hb1 := plH_bd (f := f) (k := k) (by omega) hb hik
   have hz : gi (nxL (plH f k) i) ((i : Int) + 1) = 0 := by
    have := nxL_at (p := plH f k) (i := i) (j := i + 1) (by omega)
    rw [Int.natCast_add] at this
    rw [show (i : Int) + 1 = (i : Int) + ((1 : Nat) : Int) from rfl, this]
    unfold nxE
    rw [if_neg (by omega), if_neg (by omega)]; rfl
   have hnl := nxL_len (plH f k) i
   refine Cd.skip ?_
   refine thenQ_n ?_
   refine Cd.seq ?_
   refine Cd.block ?_
   refine Cd.seq ?_
   refine Cd.drawN [14] [.ex (.slice (A6) (k + 1) (k + 1)), .ex (.int .i64 ((i : Int))), .ex (.int .i64 (((i : Int)) + ((1 : Int)))), .ex (.slice (A6) (k + 1) (k + 1)), .ex (.int .i64 ((i : Int))), .ex (.int .i64 (((i : Int)) + ((1 : Int)))), .ex (.pointer (ptrAt (A6) (((i : Int)) + ((1 : Int))).toNat)), .ex (.int .i64 (gi (nxL (plH f k) i) (((i : Int)) + ((1 : Int))))), .ex (.slice (A4) (k) (c4)), .ex (.int .i64 ((i : Int))), .ex (.pointer (ptrAt (A4) ((i : Int)).toNat)), .ex (.int .i64 (gi (plH f k) ((i : Int)))), .ex (.int .i64 ((gi (nxL (plH f k) i) (((i : Int)) + ((1 : Int)))) + (gi (plH f k) ((i : Int))))), .ex (.pointer (ptrAt (A6) (((i : Int)) + ((1 : Int))).toNat)), .pr (fun _ w' => St w w' [CkI 2 A6 (k + 1) (k + 1) ((nxL (plH f k) i).set (i + 1) (gi (plH f k) (i : Int))), CkI 2 A4 k c4 (plH f k)])] (by kernel_rfl) (by kernel_rfl) (List.forall_mem_cons.2 ⟨Yd.lasts_ex _, (List.forall_mem_cons.2 ⟨Yd.lasts_ex _, (List.forall_mem_cons.2 ⟨Yd.lasts_ex _, (List.forall_mem_cons.2 ⟨Yd.lasts_ex _, (List.forall_mem_cons.2 ⟨Yd.lasts_ex _, (List.forall_mem_cons.2 ⟨Yd.lasts_ex _, (List.forall_mem_cons.2 ⟨Yd.lasts_ex _, (List.forall_mem_cons.2 ⟨Yd.lasts_ex _, (List.forall_mem_cons.2 ⟨Yd.lasts_ex _, (List.forall_mem_cons.2 ⟨Yd.lasts_ex _, (List.forall_mem_cons.2 ⟨Yd.lasts_ex _, (List.forall_mem_cons.2 ⟨Yd.lasts_ex _, (List.forall_mem_cons.2 ⟨Yd.lasts_ex _, (List.forall_mem_cons.2 ⟨Yd.lasts_ex _, (List.forall_mem_cons.2 ⟨Yd.lasts_pr (fun v w w' h hb => h.later hb), (fun _ h => by cases h)⟩)⟩)⟩)⟩)⟩)⟩)⟩)⟩)⟩)⟩)⟩)⟩)⟩)⟩)⟩) ⟨?_, ?_, ?_, ?_, ?_, ?_, ?_, ?_, ?_, ?_, ?_, ?_, ?_, ?_, ?_, trivial⟩ ?_
   ·intro e1 w1 cc hlo hhi hb0 hp hun hq
    show Ops _ _ _ _ _ _ _
    refine Ops.mv_sl rfl rfl rfl ?_
    refine Ops.nil ?_
    exact AfterN.dn rfl (Below.refl _ _) (by exact rfl)
   ·intro e1 w1 cc hlo hhi hb0 hp hun hq
    show Ops _ _ _ _ _ _ _
    refine Ops.mv_int rfl rfl rfl ?_
    refine Ops.nil ?_
    exact AfterN.dn rfl (Below.refl _ _) (by exact rfl)
   ·intro e1 w1 cc hlo hhi hb0 hp hun hq
    show Ops _ _ _ _ _ _ _
    refine Ops.add rfl rfl rfl (by omega) ?_
    refine Ops.nil ?_
    exact AfterN.dn rfl (Below.refl _ _) (by exact rfl)
   ·intro e1 w1 cc hlo hhi hb0 hp hun hq
    show Ops _ _ _ _ _ _ _
    refine Ops.mv_sl rfl rfl rfl ?_
    refine Ops.nil ?_
    exact AfterN.dn rfl (Below.refl _ _) (by exact rfl)
   ·intro e1 w1 cc hlo hhi hb0 hp hun hq
    show Ops _ _ _ _ _ _ _
    refine Ops.mv_int rfl rfl rfl ?_
    refine Ops.nil ?_
    exact AfterN.dn rfl (Below.refl _ _) (by exact rfl)
   ·intro e1 w1 cc hlo hhi hb0 hp hun hq
    show Ops _ _ _ _ _ _ _
    refine Ops.add rfl rfl rfl (by omega) ?_
    refine Ops.nil ?_
    exact AfterN.dn rfl (Below.refl _ _) (by exact rfl)
   ·intro e1 w1 cc hlo hhi hb0 hp hun hq
    show Ops _ _ _ _ _ _ _
    replace hlo := le_of_lo hlo (b := 0) (by kernel_rfl)
    replace hhi := le_of_hi hhi (b := 0) (by kernel_rfl)
    obtain rfl : cc = 0 := by omega
    have hb := hb0 rfl
    refine Ops.idx (hN.later hb).2 rfl rfl rfl (by omega) (by omega) ?_
    refine Ops.nil ?_
    exact AfterN.dn rfl (Below.refl _ _) (by exact rfl)
   ·intro e1 w1 cc hlo hhi hb0 hp hun hq
    show Ops _ _ _ _ _ _ _
    replace hlo := le_of_lo hlo (b := 0) (by kernel_rfl)
    replace hhi := le_of_hi hhi (b := 0) (by kernel_rfl)
    obtain rfl : cc = 0 := by omega
    have hb := hb0 rfl
    refine Ops.ld_int (hN.later hb) rfl (by omega) rfl rfl ?_
    refine Ops.nil ?_
    exact AfterN.dn rfl (Below.refl _ _) (by exact rfl)
   ·intro e1 w1 cc hlo hhi hb0 hp hun hq
    show Ops _ _ _ _ _ _ _
    refine Ops.mv_sl rfl rfl rfl ?_
    refine Ops.nil ?_
    exact AfterN.dn rfl (Below.refl _ _) (by exact rfl)
   ·intro e1 w1 cc hlo hhi hb0 hp hun hq
    show Ops _ _ _ _ _ _ _
    refine Ops.mv_int rfl rfl rfl ?_
    refine Ops.nil ?_
    exact AfterN.dn rfl (Below.refl _ _) (by exact rfl)
   ·intro e1 w1 cc hlo hhi hb0 hp hun hq
    show Ops _ _ _ _ _ _ _
    replace hlo := le_of_lo hlo (b := 0) (by kernel_rfl)
    replace hhi := le_of_hi hhi (b := 0) (by kernel_rfl)
    obtain rfl : cc = 0 := by omega
    have hb := hb0 rfl
    refine Ops.idx (hP.later hb).2 rfl rfl rfl (by omega) (by omega) ?_
    refine Ops.nil ?_
    exact AfterN.dn rfl (Below.refl _ _) (by exact rfl)
   ·intro e1 w1 cc hlo hhi hb0 hp hun hq
    show Ops _ _ _ _ _ _ _
    replace hlo := le_of_lo hlo (b := 0) (by kernel_rfl)
    replace hhi := le_of_hi hhi (b := 0) (by kernel_rfl)
    obtain rfl : cc = 0 := by omega
    have hb := hb0 rfl
    refine Ops.ld_int (hP.later hb) rfl (by omega) rfl rfl ?_
    refine Ops.nil ?_
    exact AfterN.dn rfl (Below.refl _ _) (by exact rfl)
   ·intro e1 w1 cc hlo hhi hb0 hp hun hq
    show Ops _ _ _ _ _ _ _
    refine Ops.add rfl rfl rfl (by omega) ?_
    refine Ops.nil ?_
    exact AfterN.dn rfl (Below.refl _ _) (by exact rfl)
   ·intro e1 w1 cc hlo hhi hb0 hp hun hq
    show Ops _ _ _ _ _ _ _
    replace hlo := le_of_lo hlo (b := 0) (by kernel_rfl)
    replace hhi := le_of_hi hhi (b := 0) (by kernel_rfl)
    obtain rfl : cc = 0 := by omega
    have hb := hb0 rfl
    refine Ops.idx (hN.later hb).2 rfl rfl rfl (by omega) (by omega) ?_
    refine Ops.nil ?_
    exact AfterN.dn rfl (Below.refl _ _) (by exact rfl)
   ·intro e1 w1 cc hlo hhi hb0 hp hun hq
    show Ops _ _ _ _ _ _ _
    replace hlo := le_of_lo hlo (b := 0) (by kernel_rfl)
    replace hhi := le_of_hi hhi (b := 0) (by kernel_rfl)
    obtain rfl : cc = 0 := by omega
    have hb := hb0 rfl
    refine Ops.st_int 0 (hS4.later hb) rfl rfl rfl (by omega) ?_
    intro w9 hS9
    refine Ops.nil ?_
    rw [hz, Int.zero_add] at hS9
    exact AfterT.st rfl hS9
   intro u w5 _ hu
   have hS5 := hu 14 _ rfl (by kernel_rfl)
   have hS5 : St w w5 [CkI 2 A6 (k + 1) (k + 1) ((nxL (plH f k) i).set (i + 1) (gi (plH f k) (i : Int))), CkI 2 A4 k c4 (plH f k)] := hS5
   have hN5 : RdI w5 A6 (k + 1) ((nxL (plH f k) i).set (i + 1) (gi (plH f k) (i : Int))) := hS5.rdI 0 rfl
   have hP5 : RdI w5 A4 k (plH f k) := hS5.rdI 1 rfl
   have hz5 : gi ((nxL (plH f k) i).set (i + 1) (gi (plH f k) (i : Int))) (i : Int) = nxE (plH f k) i i := by
    rw [gi_setI (by omega) (by omega), if_neg (by omega)]
    exact nxL_at (by omega)
   have hb2 := nxE_bd (f := f) (k := k) (i := i) (j := i) (by omega) hb (by omega)
   have hstep := nxL_step (p := plH f k) (i := i) (by omega)
   refine thenQ_n ?_
   refine Cd.drawN [12] [.ex (.slice (A6) (k + 1) (k + 1)), .ex (.int .i64 ((i : Int))), .ex (.slice (A6) (k + 1) (k + 1)), .ex (.int .i64 ((i : Int))), .ex (.pointer (ptrAt (A6) ((i : Int)).toNat)), .ex (.int .i64 (gi ((nxL (plH f k) i).set (i + 1) (gi (plH f k) (i : Int))) ((i : Int)))), .ex (.slice (A4) (k) (c4)), .ex (.int .i64 ((i : Int))), .ex (.pointer (ptrAt (A4) ((i : Int)).toNat)), .ex (.int .i64 (gi (plH f k) ((i : Int)))), .ex (.int .i64 ((gi ((nxL (plH f k) i).set (i + 1) (gi (plH f k) (i : Int))) ((i : Int))) - (gi (plH f k) ((i : Int))))), .ex (.pointer (ptrAt (A6) ((i : Int)).toNat)), .pr (fun _ w' => St w w' [CkI 2 A6 (k + 1) (k + 1) (nxL (plH f k) (i + 1)), CkI 2 A4 k c4 (plH f k)])] (by kernel_rfl) (by kernel_rfl) (List.forall_mem_cons.2 ⟨Yd.lasts_ex _, (List.forall_mem_cons.2 ⟨Yd.lasts_ex _, (List.forall_mem_cons.2 ⟨Yd.lasts_ex _, (List.forall_mem_cons.2 ⟨Yd.lasts_ex _, (List.forall_mem_cons.2 ⟨Yd.lasts_ex _, (List.forall_mem_cons.2 ⟨Yd.lasts_ex _, (List.forall_mem_cons.2 ⟨Yd.lasts_ex _, (List.forall_mem_cons.2 ⟨Yd.lasts_ex _, (List.forall_mem_cons.2 ⟨Yd.lasts_ex _, (List.forall_mem_cons.2 ⟨Yd.lasts_ex _, (List.forall_mem_cons.2 ⟨Yd.lasts_ex _, (List.forall_mem_cons.2 ⟨Yd.lasts_ex _, (List.forall_mem_cons.2 ⟨Yd.lasts_pr (fun v w w' h hb => h.later hb), (fun _ h => by cases h)⟩)⟩)⟩)⟩)⟩)⟩)⟩)⟩)⟩)⟩)⟩)⟩)⟩) ⟨?_, ?_, ?_, ?_, ?_, ?_, ?_, ?_, ?_, ?_, ?_, ?_, ?_, trivial⟩ ?_
   ·intro e1 w1 cc hlo hhi hb0 hp hun hq
    show Ops _ _ _ _ _ _ _
    refine Ops.mv_sl rfl rfl rfl ?_
    refine Ops.nil ?_
    exact AfterN.dn rfl (Below.refl _ _) (by exact rfl)
   ·intro e1 w1 cc hlo hhi hb0 hp hun hq
    show Ops _ _ _ _ _ _ _
    refine Ops.mv_int rfl rfl rfl ?_
    refine Ops.nil ?_
    exact AfterN.dn rfl (Below.refl _ _) (by exact rfl)
   ·intro e1 w1 cc hlo hhi hb0 hp hun hq
    show Ops _ _ _ _ _ _ _
    refine Ops.mv_sl rfl rfl rfl ?_
    refine Ops.nil ?_
    exact AfterN.dn rfl (Below.refl _ _) (by exact rfl)
   ·intro e1 w1 cc hlo hhi hb0 hp hun hq
    show Ops _ _ _ _ _ _ _
    refine Ops.mv_int rfl rfl rfl ?_
    refine Ops.nil ?_
    exact AfterN.dn rfl (Below.refl _ _) (by exact rfl)
   ·intro e1 w1 cc hlo hhi hb0 hp hun hq
    show Ops _ _ _ _ _ _ _
    replace hlo := le_of_lo hlo (b := 0) (by kernel_rfl)
    replace hhi := le_of_hi hhi (b := 0) (by kernel_rfl)
    obtain rfl : cc = 0 := by omega
    have hb := hb0 rfl
    refine Ops.idx (hN5.later hb).2 rfl rfl rfl (by omega) (by omega) ?_
    refine Ops.nil ?_
    exact AfterN.dn rfl (Below.refl _ _) (by exact rfl)
   ·intro e1 w1 cc hlo hhi hb0 hp hun hq
    show Ops _ _ _ _ _ _ _
    replace hlo := le_of_lo hlo (b := 0) (by kernel_rfl)
    replace hhi := le_of_hi hhi (b := 0) (by kernel_rfl)
    obtain rfl : cc = 0 := by omega
    have hb := hb0 rfl
    refine Ops.ld_int (hN5.later hb) rfl (by omega) rfl rfl ?_
    refine Ops.nil ?_
    exact AfterN.dn rfl (Below.refl _ _) (by exact rfl)
   ·intro e1 w1 cc hlo hhi hb0 hp hun hq
    show Ops _ _ _ _ _ _ _
    refine Ops.mv_sl rfl rfl rfl ?_
    refine Ops.nil ?_
    exact AfterN.dn rfl (Below.refl _ _) (by exact rfl)
   ·intro e1 w1 cc hlo hhi hb0 hp hun hq
    show Ops _ _ _ _ _ _ _
    refine Ops.mv_int rfl rfl rfl ?_
    refine Ops.nil ?_
    exact AfterN.dn rfl (Below.refl _ _) (by exact rfl)
   ·intro e1 w1 cc hlo hhi hb0 hp hun hq
    show Ops _ _ _ _ _ _ _
    replace hlo := le_of_lo hlo (b := 0) (by kernel_rfl)
    replace hhi := le_of_hi hhi (b := 0) (by kernel_rfl)
    obtain rfl : cc = 0 := by omega
    have hb := hb0 rfl
    refine Ops.idx (hP5.later hb).2 rfl rfl rfl (by omega) (by omega) ?_
    refine Ops.nil ?_
    exact AfterN.dn rfl (Below.refl _ _) (by exact rfl)
   ·intro e1 w1 cc hlo hhi hb0 hp hun hq
    show Ops _ _ _ _ _ _ _
    replace hlo := le_of_lo hlo (b := 0) (by kernel_rfl)
    replace hhi := le_of_hi hhi (b := 0) (by kernel_rfl)
    obtain rfl : cc = 0 := by omega
    have hb := hb0 rfl
    refine Ops.ld_int (hP5.later hb) rfl (by omega) rfl rfl ?_
    refine Ops.nil ?_
    exact AfterN.dn rfl (Below.refl _ _) (by exact rfl)
   ·intro e1 w1 cc hlo hhi hb0 hp hun hq
    show Ops _ _ _ _ _ _ _
    refine Ops.sub rfl rfl rfl (by omega) ?_
    refine Ops.nil ?_
    exact AfterN.dn rfl (Below.refl _ _) (by exact rfl)
   ·intro e1 w1 cc hlo hhi hb0 hp hun hq
    show Ops _ _ _ _ _ _ _
    replace hlo := le_of_lo hlo (b := 0) (by kernel_rfl)
    replace hhi := le_of_hi hhi (b := 0) (by kernel_rfl)
    obtain rfl : cc = 0 := by omega
    have hb := hb0 rfl
    refine Ops.idx (hN5.later hb).2 rfl rfl rfl (by omega) (by omega) ?_
    refine Ops.nil ?_
    exact AfterN.dn rfl (Below.refl _ _) (by exact rfl)
   ·intro e1 w1 cc hlo hhi hb0 hp hun hq
    show Ops _ _ _ _ _ _ _
    replace hlo := le_of_lo hlo (b := 0) (by kernel_rfl)
    replace hhi := le_of_hi hhi (b := 0) (by kernel_rfl)
    obtain rfl : cc = 0 := by omega
    have hb := hb0 rfl
    refine Ops.st_int 0 (hS5.later hb) rfl rfl rfl (by omega) ?_
    intro w9 hS9
    refine Ops.nil ?_
    rw [hz5, Int.toNat_natCast, hstep] at hS9
    exact AfterT.st rfl hS9
   intro u w6 _ hu
   have hS6 := hu 12 _ rfl (by kernel_rfl)
   refine blockQ_n ?_
   refine thenQ_n ?_
   refine Cd.region ?_
   refine Ops.mv_int rfl rfl rfl ?_
   refine Ops.add rfl rfl rfl (by omega) ?_
   refine Ops.mv_int rfl rfl rfl ?_
   refine Ops.nil ?_
   refine thenQ_n ?_
   exact ⟨i + 1, by show k - (i + 1) < k - i; omega, ⟨rfl, rfl, rfl, rfl, rfl, rfl, trivial⟩, by omega, hS6⟩
  ·have hik : i = k := by omega
   subst hik
   have hN : RdI w4 A6 (i + 1) (nxL (plH f i) i) := hS4.rdI 0 rfl
   have hR4 := hS4.oldI hR
   have hb2 := nxE_bd (f := f) (k := i) (i := i) (j := 0) (by omega) hb (by omega)
   have hz : gi (nxL (plH f i) i) 0 = nxE (plH f i) i 0 := nxL_at (Nat.zero_le _)
   have hgf := gi_bnd hb (i := i) (by omega)
   have hstep := plH_step (f := f) (k := i) (by omega)
   have hnl := nxL_len (plH f i) i
   refine Cd.exit ?_
   refine thenQ_x ?_
   refine thenQ_x ?_
   refine blockQ_x ?_
   refine thenQ_n ?_
   refine Cd.seq ?_
   refine Cd.drawN [10] [.ex (.slice (A6) (i + 1) (i + 1)), .ex (.slice (A6) (i + 1) (i + 1)), .ex (.pointer (ptrAt (A6) ((0 : Int)).toNat)), .ex (.int .i64 (gi (nxL (plH f i) i) ((0 : Int)))), .ex (.slice (A) (d + 1) (c)), .ex (.int .i64 ((i : Int))), .ex (.pointer (ptrAt (A) ((i : Int)).toNat)), .ex (.int .i64 (gi (f) ((i : Int)))), .ex (.int .i64 ((gi (nxL (plH f i) i) ((0 : Int))) + (gi (f) ((i : Int))))), .ex (.pointer (ptrAt (A6) ((0 : Int)).toNat)), .pr (fun _ w' => St w w' [CkI 2 A6 (i + 1) (i + 1) (plH f (i + 1)), CkI 2 A4 i c4 (plH f i)])] (by kernel_rfl) (by kernel_rfl) (List.forall_mem_cons.2 ⟨Yd.lasts_ex _, (List.forall_mem_cons.2 ⟨Yd.lasts_ex _, (List.forall_mem_cons.2 ⟨Yd.lasts_ex _, (List.forall_mem_cons.2 ⟨Yd.lasts_ex _, (List.forall_mem_cons.2 ⟨Yd.lasts_ex _, (List.forall_mem_cons.2 ⟨Yd.lasts_ex _, (List.forall_mem_cons.2 ⟨Yd.lasts_ex _, (List.forall_mem_cons.2 ⟨Yd.lasts_ex _, (List.forall_mem_cons.2 ⟨Yd.lasts_ex _, (List.forall_mem_cons.2 ⟨Yd.lasts_ex _, (List.forall_mem_cons.2 ⟨Yd.lasts_pr (fun v w w' h hb => h.later hb), (fun _ h => by cases h)⟩)⟩)⟩)⟩)⟩)⟩)⟩)⟩)⟩)⟩)⟩) ⟨?_, ?_, ?_, ?_, ?_, ?_, ?_, ?_, ?_, ?_, ?_, trivial⟩ ?_
   ·intro e1 w1 cc hlo hhi hb0 hp hun hq
    show Ops _ _ _ _ _ _ _
    refine Ops.mv_sl rfl rfl rfl ?_
    refine Ops.nil ?_
    exact AfterN.dn rfl (Below.refl _ _) (by exact rfl)
   ·intro e1 w1 cc hlo hhi hb0 hp hun hq
    show Ops _ _ _ _ _ _ _
    refine Ops.mv_sl rfl rfl rfl ?_
    refine Ops.nil ?_
    exact AfterN.dn rfl (Below.refl _ _) (by exact rfl)
   ·intro e1 w1 cc hlo hhi hb0 hp hun hq
    show Ops _ _ _ _ _ _ _
    replace hlo := le_of_lo hlo (b := 0) (by kernel_rfl)
    replace hhi := le_of_hi hhi (b := 0) (by kernel_rfl)
    obtain rfl : cc = 0 := by omega
    have hb := hb0 rfl
    refine Ops.idx (hN.later hb).2 rfl rfl rfl (by omega) (by omega) ?_
    refine Ops.nil ?_
    exact AfterN.dn rfl (Below.refl _ _) (by exact rfl)
   ·intro e1 w1 cc hlo hhi hb0 hp hun hq
    show Ops _ _ _ _ _ _ _
    replace hlo := le_of_lo hlo (b := 0) (by kernel_rfl)
    replace hhi := le_of_hi hhi (b := 0) (by kernel_rfl)
    obtain rfl : cc = 0 := by omega
    have hb := hb0 rfl
    refine Ops.ld_int (hN.later hb) rfl (by omega) rfl rfl ?_
    refine Ops.nil ?_
    exact AfterN.dn rfl (Below.refl _ _) (by exact rfl)
   ·intro e1 w1 cc hlo hhi hb0 hp hun hq
    show Ops _ _ _ _ _ _ _
    refine Ops.mv_sl rfl rfl rfl ?_
    refine Ops.nil ?_
    exact AfterN.dn rfl (Below.refl _ _) (by exact rfl)
   ·intro e1 w1 cc hlo hhi hb0 hp hun hq
    show Ops _ _ _ _ _ _ _
    refine Ops.mv_int rfl rfl rfl ?_
    refine Ops.nil ?_
    exact AfterN.dn rfl (Below.refl _ _) (by exact rfl)
   ·intro e1 w1 cc hlo hhi hb0 hp hun hq
    show Ops _ _ _ _ _ _ _
    replace hlo := le_of_lo hlo (b := 0) (by kernel_rfl)
    replace hhi := le_of_hi hhi (b := 0) (by kernel_rfl)
    obtain rfl : cc = 0 := by omega
    have hb := hb0 rfl
    refine Ops.idx (hR4.later hb).2 rfl rfl rfl (by omega) (by omega) ?_
    refine Ops.nil ?_
    exact AfterN.dn rfl (Below.refl _ _) (by exact rfl)
   ·intro e1 w1 cc hlo hhi hb0 hp hun hq
    show Ops _ _ _ _ _ _ _
    replace hlo := le_of_lo hlo (b := 0) (by kernel_rfl)
    replace hhi := le_of_hi hhi (b := 0) (by kernel_rfl)
    obtain rfl : cc = 0 := by omega
    have hb := hb0 rfl
    refine Ops.ld_int (hR4.later hb) rfl (by omega) rfl rfl ?_
    refine Ops.nil ?_
    exact AfterN.dn rfl (Below.refl _ _) (by exact rfl)
   ·intro e1 w1 cc hlo hhi hb0 hp hun hq
    show Ops _ _ _ _ _ _ _
    refine Ops.add rfl rfl rfl (by omega) ?_
    refine Ops.nil ?_
    exact AfterN.dn rfl (Below.refl _ _) (by exact rfl)
   ·intro e1 w1 cc hlo hhi hb0 hp hun hq
    show Ops _ _ _ _ _ _ _
    replace hlo := le_of_lo hlo (b := 0) (by kernel_rfl)
    replace hhi := le_of_hi hhi (b := 0) (by kernel_rfl)
    obtain rfl : cc = 0 := by omega
    have hb := hb0 rfl
    refine Ops.idx (hN.later hb).2 rfl rfl rfl (by omega) (by omega) ?_
    refine Ops.nil ?_
    exact AfterN.dn rfl (Below.refl _ _) (by exact rfl)
   ·intro e1 w1 cc hlo hhi hb0 hp hun hq
    show Ops _ _ _ _ _ _ _
    replace hlo := le_of_lo hlo (b := 0) (by kernel_rfl)
    replace hhi := le_of_hi hhi (b := 0) (by kernel_rfl)
    obtain rfl : cc = 0 := by omega
    have hb := hb0 rfl
    refine Ops.st_int 0 (hS4.later hb) rfl rfl rfl (by omega) ?_
    intro w9 hS9
    refine Ops.nil ?_
    rw [← hstep]
    exact AfterT.st rfl hS9
   intro u w6 _ hu
   have hS6 := hu 10 _ rfl (by kernel_rfl)
   have hS6 : St w w6 [CkI 2 A6 (i + 1) (i + 1) (plH f (i + 1)), CkI 2 A4 i c4 (plH f i)] := hS6
   refine thenQ_n ?_
   refine Cd.region ?_
   refine Ops.mv_sl rfl rfl rfl ?_
   refine Ops.mv_sl rfl rfl rfl ?_
   refine Ops.nil ?_
   refine blockQ_n ?_
   refine thenQ_n ?_
   refine Cd.region ?_
   refine Ops.mv_int rfl rfl rfl ?_
   refine Ops.add rfl rfl rfl (by omega) ?_
   refine Ops.mv_int rfl rfl rfl ?_
   refine Ops.nil ?_
   refine thenQ_n ?_
   exact ⟨(i + 1, A6, i + 1), by show d + 1 - (i + 1) < d + 1 - i; omega, ⟨rfl, rfl, rfl, rfl, trivial⟩, by show i + 1 ≤ d + 1; omega, hS6.sub (List.Sublist.cons_cons _ (List.nil_sublist _))⟩
 ·have hke : k = d + 1 := by omega
  subst hke
  have hhl : (hP f).length = d + 1 := by rw [hP_len, hfl]
  refine Cd.exit ?_
  refine thenQ_x ?_
  refine thenQ_x ?_
  refine blockQ_x ?_
  refine thenQ_n ?_
  refine Cd.seq ?_
  refine Cd.region ?_
  refine Ops.bs0 hS2 rfl ?_
  intro A8 w3 hS3
  have hS3 : St w w3 [CkI 2 A8 0 0 ((hP f).take 0), CkI 2 A4 (d + 1) c4 (plH f (d + 1))] := hS3
  refine Ops.mv_sl rfl rfl rfl ?_
  refine Ops.nil ?_
  refine thenQ_n ?_
  refine Cd.seq ?_
  refine Cd.seq ?_
  refine Cd.region ?_
  refine Ops.mv_int rfl rfl rfl ?_
  refine Ops.nil ?_
  refine thenQ_n ?_
  refine Cd.block ?_
  refine Cd.loop (α := Nat × Option Addr × Nat) (fun z => [(3, .int .i64 (((d + 1 : Nat) : Int) - 1)), (4, .slice A4 (d + 1) c4), (8, .slice z.2.1 z.1 z.2.2), (9, .int .i64 (z.1 : Int))]) (fun z w' => z.1 ≤ d + 1 ∧ St w w' [CkI 2 z.2.1 z.1 z.2.2 ((hP f).take z.1), CkI 2 A4 (d + 1) c4 (plH f (d + 1))]) (fun z => d + 1 - z.1) (0, A8, 0) ⟨rfl, rfl, rfl, rfl, trivial⟩ ⟨Nat.zero_le _, hS3⟩ ?_
  clear hS3 hS2
  rintro ⟨q, A8, c8⟩ e w4 ⟨hq, hS4⟩
  dsimp only at hq hS4 ⊢
  refine Cd.seq ?_
  refine Cd.seq ?_
  refine Cd.region ?_
  refine Ops.mv_int rfl rfl rfl ?_
  refine Ops.mv_int rfl rfl rfl ?_
  refine Ops.leq rfl rfl rfl ?_
  refine Ops.nil ?_
  refine thenQ_n ?_
  refine Cd.cond_p _ rfl (fun h2 => ?_) (fun h2 => ?_)
  ·have hP : RdI w4 A4 (d + 1) (plH f (d + 1)) := hS4.rdI 1 rfl
   have hqd : q ≤ d := by omega
   have hat : gi (plH f (d + 1)) (((d + 1 : Nat) : Int) - 1 - q) = gi (Vc.hP f) (q : Int) := by
    rw [show (((d + 1 : Nat) : Int) - 1 - q) = ((d - q : Nat) : Int) by omega, plH_at (by omega), List.take_of_length_le (by omega), show d + 1 - 1 - (d - q) = q by omega]
    have := hP_at (f := f) q
    rw [hfl] at this
    exact this.symm
   have htk := take_succ_gi (p := Vc.hP f) (k := q) (by omega)
   refine Cd.skip ?_
   refine thenQ_n ?_
   refine Cd.seq ?_
   refine Cd.block ?_
   refine Cd.region ?_
   refine Ops.mv_sl rfl rfl rfl ?_
   refine Ops.mv_sl rfl rfl rfl ?_
   refine Ops.mv_int rfl rfl rfl ?_
   refine Ops.mv_int rfl rfl rfl ?_
   refine Ops.sub rfl rfl rfl (by omega) ?_
   refine Ops.idx hP.2 rfl rfl rfl (by omega) (by omega) ?_
   refine Ops.ld_int hP rfl (by omega) rfl rfl ?_
   rw [hat]
   refine Ops.bs1I hS4 rfl rfl rfl ?_
   intro A9 w5 hS5
   refine Ops.appI 1 hS5 rfl (hS5.rdI 0 rfl) rfl rfl rfl (by omega) (by omega) rfl ?_
   intro A10 c10 w6 hS6
   have hS6 := hS6.tail
   refine Ops.mv_sl rfl rfl rfl ?_
   refine Ops.nil ?_
   refine blockQ_n ?_
   refine thenQ_n ?_
   refine Cd.region ?_
   refine Ops.mv_int rfl rfl rfl ?_
   refine Ops.add rfl rfl rfl (by omega) ?_
   refine Ops.mv_int rfl rfl rfl ?_
   refine Ops.nil ?_
   refine thenQ_n ?_
   exact ⟨(q + 1, A10, c10), by show d + 1 - (q + 1) < d + 1 - q; omega, ⟨rfl, rfl, rfl, rfl, trivial⟩, by show q + 1 ≤ d + 1; omega, by show St w w6 [CkI 2 A10 (q + 1) c10 ((Vc.hP f).take (q + 1)), _]; rw [htk]; exact hS6⟩
  ·have hqe : q = d + 1 := by omega
   subst hqe
   rw [List.take_of_length_le (by omega)] at hS4
   refine Cd.exit ?_
   refine thenQ_x ?_
   refine thenQ_x ?_
   refine blockQ_x ?_
   refine thenQ_n ?_
   refine Cd.seq ?_
   refine Cd.region ?_
   refine Ops.mv_sl rfl rfl rfl ?_
   refine Ops.mv_sl rfl rfl rfl ?_
   refine Ops.nil ?_
   refine thenQ_n ?_
   refine Cd.ret ?_
   refine ret1_s rfl ?_
   exact ⟨A8, c8, rfl, hS4.sub (List.Sublist.cons_cons _ (List.nil_sublist _))⟩

theorem specHVector_c (V : Int) (A : Option Addr) (n c : Nat) (rs : List SlV) (F : List (List Int)) (w : World) (hR : RowsI w A n rs F) (hn : n ≤ 9223372036854775807) :
  Ret Tryz.prog 48 [.agg #[.int .i64 V, .slice A n c]] w (AnsR (hvV V F) (hvK V F) w) := by
 have hFl := hR.len
 refine Ret.of_cd Tryz.func48 rfl Tryz.ntmps48 rfl (post2 rfl) ?_
 refine Cd.seq ?_
 refine Cd.region ?_
 refine Ops.box2 (St.refl w) rfl rfl ?_
 intro Ab w1 hS1
 refine Ops.mv_sl rfl rfl rfl ?_
 refine Ops.mv_int rfl rfl rfl ?_
 refine Ops.nil ?_
 refine thenQ_n ?_
 refine Cd.seq ?_
 refine Cd.seq ?_
 refine Cd.region ?_
 refine Ops.ld_agg 1 (hS1.rd 0 rfl) rfl rfl rfl ?_
 refine Ops.call (l17Is_c V A n c rs F _ (hS1.oldRows hR) hn) rfl rfl rfl ?_
 rintro _ w2 ⟨rfl, hst⟩
 have hS2 := hS1.later hst.below
 unfold hvV hvK
 first | refine Ops.not_p rfl rfl ?_ | refine Ops.not rfl rfl ?_
 refine Ops.nil ?_
 refine thenQ_n ?_
 refine Cd.cond_p _ rfl (fun h1 => ?_) (fun h1 => ?_)
 ·rw [if_neg h1, if_neg h1]
  refine Cd.seq ?_
  refine Cd.region ?_
  refine Ops.mv_sl rfl rfl rfl ?_
  refine Ops.mv_int rfl rfl rfl ?_
  refine Ops.nil ?_
  refine thenQ_n ?_
  refine Cd.ret ?_
  refine thenQ_r ?_
  refine ret2_si rfl rfl ?_
  exact ⟨none, 0, rfl, hS2.none.nil _⟩
 have hC := Classical.not_not.1 h1
 have hF4 := hC.f
 have h6 : ∀ f ∈ F, f.length ≤ 6 := fun f hf => (hC.row f hf).1.2
 rw [if_pos hC, if_pos hC]
 refine Cd.skip ?_
 refine thenQ_n ?_
 refine Cd.seq ?_
 refine Cd.region ?_
 refine Ops.ld_agg 1 (hS2.rd 0 rfl) rfl rfl rfl ?_
 refine Ops.call (l17F_c V A n c rs F _ (hS2.oldRows hR) (by omega) h6) rfl rfl rfl ?_
 rintro _ w3 ⟨A4, c4, rfl, hst3⟩
 have hS3 := hS2.call2 hst3
 refine Ops.call (l17H_c A4 (dpt F) c4 (fvP F) _ (hst3.rdI 0 rfl) (dpt_bd h6) (fvP_bd (by omega) h6)) rfl rfl rfl ?_
 rintro _ w4 ⟨A5, c5, rfl, hst4⟩
 have hl : (hP (fvP F)).length = dpt F + 1 := by rw [hP_len, fvP_len]
 refine Ops.mv_sl rfl rfl rfl ?_
 refine Ops.mv_int rfl rfl rfl ?_
 refine Ops.nil ?_
 refine thenQ_n ?_
 refine Cd.ret ?_
 refine ret2_si rfl rfl ?_
 exact ⟨A5, c5, by rw [hl], by rw [hl]; exact (hS3.call hst4).sub (List.sublist_append_left _ _)⟩
end Go.Proofs.YtdedegbendjmbaaGreatDoor.Vc
/-
 Draws of two complexes; products of polynomials and sums, walked. Conditions: as each states them.
-/
namespace Go.Proofs.YtdedegbendjmbaaGreatDoor.Vc
open Go.RowKit

section
variable {P : Program} {N : Nat} {ops : Array Oper} {K : Env → World → Prop} {rest : List Oper} {e : Env} {w0 w w' : World} {ks : List Ck} {d : Nat} {ty : TypeId} {pos : String} {af : Array Edge}
/-- two results that lie in memory -/
def retcc (a n u m : Nat) (R : Value → World → Prop) : Post
 | .normal, e, w => ∃ A f B g, e a = .pointer A ∧ Rd w A n f ∧ e u = .pointer B ∧ Rd w B m g ∧ R (.tuple #[.agg ((List.range n).map f).toArray, .agg ((List.range m).map g).toArray]) w
 | .ret, e, w => ∃ A f B g, e a = .pointer A ∧ Rd w A n f ∧ e u = .pointer B ∧ Rd w B m g ∧ R (.tuple #[.agg ((List.range n).map f).toArray, .agg ((List.range m).map g).toArray]) w
 | _, _, _ => False
theorem retcc_r {a n u m : Nat} {R : Value → World → Prop} {A B : Option Addr} {f g : Nat → Value} (h : e a = .pointer A) (hR : Rd w A n f) (h' : e u = .pointer B) (hR' : Rd w B m g) (h2 : R (.tuple #[.agg ((List.range n).map f).toArray, .agg ((List.range m).map g).toArray]) w) : retcc a n u m R .ret e w := ⟨A, f, B, g, h, hR, h', hR', h2⟩
theorem postcc {fn : Func} {R : Value → World → Prop} {a t n b u t' m b' : Nat} {fs fs' : Array Field} {z z' : Value} [Und P t (.struct fs)] [Inf P t z n b] [Und P t' (.struct fs')] [Inf P t' z' m b'] (hr : fn.results = #[.cell a t, .cell u t']) (hn' : Nat.blt 0 n = true) (hm' : Nat.blt 0 m = true) : ∀ x a1 e w, Rep N a1 e → retcc a n u m R x e w → bodyPost P fn (fun x w' => ∃ v, x = .returned v ∧ R v w') x a1 w := by
  intro x a1 e w he q
  have hn : 0 < n := by simpa [Nat.blt_eq] using hn'
  have hm : 0 < m := by simpa [Nat.blt_eq] using hm'
  have hg := he.get a
  have hh := he.get u
  have key : ∀ (A B : Option Addr) (f g : Nat → Value), e a = .pointer A → Rd w A n f → e u = .pointer B → Rd w B m g → (results fn a1.tmps).run P w = .ok (.tuple #[.agg ((List.range n).map f).toArray, .agg ((List.range m).map g).toArray]) w := by
    intro A B f g hA hR hB hR'
    obtain ⟨q, rfl, hl⟩ := run_loadAgg (P := P) (t := t) hn hR
    obtain ⟨q', rfl, hl'⟩ := run_loadAgg (P := P) (t := t') hm hR'
    rw [Array.getD_eq_getD_getElem?] at hg hh
    simp [results, hr, hg, hh, hA, hB, asAddr, hl, hl']
  cases x <;> first
    | exact q.elim
    | (obtain ⟨A, f, B, g, hA, hR, hB, hR', h2⟩ := q
       exact ⟨he.defers, _, key A B f g hA hR hB hR', _, rfl, h2⟩)
end

set_option maxHeartbeats 1000000 in
theorem DrawJoinComplexes_c (Ac : Option Addr) (nc cc : Nat) (bs : List Int) (w : World) (hY : RdY w Ac nc bs) (hnc : nc ≤ 1000000) :
    Ret Tryz.prog 46 [.slice Ac nc cc] w (fun v w' => ∃ (V : Int) (n : Nat) (F : List (List Int)) (A : Option Addr) (c : Nat) (rs : List SlV) (W : Int) (G : List (List Int)) (B : Option Addr) (d : Nat) (ts : List SlV), v = .tuple #[.agg #[.int .i64 V, .slice A n c], .agg #[.int .i64 W, .slice B G.length d]] ∧ (-10 ≤ V ∧ V ≤ 200) ∧ n ≤ 401 ∧ rs.length = n ∧ F.length = n ∧ Cplx W G ∧ ts.length = G.length ∧ St w w' (mat 25 2 A n c rs F ++ (mat 25 2 B G.length d ts G ++ []))) := by
  refine Ret.of_cd Tryz.func46 rfl Tryz.ntmps46 rfl (postcc rfl rfl rfl) ?_
  refine Cd.seq ?_
  refine Cd.region ?_
  refine Ops.new2 (St.refl w) rfl ?_
  intro A2 wA hS1
  refine Ops.new2 hS1 rfl ?_
  intro A3 wA hS1
  have hS1 : St w wA [cxZ A3, cxZ A2] := hS1
  refine Ops.nil ?_
  refine thenQ_n ?_
  refine Cd.seq ?_
  refine Cd.region ?_
  refine Ops.mv_sl rfl rfl rfl ?_
  refine Ops.call (l01From_c Ac nc cc bs wA (hY.below hS1.below) hnc) rfl rfl rfl ?_
  rintro _ w2 ⟨As, k0, rfl, hK0, hS2⟩
  refine Ops.mv_ptr rfl rfl rfl ?_
  refine Ops.nil ?_
  refine thenQ_n ?_
  refine Cd.seq ?_
  refine Cd.region ?_
  refine Ops.mv_ptr rfl rfl rfl ?_
  refine Ops.call (l17DrawAny_c 0 hS2 rfl hK0) rfl rfl rfl ?_
  rintro _ w3 ⟨V, n, F, A, c, rs, k1, rfl, hV, hn, hrl, hFl, hK1, hS4⟩
  refine Ops.new2 hS4 rfl ?_
  intro A5 w4 hS5
  refine Ops.st_agg 2 0 hS5 rfl rfl rfl rfl rfl rfl rfl ?_
  intro w5 hS6
  have hS6 : St wA w5 (cxB A5 V A n c :: (mat 25 2 A n c rs F ++ [k1])) := hS6
  clear hS2 hS4 hS5
  refine Ops.nil ?_
  refine thenQ_n ?_
  refine Cd.seq ?_
  refine Cd.region ?_
  refine Ops.bsL [0, 1] (St.refl w5) rfl rfl (by decide) (by decide) rfl rfl ?_
  intro B0 w6 hT
  refine Ops.bsL [1, 2] hT rfl rfl (by decide) (by decide) rfl rfl ?_
  intro B1 w6 hT
  refine Ops.bsLR [⟨B0, 2, 2⟩, ⟨B1, 2, 2⟩] hT rfl rfl (by decide) (by decide) rfl rfl ?_
  intro B2 w6 hT
  have hL0 : RowsI w6 B2 2 [⟨B0, 2, 2⟩, ⟨B1, 2, 2⟩] [[0, 1], [1, 2]] := St.rowsI (ks := []) (show St w5 w6 (mat 25 2 B2 2 2 [⟨B0, 2, 2⟩, ⟨B1, 2, 2⟩] [[0, 1], [1, 2]] ++ []) from hT.perm (List.Perm.cons _ (List.Perm.swap _ _ _))) rfl
  have hS7 := hS6.call hT
  clear hT hS6
  have hS8 : St wA w6 ((cxB A5 V A n c :: mat 25 2 A n c rs F) ++ ([k1] ++ mat 25 2 B2 2 2 [⟨B0, 2, 2⟩, ⟨B1, 2, 2⟩] [[0, 1], [1, 2]])) := by
    refine hS7.perm ?_
    have e1 : ([CkR 25 B2 2 2 [⟨B0, 2, 2⟩, ⟨B1, 2, 2⟩], CkI 2 B1 2 2 [1, 2], CkI 2 B0 2 2 [0, 1]]).Perm (mat 25 2 B2 2 2 [⟨B0, 2, 2⟩, ⟨B1, 2, 2⟩] [[0, 1], [1, 2]]) := List.Perm.cons _ (List.Perm.swap _ _ _)
    refine List.perm_append_comm.trans ?_
    rw [show cxB A5 V A n c :: (mat 25 2 A n c rs F ++ [k1]) = (cxB A5 V A n c :: mat 25 2 A n c rs F) ++ [k1] from rfl, List.append_assoc]
    exact (e1.append_left [k1]).append_left _
  clear hS7
  refine Ops.mv_sl rfl rfl rfl ?_
  refine Ops.nil ?_
  refine thenQ_n ?_
  refine Cd.join (α := (Nat × Option Addr) × List SlV × List (List Int) × Ck × List Ck) (fun z => [(2, .pointer A2), (3, .pointer A3), (4, .pointer As), (5, .pointer A5), (6, .slice z.1.2 z.1.1 z.1.1)])
    (fun z w' => z.1.1 ≤ 3 ∧ RowsI w' z.1.2 z.1.1 z.2.1 z.2.2.1 ∧ (∀ l ∈ z.2.2.1, l.length ≤ 7) ∧ srcK wA As z.2.2.2.1 ∧ (∀ (k' : Ck) (w9 : World), St wA w9 ((cxB A5 V A n c :: mat 25 2 A n c rs F) ++ ([k'] ++ z.2.2.2.2)) → RowsI w9 z.1.2 z.1.1 z.2.1 z.2.2.1) ∧ St wA w' ((cxB A5 V A n c :: mat 25 2 A n c rs F) ++ ([z.2.2.2.1] ++ z.2.2.2.2))) ?_ ?_
  · refine Cd.seq ?_
    refine Cd.region ?_
    refine Ops.mv_ptr rfl rfl rfl ?_
    refine Ops.call (srcNextP_c (cxB A5 V A n c :: mat 25 2 A n c rs F) 0 2 hS8 rfl hK1) rfl rfl rfl ?_
    rintro _ w7 ⟨r, k2, rfl, hr, hK2, hS9⟩
    have hS9 : St wA w7 ((cxB A5 V A n c :: mat 25 2 A n c rs F) ++ ([k2] ++ mat 25 2 B2 2 2 [⟨B0, 2, 2⟩, ⟨B1, 2, 2⟩] [[0, 1], [1, 2]])) := hS9
    refine Ops.eql rfl rfl rfl ?_
    refine Ops.nil ?_
    refine thenQ_n ?_
    refine Cd.cond_p _ rfl (fun h1 => ?_) (fun h1 => ?_)
    · refine Cd.region ?_
      refine Ops.bsL [0] (St.refl w7) rfl rfl (by decide) (by decide) rfl rfl ?_
      intro B3 w8 hT
      refine Ops.bsL [1] hT rfl rfl (by decide) (by decide) rfl rfl ?_
      intro B4 w8 hT
      refine Ops.bsL [2] hT rfl rfl (by decide) (by decide) rfl rfl ?_
      intro B5 w8 hT
      refine Ops.bsLR [⟨B3, 1, 1⟩, ⟨B4, 1, 1⟩, ⟨B5, 1, 1⟩] hT rfl rfl (by decide) (by decide) rfl rfl ?_
      intro B6 w8 hT
      have hT2 : St w7 w8 (mat 25 2 B6 3 3 [⟨B3, 1, 1⟩, ⟨B4, 1, 1⟩, ⟨B5, 1, 1⟩] [[0], [1], [2]]) := hT.perm (List.Perm.cons _ (List.reverse_perm (rowsCk 2 [⟨B3, 1, 1⟩, ⟨B4, 1, 1⟩, ⟨B5, 1, 1⟩] [[0], [1], [2]])))
      have hS10 : St wA w8 ((cxB A5 V A n c :: mat 25 2 A n c rs F) ++ ([k2] ++ mat 25 2 B6 3 3 [⟨B3, 1, 1⟩, ⟨B4, 1, 1⟩, ⟨B5, 1, 1⟩] [[0], [1], [2]])) := by
        have h := (hS9.sub ((List.Sublist.refl _).append (List.Sublist.cons_cons k2 (List.nil_sublist _)))).call2 hT2
        rw [List.append_assoc] at h
        exact h
      refine Ops.mv_sl rfl rfl rfl ?_
      refine Ops.nil ?_
      refine thenQ_n ?_
      exact ⟨((3, B6), [⟨B3, 1, 1⟩, ⟨B4, 1, 1⟩, ⟨B5, 1, 1⟩], [[0], [1], [2]], k2, mat 25 2 B6 3 3 [⟨B3, 1, 1⟩, ⟨B4, 1, 1⟩, ⟨B5, 1, 1⟩] [[0], [1], [2]]), ⟨rfl, rfl, rfl, rfl, rfl, trivial⟩, Nat.le_refl _, St.rowsI (ks := []) (by rw [List.append_nil]; exact hT2) rfl, (by show ∀ l ∈ ([[0], [1], [2]] : List (List Int)), l.length ≤ 7; decide), hK2, fun k' w9 h => St.rowsI (ks := []) (by rw [List.append_nil]; exact h.sub (((List.sublist_append_right _ _).trans (List.sublist_append_right _ _)))) rfl, hS10⟩
    · refine Cd.skip ?_
      refine thenQ_n ?_
      exact ⟨((2, B2), [⟨B0, 2, 2⟩, ⟨B1, 2, 2⟩], [[0, 1], [1, 2]], k2, mat 25 2 B2 2 2 [⟨B0, 2, 2⟩, ⟨B1, 2, 2⟩] [[0, 1], [1, 2]]), ⟨rfl, rfl, rfl, rfl, rfl, trivial⟩, by show 2 ≤ 3; omega, St.rowsI (ks := []) (by rw [List.append_nil]; exact hS9.sub (((List.sublist_append_right _ _).trans (List.sublist_append_right _ _)))) rfl, (by show ∀ l ∈ ([[0, 1], [1, 2]] : List (List Int)), l.length ≤ 7; decide), hK2, fun k' w9 h => St.rowsI (ks := []) (by rw [List.append_nil]; exact h.sub (((List.sublist_append_right _ _).trans (List.sublist_append_right _ _)))) rfl, hS9⟩
  rintro ⟨⟨m, B6⟩, us, L, k2, X⟩ e w7 ⟨hm, hL, hsm, hK2, hLR, hS9⟩
  dsimp only at hm hL hsm hK2 hLR hS9 ⊢
  clear hS8 hL0 hK1 hL
  refine Cd.seq ?_
  refine Cd.region ?_
  refine Ops.mv_sl rfl rfl rfl ?_
  refine Ops.mv_ptr rfl rfl rfl ?_
  refine Ops.mv_sl rfl rfl rfl ?_
  refine Ops.len rfl rfl ?_
  refine Ops.add rfl rfl rfl (by omega) ?_
  refine Ops.call (srcNextP_c (cxB A5 V A n c :: mat 25 2 A n c rs F) 0 ((m : Int) + 1) hS9 rfl hK2) rfl rfl rfl ?_
  rintro _ w8 ⟨r, k3, rfl, hr, hK3, hS10⟩
  have hS10 : St wA w8 ((cxB A5 V A n c :: mat 25 2 A n c rs F) ++ ([k3] ++ X)) := hS10
  have hL := hLR _ _ hS10
  obtain ⟨q, rfl⟩ : ∃ q : Nat, r = q := ⟨r.toNat, by omega⟩
  have hqm : q ≤ m := by omega
  have hLl := hL.len
  have hLq : RowsI w8 B6 q (us.take q) (L.take q) := ⟨hL.top.take hqm, by rw [List.length_take]; omega, fun i hi => by
    have e1 : (us.take q).getD i slNil = us.getD i slNil := by simp [List.getD_eq_getElem?_getD, List.getElem?_take, hi]
    have e2 : (L.take q).getD i [] = L.getD i [] := by simp [List.getD_eq_getElem?_getD, List.getElem?_take, hi]
    rw [e1, e2]; exact hL.row i (by omega), fun i hi => by
    have e1 : (us.take q).getD i slNil = us.getD i slNil := by simp [List.getD_eq_getElem?_getD, List.getElem?_take, hi]
    rw [e1]; exact hL.cap i (by omega)⟩
  refine Ops.cut_h (h := (q : Int)) rfl rfl rfl (by omega) ?_
  skip
  refine Ops.call (specComplexOf_c B6 q m (us.take q) (L.take q) w8 hLq (by omega) (fun l hl => by have := hsm l (List.mem_of_mem_take hl); omega)) rfl rfl rfl ?_
  rintro _ w9 ⟨A7, c7, rs7, rfl, hrl7, hst⟩
  have hC := co_cplx (L.take q)
  generalize coV (L.take q) = W at *
  generalize coL (L.take q) = G at *
  have hS11 : St wA w9 ((cxB A5 V A n c :: mat 25 2 A n c rs F) ++ (mat 25 2 A7 G.length c7 rs7 G ++ [])) := by
    refine ((hS10.sub (List.sublist_append_left _ _)).call2 hst)
  clear hst hS10 hS9 hL hLq hLR
  refine Ops.mv_tup rfl rfl rfl ?_
  refine Ops.extract rfl rfl rfl ?_
  refine Ops.extract rfl rfl rfl ?_
  refine Ops.new2 hS11 rfl ?_
  intro A8 w10 hS12
  refine Ops.st_agg 2 0 hS12 rfl rfl rfl rfl rfl rfl rfl ?_
  intro wB hS13
  have hS13 : St wA wB (cxB A8 W A7 G.length c7 :: cxB A5 V A n c :: (mat 25 2 A n c rs F ++ (mat 25 2 A7 G.length c7 rs7 G ++ []))) := hS13
  have hB : St w wB (cxZ A3 :: cxZ A2 :: cxB A8 W A7 G.length c7 :: cxB A5 V A n c :: (mat 25 2 A n c rs F ++ (mat 25 2 A7 G.length c7 rs7 G ++ []))) := hS1.call2 hS13
  clear hS12 hS11 hS13
  refine Ops.mv_int rfl rfl rfl ?_
  refine Ops.nil ?_
  refine thenQ_n ?_
  refine Cd.seq ?_
  refine Cd.drawN [2, 3] [.ex (.agg #[.int .i64 V, .slice A n c]), .ex (.agg #[.int .i64 W, .slice A7 G.length c7]), .pr (fun _ w' => St w w' (cxZ A3 :: cxB A2 V A n c :: cxB A8 W A7 G.length c7 :: cxB A5 V A n c :: (mat 25 2 A n c rs F ++ (mat 25 2 A7 G.length c7 rs7 G ++ [])))), .pr (fun _ w' => St w w' (cxB A3 W A7 G.length c7 :: cxB A2 V A n c :: cxB A8 W A7 G.length c7 :: cxB A5 V A n c :: (mat 25 2 A n c rs F ++ (mat 25 2 A7 G.length c7 rs7 G ++ []))))] (by kernel_rfl) (by kernel_rfl) (List.forall_mem_cons.2 ⟨Yd.lasts_ex _, (List.forall_mem_cons.2 ⟨Yd.lasts_ex _, (List.forall_mem_cons.2 ⟨Yd.lasts_pr (fun v w w' h hb => h.later hb), (List.forall_mem_cons.2 ⟨Yd.lasts_pr (fun v w w' h hb => h.later hb), (fun _ h => by cases h)⟩)⟩)⟩)⟩) ⟨?_, ?_, ?_, ?_, trivial⟩ ?_
  · intro e1 w1 cc hlo hhi hb0 hp hun hq
    show Ops _ _ _ _ _ _ _
    replace hlo := le_of_lo hlo (b := 0) (by kernel_rfl)
    replace hhi := le_of_hi hhi (b := 0) (by kernel_rfl)
    obtain rfl : cc = 0 := by omega
    have hb := hb0 rfl
    refine Ops.ld_agg 1 ((hB.later hb).rd 3 rfl) rfl rfl rfl ?_
    refine Ops.nil ?_
    exact AfterN.dn rfl (Below.refl _ _) (by exact rfl)
  · intro e1 w1 cc hlo hhi hb0 hp hun hq
    show Ops _ _ _ _ _ _ _
    have hX : Rd w1 A8 2 (fun j => [Value.int .i64 W, .slice A7 G.length c7].getD j undef) := by { have hhi := le_of_hi hhi (b := 1) (by kernel_rfl); rcases (show cc = 0 ∨ cc = 1 by omega) with h | h; { exact (hB.later (hb0 h)).rd 2 rfl }; { subst h; have hT : St w _ _ := hq 2 _ _ (by kernel_rfl) (by kernel_rfl) (by kernel_rfl) rfl rfl (by kernel_rfl); exact hT.rd 2 rfl } }
    refine Ops.ld_agg 1 hX rfl rfl rfl ?_
    refine Ops.nil ?_
    exact AfterN.dn rfl (Below.refl _ _) (by exact rfl)
  · intro e1 w1 cc hlo hhi hb0 hp hun hq
    show Ops _ _ _ _ _ _ _
    replace hlo := le_of_lo hlo (b := 0) (by kernel_rfl)
    replace hhi := le_of_hi hhi (b := 0) (by kernel_rfl)
    obtain rfl : cc = 0 := by omega
    have hb := hb0 rfl
    refine Ops.st_agg 2 1 (hB.later hb) rfl rfl rfl rfl rfl rfl rfl ?_
    intro w9 hS9
    refine Ops.nil ?_
    exact AfterT.st rfl hS9
  · intro e1 w1 cc hlo hhi hb0 hp hun hq
    show Ops _ _ _ _ _ _ _
    replace hlo := le_of_lo hlo (b := 1) (by kernel_rfl)
    replace hhi := le_of_hi hhi (b := 1) (by kernel_rfl)
    obtain rfl : cc = 1 := by omega
    have hph := hp 2 _ _ (by kernel_rfl) rfl rfl (by kernel_rfl)
    have hT : St w _ _ := hph
    refine Ops.st_agg 2 0 hT rfl rfl rfl rfl rfl rfl rfl ?_
    intro w9 hS9
    refine Ops.nil ?_
    exact AfterT.st rfl hS9
  intro u w5 _ hu
  have hT := hu 3 _ rfl (by kernel_rfl)
  have hT : St w w5 (cxB A3 W A7 G.length c7 :: cxB A2 V A n c :: cxB A8 W A7 G.length c7 :: cxB A5 V A n c :: (mat 25 2 A n c rs F ++ (mat 25 2 A7 G.length c7 rs7 G ++ []))) := hT
  refine thenQ_n ?_
  refine Cd.ret ?_
  skip
  refine retcc_r rfl (hT.rd 1 rfl) rfl (hT.rd 0 rfl) ?_
  exact ⟨V, n, F, A, c, rs, W, G, A7, c7, rs7, rfl, hV, hn, hrl, hFl, hC, hrl7, hT.tail.tail.tail.tail⟩

/-! sums and products -/
theorem sumq_c (A : Option Addr) (n c : Nat) (f : List Int) (w : World) (hR : RdI w A n f) (hn : n ≤ 1000) (hb : ∀ i, i < n → -1000000000 ≤ gi f (i : Int) ∧ gi f (i : Int) ≤ 1000000000) :
  Ret Tryz.prog 52 [.slice A n c] w (fun v w' => v = .int .i64 (sumN n fun i => gi f (i : Int)) ∧ w' = w) := by
 have hfl := hR.1
 have hbd : ∀ k, k ≤ n → -1000000000000 ≤ sumN k (fun i => gi f (i : Int)) ∧ sumN k (fun i => gi f (i : Int)) ≤ 1000000000000 := fun k hk => by
  have h1 := sumN_bd (g := fun i => gi f (i : Int)) (b := 1000000000) (by omega) (n := k) fun i hi => hb i (by omega)
  have h2 : (k : Int) * 1000000000 ≤ 1000000000000 := by omega
  omega
 refine Ret.of_cd Tryz.func52 rfl Tryz.ntmps52 rfl (post1 rfl) ?_
 refine Cd.seq ?_
 refine Cd.region ?_
 refine Ops.mv_int rfl rfl rfl ?_
 refine Ops.nil ?_
 refine thenQ_n ?_
 refine Cd.seq ?_
 refine Cd.region ?_
 refine Ops.mv_int rfl rfl rfl ?_
 refine Ops.nil ?_
 refine thenQ_n ?_
 refine Cd.seq ?_
 refine Cd.seq ?_
 refine Cd.region ?_
 refine Ops.mv_int rfl rfl rfl ?_
 refine Ops.nil ?_
 refine thenQ_n ?_
 refine Cd.block ?_
 refine Cd.loop (α := Nat) (fun i => [(0, .slice A n c), (3, .int .i64 (sumN i fun i => gi f (i : Int))), (4, .int .i64 (i : Int))]) (fun i w' => w' = w ∧ i ≤ n) (fun i => n - i) 0 ⟨rfl, rfl, rfl, trivial⟩ ⟨rfl, Nat.zero_le _⟩ ?_
 rintro i e w ⟨rfl, hi⟩
 have h0 := hbd i hi
 refine Cd.seq ?_
 refine Cd.seq ?_
 refine Cd.region ?_
 refine Ops.mv_int rfl rfl rfl ?_
 refine Ops.mv_sl rfl rfl rfl ?_
 refine Ops.len rfl rfl ?_
 refine Ops.lss rfl rfl rfl ?_
 refine Ops.nil ?_
 refine thenQ_n ?_
 refine Cd.cond_p _ rfl (fun h3 => ?_) (fun h3 => ?_)
 ·have h1 := hbd (i + 1) (by omega)
  have h2 : sumN (i + 1) (fun i => gi f (i : Int)) = sumN i (fun i => gi f (i : Int)) + gi f (i : Int) := rfl
  refine Cd.skip ?_
  refine thenQ_n ?_
  refine Cd.seq ?_
  refine Cd.block ?_
  refine Cd.region ?_
  refine Ops.mv_int rfl rfl rfl ?_
  refine Ops.mv_sl rfl rfl rfl ?_
  refine Ops.mv_int rfl rfl rfl ?_
  refine Ops.idx hR.2 rfl rfl rfl (by omega) (by omega) ?_
  refine Ops.ld_int hR rfl (by omega) rfl rfl ?_
  refine Ops.add rfl rfl rfl (by omega) ?_
  refine Ops.mv_int rfl rfl rfl ?_
  refine Ops.nil ?_
  refine blockQ_n ?_
  refine thenQ_n ?_
  refine Cd.region ?_
  refine Ops.mv_int rfl rfl rfl ?_
  refine Ops.add rfl rfl rfl (by omega) ?_
  refine Ops.mv_int rfl rfl rfl ?_
  refine Ops.nil ?_
  refine thenQ_n ?_
  exact ⟨i + 1, by show n - (i + 1) < n - i; omega, ⟨rfl, rfl, rfl, trivial⟩, rfl, by omega⟩
 ·have hin : i = n := by omega
  subst hin
  refine Cd.exit ?_
  refine thenQ_x ?_
  refine thenQ_x ?_
  refine blockQ_x ?_
  refine thenQ_n ?_
  refine Cd.seq ?_
  refine Cd.region ?_
  refine Ops.mv_int rfl rfl rfl ?_
  refine Ops.mv_int rfl rfl rfl ?_
  refine Ops.nil ?_
  refine thenQ_n ?_
  refine Cd.ret ?_
  refine ret1_i rfl ?_
  exact ⟨rfl, rfl⟩

/-- the terms of a product, as they are met -/
def pdG (a b : List Int) (p i : Nat) : Int := a.getD i 0 * (if i ≤ p then b.getD (p - i) 0 else 0)
def pdE (a b : List Int) (i k p : Nat) : Int := sumN i (pdG a b p) + (if i ≤ p ∧ p - i < k then gi a (i : Int) * gi b ((p - i : Nat) : Int) else 0)
def pdL (a b : List Int) (i k : Nat) : List Int := (List.range (a.length + b.length - 1)).map (pdE a b i k)
theorem pdL_len (a b : List Int) (i k : Nat) : (pdL a b i k).length = a.length + b.length - 1 := by simp [pdL]
theorem pdL_at {a b : List Int} {i k p : Nat} (h : p < a.length + b.length - 1) : gi (pdL a b i k) (p : Int) = pdE a b i k p := by
 rw [gi_mem (by rw [pdL_len]; exact h)]; simp [pdL]
theorem pdL_zero (a b : List Int) : List.replicate (a.length + b.length - 1) 0 = pdL a b 0 0 := by
 unfold pdL
 rw [List.map_congr_left (g := fun _ => (0 : Int)) fun p _ => by simp [pdE, sumN], List.map_const', List.length_range]
theorem pdL_set {a b : List Int} {i k : Nat} (hi : i < a.length) (hk : k < b.length) : (pdL a b i k).set (i + k) (pdE a b i k (i + k) + gi a (i : Int) * gi b (k : Int)) = pdL a b i (k + 1) := by
 apply List.ext_getElem
 ·rw [List.length_set, pdL_len, pdL_len]
 ·intro p h1 h2
  rw [List.getElem_set]
  simp only [pdL, List.getElem_map, List.getElem_range]
  by_cases hp : i + k = p
  ·subst hp
   rw [if_pos rfl]
   unfold pdE
   rw [if_neg (by omega), if_pos ⟨by omega, by omega⟩, show i + k - i = k by omega]
   omega
  ·rw [if_neg hp]
   unfold pdE
   by_cases h3 : i ≤ p ∧ p - i < k
   ·rw [if_pos h3, if_pos ⟨h3.1, by omega⟩]
   ·rw [if_neg h3, if_neg (by omega)]
theorem pdL_next {a b : List Int} {i : Nat} : pdL a b i b.length = pdL a b (i + 1) 0 := by
 refine List.map_congr_left fun p _ => ?_
 unfold pdE
 rw [if_neg (show ¬ (i + 1 ≤ p ∧ p - (i + 1) < 0) by omega)]
 show _ = sumN i (pdG a b p) + pdG a b p i + 0
 rw [Int.add_zero]
 congr 1
 unfold pdG
 by_cases h : i ≤ p
 ·rw [if_pos h]
  by_cases h2 : p - i < b.length
  ·rw [if_pos ⟨h, h2⟩]; rfl
  ·rw [if_neg (fun h' => h2 h'.2), List.getD_eq_getElem?_getD (l := b), List.getElem?_eq_none (by omega)]; simp
 ·rw [if_neg (fun h' => h h'.1), if_neg h]; simp
theorem sumN_more {g : Nat → Int} {n : Nat} : ∀ {m : Nat}, n ≤ m → (∀ i, n ≤ i → g i = 0) → sumN m g = sumN n g
 | 0, h, _ => by rw [show n = 0 by omega]
 | m + 1, h, h0 => by
  by_cases e : n = m + 1
  ·rw [e]
  ·rw [sumN, sumN_more (m := m) (by omega) h0, h0 m (by omega)]; simp
theorem pdL_end {a b : List Int} (ha : a ≠ []) (hb : b ≠ []) : pdL a b a.length 0 = cvl a b := by
 refine list_ext0 (by rw [pdL_len, cvl_len hb ha]) fun p => ?_
 rw [cvl_at]
 by_cases hp : p < a.length + b.length - 1
 ·have := pdL_at (a := a) (b := b) (i := a.length) (k := 0) hp
  have e1 : (pdL a b a.length 0).getD p 0 = pdE a b a.length 0 p := this
  rw [e1]
  unfold pdE conv
  rw [if_neg (by omega), Int.add_zero]
  rw [← sumN_more (n := a.length) (m := max a.length (p + 1)) (by omega) fun i hi => by
   unfold pdG
   rw [List.getD_eq_getElem?_getD, List.getElem?_eq_none hi]; simp]
  rw [sumN_more (n := p + 1) (by omega) fun i hi => by unfold pdG; rw [if_neg (by omega)]; simp]
  exact sumN_congr fun i hi => by unfold pdG; rw [if_pos (by omega)]
 ·have h0 := cvl_at a b p
  rw [← h0]
  rw [List.getD_eq_getElem?_getD, List.getElem?_eq_none (by rw [pdL_len]; omega), List.getD_eq_getElem?_getD, List.getElem?_eq_none (by rw [cvl_len hb ha]; omega)]
theorem mul_bd2 {a b x y : Int} (ha : -b ≤ a ∧ a ≤ b) (hb : 0 ≤ b) (hx : -y ≤ x ∧ x ≤ y) (hy : 0 ≤ y) : -(b * y) ≤ a * x ∧ a * x ≤ b * y := by
 by_cases h : 0 ≤ a
 ·exact mul_bd ⟨h, ha.2⟩ hx
 ·have := mul_bd (a := -a) (b := b) (x := x) (y := y) ⟨by omega, by omega⟩ hx
  rw [Int.neg_mul] at this
  omega
theorem pdE_bd {a b : List Int} {i k p : Nat} (hi : i ≤ a.length) (ha7 : a.length ≤ 7) (ha : ∀ j : Nat, -20000000 ≤ a.getD j 0 ∧ a.getD j 0 ≤ 20000000) (hb : ∀ j : Nat, -20000000 ≤ b.getD j 0 ∧ b.getD j 0 ≤ 20000000) : -4000000000000000 ≤ pdE a b i k p ∧ pdE a b i k p ≤ 4000000000000000 := by
 have h1 := sumN_bd (g := pdG a b p) (b := 400000000000000) (by omega) (n := i) fun j _ => by
  unfold pdG
  have hx : -20000000 ≤ (if j ≤ p then b.getD (p - j) 0 else 0) ∧ (if j ≤ p then b.getD (p - j) 0 else 0) ≤ 20000000 := by
   split
   ·exact hb _
   ·omega
  have := mul_bd2 (b := 20000000) (y := 20000000) (ha j) (by omega) hx (by omega)
  omega
 have h2 : (i : Int) * 400000000000000 ≤ 2800000000000000 := by omega
 have h3 := mul_bd2 (b := 20000000) (y := 20000000) (ha i) (by omega) (hb (p - i)) (by omega)
 have h4 : gi a (i : Int) * gi b ((p - i : Nat) : Int) = a.getD i 0 * b.getD (p - i) 0 := rfl
 unfold pdE
 split <;> omega

set_option maxHeartbeats 1000000 in
theorem product9_c (A : Option Addr) (n c : Nat) (a : List Int) (B : Option Addr) (m d : Nat) (b : List Int) (w : World) (hR : RdI w A n a) (hQ : RdI w B m b) (hn : 1 ≤ n ∧ n ≤ 7) (hm : 1 ≤ m ∧ m ≤ 7) (ha : ∀ j : Nat, -20000000 ≤ a.getD j 0 ∧ a.getD j 0 ≤ 20000000) (hb : ∀ j : Nat, -20000000 ≤ b.getD j 0 ∧ b.getD j 0 ≤ 20000000) :
  Ret Tryz.prog 53 [.slice A n c, .slice B m d] w (fun v w' => ∃ A' c', v = .slice A' (cvl a b).length c' ∧ St w w' [CkI 2 A' (cvl a b).length c' (cvl a b)]) := by
 have hal := hR.1
 have hbl := hQ.1
 have ha0 : a ≠ [] := fun e => by rw [e] at hal; simp at hal; omega
 have hb0 : b ≠ [] := fun e => by rw [e] at hbl; simp at hbl; omega
 have hcl : (cvl a b).length = n + m - 1 := by rw [cvl_len hb0 ha0, hal, hbl]
 refine Ret.of_cd Tryz.func53 rfl Tryz.ntmps53 rfl (post1 rfl) ?_
 refine Cd.seq ?_
 refine Cd.region ?_
 refine Ops.mv_sl rfl rfl rfl ?_
 refine Ops.nil ?_
 refine thenQ_n ?_
 refine Cd.seq ?_
 refine Cd.seq ?_
 refine Cd.region ?_
 refine Ops.mv_sl rfl rfl rfl ?_
 refine Ops.len rfl rfl ?_
 refine Ops.eql rfl rfl rfl ?_
 refine Ops.mv_bool rfl rfl rfl ?_
 refine Ops.split_p 11 rfl (fun h => by omega) (fun _ => ?_) --f
 refine Ops.rung rfl rfl rfl ?_
 refine Ops.mv_sl rfl rfl rfl ?_
 refine Ops.rung rfl rfl rfl ?_
 refine Ops.len rfl rfl ?_
 refine Ops.rung rfl rfl rfl ?_
 refine Ops.eql rfl rfl rfl ?_
 refine Ops.pick_f rfl rfl rfl ?_
 refine Ops.nil ?_
 refine thenQ_n ?_
 refine Cd.cond_pf rfl (by omega) ?_
 refine Cd.skip ?_
 refine thenQ_n ?_
 refine Cd.seq ?_
 refine Cd.region ?_
 refine Ops.mv_sl rfl rfl rfl ?_
 refine Ops.len rfl rfl ?_
 refine Ops.mv_sl rfl rfl rfl ?_
 refine Ops.len rfl rfl ?_
 refine Ops.add rfl rfl rfl (by omega) ?_
 refine Ops.sub rfl rfl rfl (by omega) ?_
 refine Ops.mkI (n + m - 1) (St.refl w) (by show Value.int .i64 ((n : Int) + m - 1) = _; congr 1; omega) rfl (by omega) ?_
 intro A5 w1 hS1
 have hS1 : St w w1 [CkI 2 A5 (n + m - 1) (n + m - 1) (pdL a b 0 0)] := by rw [← pdL_zero, hal, hbl]; exact hS1
 refine Ops.mv_sl rfl rfl rfl ?_
 refine Ops.nil ?_
 refine thenQ_n ?_
 refine Cd.seq ?_
 refine Cd.seq ?_
 refine Cd.region ?_
 refine Ops.mv_int rfl rfl rfl ?_
 refine Ops.nil ?_
 refine thenQ_n ?_
 refine Cd.block ?_
 refine Cd.loop (α := Nat) (fun i => [(0, .slice A n c), (1, .slice B m d), (5, .slice A5 (n + m - 1) (n + m - 1)), (6, .int .i64 (i : Int))]) (fun i w' => i ≤ n ∧ St w w' [CkI 2 A5 (n + m - 1) (n + m - 1) (pdL a b i 0)]) (fun i => n - i) 0 ⟨rfl, rfl, rfl, rfl, trivial⟩ ⟨Nat.zero_le _, hS1⟩ ?_
 clear hS1
 rintro i e w2 ⟨hi, hS2⟩
 refine Cd.seq ?_
 refine Cd.seq ?_
 refine Cd.region ?_
 refine Ops.mv_int rfl rfl rfl ?_
 refine Ops.mv_sl rfl rfl rfl ?_
 refine Ops.len rfl rfl ?_
 refine Ops.lss rfl rfl rfl ?_
 refine Ops.nil ?_
 refine thenQ_n ?_
 refine Cd.cond_p _ rfl (fun h1 => ?_) (fun h1 => ?_)
 ·refine Cd.skip ?_
  refine thenQ_n ?_
  refine Cd.seq ?_
  refine Cd.block ?_
  refine Cd.seq ?_
  refine Cd.region ?_
  refine Ops.mv_int rfl rfl rfl ?_
  refine Ops.nil ?_
  refine thenQ_n ?_
  refine Cd.block ?_
  refine Cd.loop (α := Nat) (fun k => [(0, .slice A n c), (1, .slice B m d), (5, .slice A5 (n + m - 1) (n + m - 1)), (6, .int .i64 (i : Int)), (7, .int .i64 (k : Int))]) (fun k w' => k ≤ m ∧ St w w' [CkI 2 A5 (n + m - 1) (n + m - 1) (pdL a b i k)]) (fun k => m - k) 0 ⟨rfl, rfl, rfl, rfl, rfl, trivial⟩ ⟨Nat.zero_le _, hS2⟩ ?_
  clear hS2
  rintro k e wB ⟨hk, hS3⟩
  refine Cd.seq ?_
  refine Cd.seq ?_
  refine Cd.region ?_
  refine Ops.mv_int rfl rfl rfl ?_
  refine Ops.mv_sl rfl rfl rfl ?_
  refine Ops.len rfl rfl ?_
  refine Ops.lss rfl rfl rfl ?_
  refine Ops.nil ?_
  refine thenQ_n ?_
  refine Cd.cond_p _ rfl (fun h2 => ?_) (fun h2 => ?_)
  ·have hR3 := hS3.oldI hR
   have hQ3 := hS3.oldI hQ
   have hO : RdI wB A5 (n + m - 1) (pdL a b i k) := hS3.rdI 0 rfl
   have hat : gi (pdL a b i k) ((i : Int) + k) = pdE a b i k (i + k) := by
    have := pdL_at (a := a) (b := b) (i := i) (k := k) (p := i + k) (by omega)
    rwa [Int.natCast_add] at this
   have hE := pdE_bd (a := a) (b := b) (i := i) (k := k) (p := i + k) (by omega) (by omega) ha hb
   have hx := mul_bd2 (b := 20000000) (y := 20000000) (ha i) (by omega) (hb k) (by omega)
   have hx2 : gi a (i : Int) * gi b (k : Int) = a.getD i 0 * b.getD k 0 := rfl
   have hset := pdL_set (a := a) (b := b) (i := i) (k := k) (by omega) (by omega)
   have hpl := pdL_len a b i k
   refine Cd.skip ?_
   refine thenQ_n ?_
   refine Cd.seq ?_
   refine Cd.block ?_
   refine Cd.drawN [21] [.ex (.slice (A5) (n + m - 1) (n + m - 1)), .ex (.int .i64 ((i : Int))), .ex (.int .i64 ((k : Int))), .ex (.int .i64 (((i : Int)) + ((k : Int)))), .ex (.slice (A5) (n + m - 1) (n + m - 1)), .ex (.int .i64 ((i : Int))), .ex (.int .i64 ((k : Int))), .ex (.int .i64 (((i : Int)) + ((k : Int)))), .ex (.pointer (ptrAt (A5) (((i : Int)) + ((k : Int))).toNat)), .ex (.int .i64 (gi (pdL a b i k) (((i : Int)) + ((k : Int))))), .ex (.slice (A) (n) (c)), .ex (.int .i64 ((i : Int))), .ex (.pointer (ptrAt (A) ((i : Int)).toNat)), .ex (.int .i64 (gi (a) ((i : Int)))), .ex (.slice (B) (m) (d)), .ex (.int .i64 ((k : Int))), .ex (.pointer (ptrAt (B) ((k : Int)).toNat)), .ex (.int .i64 (gi (b) ((k : Int)))), .ex (.int .i64 (gi a (i : Int) * gi b (k : Int))), .ex (.int .i64 ((gi (pdL a b i k) (((i : Int)) + ((k : Int)))) + (gi a (i : Int) * gi b (k : Int)))), .ex (.pointer (ptrAt (A5) (((i : Int)) + ((k : Int))).toNat)), .pr (fun _ w' => St w w' [CkI 2 A5 (n + m - 1) (n + m - 1) (pdL a b i (k + 1))])] (by kernel_rfl) (by kernel_rfl) (List.forall_mem_cons.2 ⟨Yd.lasts_ex _, (List.forall_mem_cons.2 ⟨Yd.lasts_ex _, (List.forall_mem_cons.2 ⟨Yd.lasts_ex _, (List.forall_mem_cons.2 ⟨Yd.lasts_ex _, (List.forall_mem_cons.2 ⟨Yd.lasts_ex _, (List.forall_mem_cons.2 ⟨Yd.lasts_ex _, (List.forall_mem_cons.2 ⟨Yd.lasts_ex _, (List.forall_mem_cons.2 ⟨Yd.lasts_ex _, (List.forall_mem_cons.2 ⟨Yd.lasts_ex _, (List.forall_mem_cons.2 ⟨Yd.lasts_ex _, (List.forall_mem_cons.2 ⟨Yd.lasts_ex _, (List.forall_mem_cons.2 ⟨Yd.lasts_ex _, (List.forall_mem_cons.2 ⟨Yd.lasts_ex _, (List.forall_mem_cons.2 ⟨Yd.lasts_ex _, (List.forall_mem_cons.2 ⟨Yd.lasts_ex _, (List.forall_mem_cons.2 ⟨Yd.lasts_ex _, (List.forall_mem_cons.2 ⟨Yd.lasts_ex _, (List.forall_mem_cons.2 ⟨Yd.lasts_ex _, (List.forall_mem_cons.2 ⟨Yd.lasts_ex _, (List.forall_mem_cons.2 ⟨Yd.lasts_ex _, (List.forall_mem_cons.2 ⟨Yd.lasts_ex _, (List.forall_mem_cons.2 ⟨Yd.lasts_pr (fun v w w' h hb => h.later hb), (fun _ h => by cases h)⟩)⟩)⟩)⟩)⟩)⟩)⟩)⟩)⟩)⟩)⟩)⟩)⟩)⟩)⟩)⟩)⟩)⟩)⟩)⟩)⟩)⟩) ⟨?_, ?_, ?_, ?_, ?_, ?_, ?_, ?_, ?_, ?_, ?_, ?_, ?_, ?_, ?_, ?_, ?_, ?_, ?_, ?_, ?_, ?_, trivial⟩ ?_
   ·intro e1 w1 cc hlo hhi hb0 hp hun hq
    show Ops _ _ _ _ _ _ _
    refine Ops.mv_sl rfl rfl rfl ?_
    refine Ops.nil ?_
    exact AfterN.dn rfl (Below.refl _ _) (by exact rfl)
   ·intro e1 w1 cc hlo hhi hb0 hp hun hq
    show Ops _ _ _ _ _ _ _
    refine Ops.mv_int rfl rfl rfl ?_
    refine Ops.nil ?_
    exact AfterN.dn rfl (Below.refl _ _) (by exact rfl)
   ·intro e1 w1 cc hlo hhi hb0 hp hun hq
    show Ops _ _ _ _ _ _ _
    refine Ops.mv_int rfl rfl rfl ?_
    refine Ops.nil ?_
    exact AfterN.dn rfl (Below.refl _ _) (by exact rfl)
   ·intro e1 w1 cc hlo hhi hb0 hp hun hq
    show Ops _ _ _ _ _ _ _
    refine Ops.add rfl rfl rfl (by omega) ?_
    refine Ops.nil ?_
    exact AfterN.dn rfl (Below.refl _ _) (by exact rfl)
   ·intro e1 w1 cc hlo hhi hb0 hp hun hq
    show Ops _ _ _ _ _ _ _
    refine Ops.mv_sl rfl rfl rfl ?_
    refine Ops.nil ?_
    exact AfterN.dn rfl (Below.refl _ _) (by exact rfl)
   ·intro e1 w1 cc hlo hhi hb0 hp hun hq
    show Ops _ _ _ _ _ _ _
    refine Ops.mv_int rfl rfl rfl ?_
    refine Ops.nil ?_
    exact AfterN.dn rfl (Below.refl _ _) (by exact rfl)
   ·intro e1 w1 cc hlo hhi hb0 hp hun hq
    show Ops _ _ _ _ _ _ _
    refine Ops.mv_int rfl rfl rfl ?_
    refine Ops.nil ?_
    exact AfterN.dn rfl (Below.refl _ _) (by exact rfl)
   ·intro e1 w1 cc hlo hhi hb0 hp hun hq
    show Ops _ _ _ _ _ _ _
    refine Ops.add rfl rfl rfl (by omega) ?_
    refine Ops.nil ?_
    exact AfterN.dn rfl (Below.refl _ _) (by exact rfl)
   ·intro e1 w1 cc hlo hhi hb0 hp hun hq
    show Ops _ _ _ _ _ _ _
    replace hlo := le_of_lo hlo (b := 0) (by kernel_rfl)
    replace hhi := le_of_hi hhi (b := 0) (by kernel_rfl)
    obtain rfl : cc = 0 := by omega
    have hb := hb0 rfl
    refine Ops.idx (hO.later hb).2 rfl rfl rfl (by omega) (by omega) ?_
    refine Ops.nil ?_
    exact AfterN.dn rfl (Below.refl _ _) (by exact rfl)
   ·intro e1 w1 cc hlo hhi hb0 hp hun hq
    show Ops _ _ _ _ _ _ _
    replace hlo := le_of_lo hlo (b := 0) (by kernel_rfl)
    replace hhi := le_of_hi hhi (b := 0) (by kernel_rfl)
    obtain rfl : cc = 0 := by omega
    have hb := hb0 rfl
    refine Ops.ld_int (hO.later hb) rfl (by omega) rfl rfl ?_
    refine Ops.nil ?_
    exact AfterN.dn rfl (Below.refl _ _) (by exact rfl)
   ·intro e1 w1 cc hlo hhi hb0 hp hun hq
    show Ops _ _ _ _ _ _ _
    refine Ops.mv_sl rfl rfl rfl ?_
    refine Ops.nil ?_
    exact AfterN.dn rfl (Below.refl _ _) (by exact rfl)
   ·intro e1 w1 cc hlo hhi hb0 hp hun hq
    show Ops _ _ _ _ _ _ _
    refine Ops.mv_int rfl rfl rfl ?_
    refine Ops.nil ?_
    exact AfterN.dn rfl (Below.refl _ _) (by exact rfl)
   ·intro e1 w1 cc hlo hhi hb0 hp hun hq
    show Ops _ _ _ _ _ _ _
    replace hlo := le_of_lo hlo (b := 0) (by kernel_rfl)
    replace hhi := le_of_hi hhi (b := 0) (by kernel_rfl)
    obtain rfl : cc = 0 := by omega
    have hb := hb0 rfl
    refine Ops.idx (hR3.later hb).2 rfl rfl rfl (by omega) (by omega) ?_
    refine Ops.nil ?_
    exact AfterN.dn rfl (Below.refl _ _) (by exact rfl)
   ·intro e1 w1 cc hlo hhi hb0 hp hun hq
    show Ops _ _ _ _ _ _ _
    replace hlo := le_of_lo hlo (b := 0) (by kernel_rfl)
    replace hhi := le_of_hi hhi (b := 0) (by kernel_rfl)
    obtain rfl : cc = 0 := by omega
    have hb := hb0 rfl
    refine Ops.ld_int (hR3.later hb) rfl (by omega) rfl rfl ?_
    refine Ops.nil ?_
    exact AfterN.dn rfl (Below.refl _ _) (by exact rfl)
   ·intro e1 w1 cc hlo hhi hb0 hp hun hq
    show Ops _ _ _ _ _ _ _
    refine Ops.mv_sl rfl rfl rfl ?_
    refine Ops.nil ?_
    exact AfterN.dn rfl (Below.refl _ _) (by exact rfl)
   ·intro e1 w1 cc hlo hhi hb0 hp hun hq
    show Ops _ _ _ _ _ _ _
    refine Ops.mv_int rfl rfl rfl ?_
    refine Ops.nil ?_
    exact AfterN.dn rfl (Below.refl _ _) (by exact rfl)
   ·intro e1 w1 cc hlo hhi hb0 hp hun hq
    show Ops _ _ _ _ _ _ _
    replace hlo := le_of_lo hlo (b := 0) (by kernel_rfl)
    replace hhi := le_of_hi hhi (b := 0) (by kernel_rfl)
    obtain rfl : cc = 0 := by omega
    have hb := hb0 rfl
    refine Ops.idx (hQ3.later hb).2 rfl rfl rfl (by omega) (by omega) ?_
    refine Ops.nil ?_
    exact AfterN.dn rfl (Below.refl _ _) (by exact rfl)
   ·intro e1 w1 cc hlo hhi hb0 hp hun hq
    show Ops _ _ _ _ _ _ _
    replace hlo := le_of_lo hlo (b := 0) (by kernel_rfl)
    replace hhi := le_of_hi hhi (b := 0) (by kernel_rfl)
    obtain rfl : cc = 0 := by omega
    have hb := hb0 rfl
    refine Ops.ld_int (hQ3.later hb) rfl (by omega) rfl rfl ?_
    refine Ops.nil ?_
    exact AfterN.dn rfl (Below.refl _ _) (by exact rfl)
   ·intro e1 w1 cc hlo hhi hb0 hp hun hq
    show Ops _ _ _ _ _ _ _
    refine Ops.mul rfl rfl rfl (by omega) ?_
    refine Ops.nil ?_
    exact AfterN.dn rfl (Below.refl _ _) (by exact rfl)
   ·intro e1 w1 cc hlo hhi hb0 hp hun hq
    show Ops _ _ _ _ _ _ _
    refine Ops.add rfl rfl rfl (by omega) ?_
    refine Ops.nil ?_
    exact AfterN.dn rfl (Below.refl _ _) (by exact rfl)
   ·intro e1 w1 cc hlo hhi hb0 hp hun hq
    show Ops _ _ _ _ _ _ _
    replace hlo := le_of_lo hlo (b := 0) (by kernel_rfl)
    replace hhi := le_of_hi hhi (b := 0) (by kernel_rfl)
    obtain rfl : cc = 0 := by omega
    have hb := hb0 rfl
    refine Ops.idx (hO.later hb).2 rfl rfl rfl (by omega) (by omega) ?_
    refine Ops.nil ?_
    exact AfterN.dn rfl (Below.refl _ _) (by exact rfl)
   ·intro e1 w1 cc hlo hhi hb0 hp hun hq
    show Ops _ _ _ _ _ _ _
    replace hlo := le_of_lo hlo (b := 0) (by kernel_rfl)
    replace hhi := le_of_hi hhi (b := 0) (by kernel_rfl)
    obtain rfl : cc = 0 := by omega
    have hb := hb0 rfl
    refine Ops.st_int 0 (hS3.later hb) rfl rfl rfl (by omega) ?_
    intro w9 hS9
    refine Ops.nil ?_
    rw [hat, show ((i : Int) + k).toNat = i + k by omega, hset] at hS9
    exact AfterT.st rfl hS9
   intro u w5 _ hu
   have hT := hu 21 _ rfl (by kernel_rfl)
   refine blockQ_n ?_
   refine thenQ_n ?_
   refine Cd.region ?_
   refine Ops.mv_int rfl rfl rfl ?_
   refine Ops.add rfl rfl rfl (by omega) ?_
   refine Ops.mv_int rfl rfl rfl ?_
   refine Ops.nil ?_
   refine thenQ_n ?_
   exact ⟨k + 1, by show m - (k + 1) < m - k; omega, ⟨rfl, rfl, rfl, rfl, rfl, trivial⟩, by omega, hT⟩
  ·have hke : k = b.length := by omega
   rw [hke, pdL_next] at hS3
   refine Cd.exit ?_
   refine thenQ_x ?_
   refine thenQ_x ?_
   refine blockQ_x ?_
   refine blockQ_n ?_
   refine thenQ_n ?_
   refine Cd.region ?_
   refine Ops.mv_int rfl rfl rfl ?_
   refine Ops.add rfl rfl rfl (by omega) ?_
   refine Ops.mv_int rfl rfl rfl ?_
   refine Ops.nil ?_
   refine thenQ_n ?_
   exact ⟨i + 1, by show n - (i + 1) < n - i; omega, ⟨rfl, rfl, rfl, rfl, trivial⟩, by omega, hS3⟩
 ·have hie : i = a.length := by omega
  rw [hie, pdL_end ha0 hb0, ← hcl] at hS2
  refine Cd.exit ?_
  refine thenQ_x ?_
  refine thenQ_x ?_
  refine blockQ_x ?_
  refine thenQ_n ?_
  refine Cd.seq ?_
  refine Cd.region ?_
  refine Ops.mv_sl rfl rfl rfl ?_
  refine Ops.mv_sl rfl rfl rfl ?_
  refine Ops.nil ?_
  refine thenQ_n ?_
  refine Cd.ret ?_
  refine ret1_s rfl ?_
  exact ⟨A5, _, by rw [hcl], hS2⟩
end Go.Proofs.YtdedegbendjmbaaGreatDoor.Vc
/-
 The walk of the law FnVectors: it returns true. Conditions: the library's table of powers of ten holds what the program's text lays there.
-/
namespace Go.Proofs.YtdedegbendjmbaaGreatDoor.Vc
open Go.RowKit

theorem hP_bd {f : List Int} (h7 : f.length ≤ 7) (hb : ∀ x ∈ f, 0 ≤ x ∧ x ≤ 30000) (j : Nat) : -20000000 ≤ (hP f).getD j 0 ∧ (hP f).getD j 0 ≤ 20000000 := by
 rw [hP_at]
 have h1 := pW_bd f (f.length - 1) j (by omega) hb
 have h2 : (f.length : Int) ≤ 7 := by omega
 omega
theorem getD_bd {f : List Int} (hb : ∀ x ∈ f, 0 ≤ x ∧ x ≤ 30000) (j : Nat) : -20000000 ≤ f.getD j 0 ∧ f.getD j 0 ≤ 20000000 := by
 by_cases h : j < f.length
 ·have := gi_bnd hb h
  have e : gi f (j : Int) = f.getD j 0 := rfl
  omega
 ·rw [List.getD_eq_getElem?_getD, List.getElem?_eq_none (by omega)]; simp
theorem jnK_cases (V : Int) (F G : List (List Int)) : jnK V F G = 0 ∨ jnK V F G = 3 := by
 unfold jnK
 split
 ·exact .inr rfl
 ·unfold cxK
  split
  ·exact .inr rfl
  ·exact .inl rfl
theorem jnLs_bd (V : Int) (F G : List (List Int)) : (jnLs V F G).length ≤ 1000 ∧ ∀ x ∈ jnLs V F G, x.length ≤ 1000 := by
 unfold jnLs
 split
 ·simp
 ·unfold cxL
  split
  ·simp
  ·rename_i h
   have h1 : ¬ (∃ l ∈ jnS V F G, 6 < l.length) := fun h' => h (.inl h')
   have h2 : (facP (jnS V F G)).length ≤ 400 := Nat.le_of_not_lt fun h' => h (.inr (.inr h'))
   unfold cxF
   refine ⟨by rw [List.length_map]; omega, fun x hx => ?_⟩
   obtain ⟨l, hl, rfl⟩ := List.mem_map.1 hx
   rw [List.length_map]
   have : ¬ 6 < l.length := fun h' => h1 ⟨l, (facP_mem.1 hl).1, h'⟩
   omega
theorem jcL_bd (V : Int) (F : List (List Int)) (W : Int) (G : List (List Int)) : (jcL V F W G).length ≤ 1000 ∧ ∀ x ∈ jcL V F W G, x.length ≤ 1000 := by
 unfold jcL
 split
 ·exact jnLs_bd V F G
 ·simp
/-- numbers of faces of a join -/
theorem jn_fv {V W : Int} {F G : List (List Int)} (hF : Cplx V F) (hG : Cplx W G) (h : jnK V F G = 0) : fvP (jnLs V F G) = cvl (fvP F) (fvP G) := by
 unfold jnK at h
 unfold jnLs
 by_cases hb : JnBig F G
 ·rw [if_pos hb] at h; exact absurd h (by decide)
 ·rw [if_neg hb] at h
  rw [if_neg hb, fv_cx (jnS_sa hF hG) (cx_ok h)]
  exact fv_joinS (fun f hf x hx => ((hF.row f hf).2.2 x hx).2) fun g hg x hx => ((hG.row g hg).2.2 x hx).1
theorem altT_drop (f : List Int) (i : Nat) : altT (f.drop 1) i = -(gi f ((i + 1 : Nat) : Int) * (1 - 2 * (((i + 1 : Nat) : Int) % 2))) := by
 have e : gi (f.drop 1) (i : Int) = gi f ((i + 1 : Nat) : Int) := by
  show (f.drop 1).getD i 0 = f.getD (i + 1) 0
  cases f <;> simp [List.getD_eq_getElem?_getD]
 unfold altT
 rw [e]
 by_cases h : i % 2 = 0
 ·rw [if_pos h, show ((i + 1 : Nat) : Int) % 2 = 1 by omega]
  simp
 ·rw [if_neg h, show ((i + 1 : Nat) : Int) % 2 = 0 by omega]
  simp

set_option maxHeartbeats 1000000 in
theorem FnVectors_c (Ac : Option Addr) (nc cc : Nat) (bs : List Int) (w : World) (hT : Tab w) (hY : RdY w Ac nc bs) :
  Ret Tryz.prog 8 [.slice Ac nc cc] w (fun v w' => v = .bool true ∧ St w w' []) := by
 refine Ret.of_cd Tryz.func8 rfl Tryz.ntmps8 rfl (post1 rfl) ?_
 refine Cd.seq ?_
 refine Cd.region ?_
 refine Ops.mv_bool rfl rfl rfl ?_
 refine Ops.nil ?_
 refine thenQ_n ?_
 refine Cd.seq ?_
 refine Cd.seq ?_
 refine Cd.region ?_
 refine Ops.mv_sl rfl rfl rfl ?_
 refine Ops.call (big_c Ac nc cc w) rfl rfl rfl ?_
 rintro _ w1 ⟨rfl, hW⟩
 refine Ops.nil ?_
 refine thenQ_n ?_
 refine Cd.cond_p _ rfl (fun h1 => ?_) (fun h1 => ?_)
 ·refine Cd.seq ?_
  refine Cd.region ?_
  refine Ops.mv_bool rfl rfl rfl ?_
  refine Ops.nil ?_
  refine thenQ_n ?_
  refine Cd.ret ?_
  refine thenQ_r ?_
  refine ret1_b rfl ?_
  exact ⟨rfl, hW⟩
 have hT := hT.later hW.below
 have hY := hY.below hW.below
 refine Cd.skip ?_
 refine thenQ_n ?_
 refine Cd.seq ?_
 refine Cd.region ?_
 refine Ops.mv_sl rfl rfl rfl ?_
 refine Ops.call (DrawJoinComplexes_c Ac nc cc bs w1 hY (by omega)) rfl rfl rfl ?_
 rintro _ w2 ⟨V, n, F, A, c, rs, W, G, B, d, ts, rfl, hV, hn, hrl, hFl, hCG, htl, hst⟩
 have hX : RowsI w2 A n rs F := St.rowsI hst hFl
 have hQ : RowsI w2 B G.length ts G := St.rowsI (ks := []) (hst.sub (List.sublist_append_right _ _)) rfl
 have hb := hst.below
 have hW := hW.later hb; have hT := hT.later hb
 clear hst hY
 refine Ops.mv_tup rfl rfl rfl ?_
 refine Ops.extract rfl rfl rfl ?_
 refine Ops.extract rfl rfl rfl ?_
 refine Ops.new2 (St.refl w2) rfl ?_
 intro A3 w3 hU
 refine Ops.new2 hU rfl ?_
 intro A4 w3 hU
 refine Ops.st_agg 2 1 hU rfl rfl rfl rfl rfl rfl rfl ?_
 intro w3 hU
 refine Ops.st_agg 2 0 hU rfl rfl rfl rfl rfl rfl rfl ?_
 intro w4 hU
 have hb := hU.below
 have h3 : Rd w4 A3 2 (fun j => [Value.int .i64 V, .slice A n c].getD j undef) := hU.rd 1 rfl
 have h4 : Rd w4 A4 2 (fun j => [Value.int .i64 W, .slice B G.length d].getD j undef) := hU.rd 0 rfl
 have hW := hW.later hb; have hT := hT.later hb; have hX := hX.later hb; have hQ := hQ.later hb
 clear hU
 have hG4 := hCG.f
 have hg6 : ∀ f ∈ G, f.length ≤ 6 := fun f hf => (hCG.row f hf).1.2
 refine Ops.nil ?_
 refine thenQ_n ?_
 refine Cd.seq ?_
 refine Cd.region ?_
 refine Ops.ld_agg 1 h3 rfl rfl rfl ?_
 refine Ops.call (HVector_c V A n c rs F w4 hT hX (by omega)) rfl rfl rfl ?_
 rintro _ w5 ⟨A5, c5, rfl, hst⟩
 have hH : RdI w5 A5 (hvV V F).length (hvV V F) := hst.rdI 0 rfl
 have hb := hst.below
 have hW := hW.later hb; have hT := hT.later hb; have hX := hX.later hb; have hQ := hQ.later hb; have h3 := Rd.below h3 hb; have h4 := Rd.below h4 hb
 clear hst
 refine Ops.mv_tup rfl rfl rfl ?_
 refine Ops.extract rfl rfl rfl ?_
 refine Ops.extract rfl rfl rfl ?_
 refine Ops.mv_sl rfl rfl rfl ?_
 refine Ops.mv_int rfl rfl rfl ?_
 refine Ops.nil ?_
 refine thenQ_n ?_
 refine Cd.seq ?_
 refine Cd.seq ?_
 refine Cd.region ?_
 refine Ops.ld_agg 1 h3 rfl rfl rfl ?_
 refine Ops.call (specHVector_c V A n c rs F w5 hX (by omega)) rfl rfl rfl ?_
 rintro _ w6 ⟨A6, c6, rfl, hst⟩
 have hH6 : RdI w6 A6 (hvV V F).length (hvV V F) := hst.rdI 0 rfl
 have hb := hst.below
 have hW := hW.later hb; have hT := hT.later hb; have hX := hX.later hb; have hQ := hQ.later hb; have h3 := Rd.below h3 hb; have h4 := Rd.below h4 hb; have hH := hH.later hb
 clear hst
 have hvl : (hvV V F).length ≤ 7 := by
  unfold hvV
  split
  ·rename_i hC
   rw [hP_len, fvP_len]
   have := dpt_bd (b := 6) fun f hf => (hC.row f hf).1.2
   omega
  ·simp
 refine Ops.mv_tup rfl rfl rfl ?_
 refine Ops.extract rfl rfl rfl ?_
 refine Ops.extract rfl rfl rfl ?_
 refine Ops.mv_sl rfl rfl rfl ?_
 refine Ops.mv_int rfl rfl rfl ?_
 refine Ops.nil ?_
 refine thenQ_n ?_
 refine Cd.seq ?_
 refine Cd.region ?_
 refine Ops.mv_int rfl rfl rfl ?_
 refine Ops.mv_int rfl rfl rfl ?_
 refine Ops.neq rfl rfl rfl ?_
 refine Ops.mv_bool rfl rfl rfl ?_
 refine Ops.split_p 47 rfl (fun h => absurd rfl h) (fun _ => ?_) --f
 refine Ops.rung rfl rfl rfl ?_
 refine Ops.mv_sl rfl rfl rfl ?_
 refine Ops.rung rfl rfl rfl ?_
 refine Ops.mv_sl rfl rfl rfl ?_
 refine Ops.rung rfl rfl rfl ?_
 refine Ops.call (likeInts_c A5 _ c5 (hvV V F) A6 _ c6 (hvV V F) w6 hH hH6 (by omega)) rfl rfl rfl ?_
 rintro _ w7 ⟨rfl, hst⟩
 have hb := hst.below
 have hW := hW.later hb; have hT := hT.later hb; have hX := hX.later hb; have hQ := hQ.later hb; have h3 := Rd.below h3 hb; have h4 := Rd.below h4 hb; have hH := hH.later hb
 clear hst hH6
 refine Ops.rung rfl rfl rfl ?_
 first | refine Ops.not_p rfl rfl ?_ | refine Ops.not rfl rfl ?_
 refine Ops.pick_f rfl rfl rfl ?_
 refine Ops.nil ?_
 refine thenQ_n ?_
 refine Cd.cond_pf rfl (fun h => h rfl) ?_
 refine Cd.skip ?_
 refine thenQ_n ?_
 refine Cd.seq ?_
 refine Cd.region ?_
 refine Ops.ld_agg 1 h3 rfl rfl rfl ?_
 refine Ops.ld_agg 1 h4 rfl rfl rfl ?_
 refine Ops.call (implJoin_c V A n c rs F W B G.length d ts G w7 hT hX hQ (by omega) (by omega)) rfl rfl rfl ?_
 rintro _ w8 ⟨A9, c9, rs9, rfl, hrl9, hst⟩
 have hJ : RowsI w8 A9 (jcL V F W G).length rs9 (jcL V F W G) := St.rowsI hst rfl
 have hb := hst.below
 have hW := hW.later hb; have hT := hT.later hb; have hX := hX.later hb; have hQ := hQ.later hb; have h3 := Rd.below h3 hb; have h4 := Rd.below h4 hb; have hH := hH.later hb
 clear hst
 refine Ops.mv_tup rfl rfl rfl ?_
 refine Ops.extract rfl rfl rfl ?_
 refine Ops.extract rfl rfl rfl ?_
 refine Ops.new2 (St.refl w8) rfl ?_
 intro A10 w9 hU
 refine Ops.st_agg 2 0 hU rfl rfl rfl rfl rfl rfl rfl ?_
 intro w10 hU
 have hb := hU.below
 have h9 : Rd w10 A10 2 (fun j => [Value.int .i64 (jcV V F W G), .slice A9 (jcL V F W G).length c9].getD j undef) := hU.rd 0 rfl
 have hJ := hJ.later hb
 have hW := hW.later hb; have hT := hT.later hb; have hX := hX.later hb; have hQ := hQ.later hb; have h3 := Rd.below h3 hb; have h4 := Rd.below h4 hb; have hH := hH.later hb
 clear hU
 refine Ops.mv_int rfl rfl rfl ?_
 refine Ops.nil ?_
 refine thenQ_n ?_
 refine Cd.seq ?_
 refine Cd.seq ?_
 refine Cd.region ?_
 refine Ops.ld_agg 1 h3 rfl rfl rfl ?_
 refine Ops.ld_agg 1 h4 rfl rfl rfl ?_
 refine Ops.call (specJoin_c V A n c rs F W B G.length d ts G w10 hX hQ (by omega) (by omega)) rfl rfl rfl ?_
 rintro _ w11 ⟨A11, c11, rs11, rfl, hrl11, hst⟩
 have hK : RowsI w11 A11 (jcL V F W G).length rs11 (jcL V F W G) := St.rowsI hst rfl
 have hb := hst.below
 have hW := hW.later hb; have hT := hT.later hb; have hX := hX.later hb; have hQ := hQ.later hb; have h3 := Rd.below h3 hb; have h4 := Rd.below h4 hb; have hH := hH.later hb; have hJ := hJ.later hb; have h9 := Rd.below h9 hb
 clear hst
 refine Ops.mv_tup rfl rfl rfl ?_
 refine Ops.extract rfl rfl rfl ?_
 refine Ops.extract rfl rfl rfl ?_
 refine Ops.new2 (St.refl w11) rfl ?_
 intro A12 w12 hU
 refine Ops.st_agg 2 0 hU rfl rfl rfl rfl rfl rfl rfl ?_
 intro w13 hU
 have hb := hU.below
 have h11 : Rd w13 A12 2 (fun j => [Value.int .i64 (jcV V F W G), .slice A11 (jcL V F W G).length c11].getD j undef) := hU.rd 0 rfl
 have hK := hK.later hb
 have hW := hW.later hb; have hT := hT.later hb; have hX := hX.later hb; have hQ := hQ.later hb; have h3 := Rd.below h3 hb; have h4 := Rd.below h4 hb; have hH := hH.later hb; have hJ := hJ.later hb; have h9 := Rd.below h9 hb
 clear hU
 have hjb := jcL_bd V F W G
 refine Ops.mv_int rfl rfl rfl ?_
 refine Ops.nil ?_
 refine thenQ_n ?_
 refine Cd.seq ?_
 refine Cd.region ?_
 refine Ops.mv_int rfl rfl rfl ?_
 refine Ops.mv_int rfl rfl rfl ?_
 refine Ops.neq rfl rfl rfl ?_
 refine Ops.mv_bool rfl rfl rfl ?_
 refine Ops.split_p 68 rfl (fun h => absurd rfl h) (fun _ => ?_) --f
 refine Ops.rung rfl rfl rfl ?_
 refine Ops.ld_agg 1 h9 rfl rfl rfl ?_
 refine Ops.rung rfl rfl rfl ?_
 refine Ops.ld_agg 1 h11 rfl rfl rfl ?_
 refine Ops.rung rfl rfl rfl ?_
 refine Ops.call (likeComplex9_c _ A9 _ c9 rs9 (jcL V F W G) _ A11 _ c11 rs11 (jcL V F W G) w13 hJ hK (by omega) (fun f hf => by have := hjb.2 f hf; omega)) rfl rfl rfl ?_
 rintro _ w14 ⟨rfl, hst⟩
 have hb := hst.below
 have hW := hW.later hb; have hT := hT.later hb; have hX := hX.later hb; have hQ := hQ.later hb; have h3 := Rd.below h3 hb; have h4 := Rd.below h4 hb; have hH := hH.later hb; have hJ := hJ.later hb; have h9 := Rd.below h9 hb
 clear hst hK h11
 refine Ops.rung rfl rfl rfl ?_
 first | refine Ops.not_p rfl rfl ?_ | refine Ops.not rfl rfl ?_
 refine Ops.pick_f rfl rfl rfl ?_
 refine Ops.nil ?_
 refine thenQ_n ?_
 refine Cd.cond_pf rfl (fun h => h ⟨rfl, rfl⟩) ?_
 refine Cd.skip ?_
 refine thenQ_n ?_
 refine Cd.seq ?_
 refine Cd.seq ?_
 refine Cd.region ?_
 refine Ops.mv_int rfl rfl rfl ?_
 refine Ops.neq rfl rfl rfl ?_
 refine Ops.nil ?_
 refine thenQ_n ?_
 refine Cd.cond_p _ rfl (fun h2 => ?_) (fun h2 => ?_)
 ·have hnC : ¬ Cplx V F := fun h => h2 (by unfold hvK; rw [if_pos h])
  have e1 : (hvV V F).length = 0 := by unfold hvV; rw [if_neg hnC]; rfl
  have e2 : hvK V F = 1 := by unfold hvK; rw [if_neg hnC]
  have e3 : jcK V F W G = 1 := by unfold jcK; rw [if_neg (fun h => hnC h.1)]
  refine Cd.seq ?_
  refine Cd.region ?_
  refine Ops.mv_sl rfl rfl rfl ?_
  refine Ops.len rfl rfl ?_
  refine Ops.eql rfl rfl rfl ?_
  refine Ops.mv_bool rfl rfl rfl ?_
  refine Ops.split_p 79 rfl (fun _ => ?_) (fun h => absurd (by omega) h) --t
  refine Ops.rung rfl rfl rfl ?_
  refine Ops.mv_int rfl rfl rfl ?_
  refine Ops.rung rfl rfl rfl ?_
  refine Ops.mv_int rfl rfl rfl ?_
  refine Ops.rung rfl rfl rfl ?_
  refine Ops.eql rfl rfl rfl ?_
  refine Ops.pick_t rfl rfl rfl ?_
  refine Ops.mv_bool rfl rfl rfl ?_
  refine Ops.nil ?_
  refine thenQ_n ?_
  refine Cd.ret ?_
  refine thenQ_r ?_
  refine ret1_b rfl ?_
  exact ⟨by rw [decide_eq_true (show jcK V F W G = hvK V F by rw [e2, e3])], hW⟩
 have hC : Cplx V F := Classical.byContradiction fun h => h2 (by unfold hvK; rw [if_neg h]; decide)
 have hF4 := hC.f
 have hf6 : ∀ f ∈ F, f.length ≤ 6 := fun f hf => (hC.row f hf).1.2
 have hd6 := dpt_bd hf6
 have hdg := dpt_bd hg6
 have eH : hvV V F = hP (fvP F) := by unfold hvV; rw [if_pos hC]
 have eG : hvV W G = hP (fvP G) := by unfold hvV; rw [if_pos hCG]
 have eGK : hvK W G = 0 := by unfold hvK; rw [if_pos hCG]
 have eJ : jcL V F W G = jnLs V F G := by unfold jcL; rw [if_pos ⟨hC, hCG⟩]
 have eJV : jcV V F W G = jnV V F G := by unfold jcV; rw [if_pos ⟨hC, hCG⟩]
 have eJK : jcK V F W G = jnK V F G := by unfold jcK; rw [if_pos ⟨hC, hCG⟩]
 rw [eH] at hH
 rw [eJ] at hJ
 rw [eJ, eJV] at h9
 have hfb := fvP_bd hF4 hf6
 have hgb := fvP_bd hG4 hg6
 have hfl := fvP_len F
 have hgl := fvP_len G
 have hhl := hP_len (fvP F)
 have hgl2 := hP_len (fvP G)
 refine Cd.skip ?_
 refine thenQ_n ?_
 refine Cd.seq ?_
 refine Cd.region ?_
 refine Ops.ld_agg 1 h3 rfl rfl rfl ?_
 refine Ops.call (FVector_c V A n c rs F w14 hT hX hC) rfl rfl rfl ?_
 rintro _ w15 ⟨A13, c13, rfl, hst⟩
 have hf : RdI w15 A13 (fvP F).length (fvP F) := hst.rdI 0 rfl
 have hb := hst.below
 have hW := hW.later hb; have hT := hT.later hb; have hX := hX.later hb; have hQ := hQ.later hb; have h3 := Rd.below h3 hb; have h4 := Rd.below h4 hb; have hH := hH.later hb; have hJ := hJ.later hb; have h9 := Rd.below h9 hb
 clear hst
 refine Ops.mv_tup rfl rfl rfl ?_
 refine Ops.extract rfl rfl rfl ?_
 refine Ops.extract rfl rfl rfl ?_
 refine Ops.mv_sl rfl rfl rfl ?_
 refine Ops.mv_int rfl rfl rfl ?_
 refine Ops.nil ?_
 refine thenQ_n ?_
 refine Cd.seq ?_
 refine Cd.region ?_
 refine Ops.ld_agg 1 h3 rfl rfl rfl ?_
 refine Ops.call (EulerOfComplex_c V A n c rs F w15 hT hX hC) rfl rfl rfl ?_
 rintro _ wB ⟨rfl, hst⟩
 have hb := hst.below
 have hW := hW.later hb; have hT := hT.later hb; have hQ := hQ.later hb; have h4 := Rd.below h4 hb; have hH := hH.later hb; have hJ := hJ.later hb; have h9 := Rd.below h9 hb; have hf := hf.later hb
 clear hst hX h3
 have hsum := sum_hP (f := fvP F) (fvP_ne F)
 have hsum2 : sumN (fvP F).length (fun i => gi (hP (fvP F)) (i : Int)) = gi (fvP F) (((fvP F).length : Int) - 1) := by
  rw [show ((fvP F).length : Int) - 1 = (((fvP F).length - 1 : Nat) : Int) by omega]; exact hsum
 refine Ops.mv_tup rfl rfl rfl ?_
 refine Ops.extract rfl rfl rfl ?_
 refine Ops.extract rfl rfl rfl ?_
 refine Ops.mv_int rfl rfl rfl ?_
 refine Ops.mv_int rfl rfl rfl ?_
 refine Ops.nil ?_
 refine thenQ_n ?_
 refine Cd.seq ?_
 refine Cd.seq ?_
 refine Cd.draw [.ex (.int .i64 ((0 : Int))), .ex (.bool (false)), .ex (.bool (false)), .ex (.int .i64 ((0 : Int))), .ex (.bool (false)), .ex (.bool (false)), .ex (.bool (false)), .ex (.slice (A13) ((fvP F).length) (c13)), .ex (.int .i64 ((((fvP F).length : Nat) : Int))), .ex (.slice (A5) ((hvV V F).length) (c5)), .ex (.int .i64 ((((hvV V F).length : Nat) : Int))), .ex (.bool (false)), .ex (.bool (false)), .ex (.bool (false)), .ex (.slice (A13) ((fvP F).length) (c13)), .ex (.int .i64 ((((fvP F).length : Nat) : Int))), .ex (.bool (false)), .ex (.bool (false)), .ex (.bool (false)), .ex (.slice (A5) ((hvV V F).length) (c5)), .ex (.int .i64 (sumN (fvP F).length (fun i => gi (hP (fvP F)) (i : Int)))), .ex (.slice (A13) ((fvP F).length) (c13)), .ex (.slice (A13) ((fvP F).length) (c13)), .ex (.int .i64 ((((fvP F).length : Nat) : Int))), .ex (.int .i64 (((((fvP F).length : Nat) : Int)) - ((1 : Int)))), .ex (.pointer (ptrAt (A13) (((((fvP F).length : Nat) : Int)) - ((1 : Int))).toNat)), .ex (.int .i64 (gi (fvP F) (((((fvP F).length : Nat) : Int)) - ((1 : Int))))), .ex (.bool (false)), .ex (.bool (false))] (by kernel_rfl) (by kernel_rfl) rfl (List.forall_mem_cons.2 ⟨Yd.lasts_ex _, (List.forall_mem_cons.2 ⟨Yd.lasts_ex _, (List.forall_mem_cons.2 ⟨Yd.lasts_ex _, (List.forall_mem_cons.2 ⟨Yd.lasts_ex _, (List.forall_mem_cons.2 ⟨Yd.lasts_ex _, (List.forall_mem_cons.2 ⟨Yd.lasts_ex _, (List.forall_mem_cons.2 ⟨Yd.lasts_ex _, (List.forall_mem_cons.2 ⟨Yd.lasts_ex _, (List.forall_mem_cons.2 ⟨Yd.lasts_ex _, (List.forall_mem_cons.2 ⟨Yd.lasts_ex _, (List.forall_mem_cons.2 ⟨Yd.lasts_ex _, (List.forall_mem_cons.2 ⟨Yd.lasts_ex _, (List.forall_mem_cons.2 ⟨Yd.lasts_ex _, (List.forall_mem_cons.2 ⟨Yd.lasts_ex _, (List.forall_mem_cons.2 ⟨Yd.lasts_ex _, (List.forall_mem_cons.2 ⟨Yd.lasts_ex _, (List.forall_mem_cons.2 ⟨Yd.lasts_ex _, (List.forall_mem_cons.2 ⟨Yd.lasts_ex _, (List.forall_mem_cons.2 ⟨Yd.lasts_ex _, (List.forall_mem_cons.2 ⟨Yd.lasts_ex _, (List.forall_mem_cons.2 ⟨Yd.lasts_ex _, (List.forall_mem_cons.2 ⟨Yd.lasts_ex _, (List.forall_mem_cons.2 ⟨Yd.lasts_ex _, (List.forall_mem_cons.2 ⟨Yd.lasts_ex _, (List.forall_mem_cons.2 ⟨Yd.lasts_ex _, (List.forall_mem_cons.2 ⟨Yd.lasts_ex _, (List.forall_mem_cons.2 ⟨Yd.lasts_ex _, (List.forall_mem_cons.2 ⟨Yd.lasts_ex _, (List.forall_mem_cons.2 ⟨Yd.lasts_ex _, (fun _ h => by cases h)⟩)⟩)⟩)⟩)⟩)⟩)⟩)⟩)⟩)⟩)⟩)⟩)⟩)⟩)⟩)⟩)⟩)⟩)⟩)⟩)⟩)⟩)⟩)⟩)⟩)⟩)⟩)⟩)⟩) ⟨?_, ?_, ?_, ?_, ?_, ?_, ?_, ?_, ?_, ?_, ?_, ?_, ?_, ?_, ?_, ?_, ?_, ?_, ?_, ?_, ?_, ?_, ?_, ?_, ?_, ?_, ?_, ?_, ?_, trivial⟩ ?_
 ·intro e1 w1 hb hp hun
  refine Ops.mv_int rfl rfl rfl ?_
  refine Ops.nil ?_
  exact After.dn (Below.refl _ _) (by exact rfl)
 ·intro e1 w1 hb hp hun
  refine Ops.neq rfl rfl rfl ?_
  refine Ops.nil ?_
  exact After.dn (Below.refl _ _) (by exact congrArg Value.bool (decide_eq_false (fun h => h rfl)))
 ·intro e1 w1 hb hp hun
  refine Ops.mv_bool rfl rfl rfl ?_
  refine Ops.nil ?_
  exact After.dn (Below.refl _ _) (by exact rfl)
 ·intro e1 w1 hb hp hun
  refine Ops.rung rfl rfl rfl ?_
  refine Ops.mv_int rfl rfl rfl ?_
  refine Ops.nil ?_
  exact After.dn (Below.refl _ _) (by exact rfl)
 ·intro e1 w1 hb hp hun
  refine Ops.rung rfl rfl rfl ?_
  refine Ops.neq rfl rfl rfl ?_
  refine Ops.nil ?_
  exact After.dn (Below.refl _ _) (by exact congrArg Value.bool (decide_eq_false (fun h => h rfl)))
 ·intro e1 w1 hb hp hun
  refine Ops.pick_f rfl rfl rfl ?_
  refine Ops.nil ?_
  exact After.dn (Below.refl _ _) (by exact rfl)
 ·intro e1 w1 hb hp hun
  refine Ops.mv_bool rfl rfl rfl ?_
  refine Ops.nil ?_
  exact After.dn (Below.refl _ _) (by exact rfl)
 ·intro e1 w1 hb hp hun
  refine Ops.rung rfl rfl rfl ?_
  refine Ops.mv_sl rfl rfl rfl ?_
  refine Ops.nil ?_
  exact After.dn (Below.refl _ _) (by exact rfl)
 ·intro e1 w1 hb hp hun
  refine Ops.rung rfl rfl rfl ?_
  refine Ops.len rfl rfl ?_
  refine Ops.nil ?_
  exact After.dn (Below.refl _ _) (by exact rfl)
 ·intro e1 w1 hb hp hun
  refine Ops.rung rfl rfl rfl ?_
  refine Ops.mv_sl rfl rfl rfl ?_
  refine Ops.nil ?_
  exact After.dn (Below.refl _ _) (by exact rfl)
 ·intro e1 w1 hb hp hun
  refine Ops.rung rfl rfl rfl ?_
  refine Ops.len rfl rfl ?_
  refine Ops.nil ?_
  exact After.dn (Below.refl _ _) (by exact rfl)
 ·intro e1 w1 hb hp hun
  refine Ops.rung rfl rfl rfl ?_
  refine Ops.neq rfl rfl rfl ?_
  refine Ops.nil ?_
  exact After.dn (Below.refl _ _) (by exact congrArg Value.bool (decide_eq_false (fun h => h (by rw [eH, hhl]))))
 ·intro e1 w1 hb hp hun
  refine Ops.pick_f rfl rfl rfl ?_
  refine Ops.nil ?_
  exact After.dn (Below.refl _ _) (by exact rfl)
 ·intro e1 w1 hb hp hun
  refine Ops.mv_bool rfl rfl rfl ?_
  refine Ops.nil ?_
  exact After.dn (Below.refl _ _) (by exact rfl)
 ·intro e1 w1 hb hp hun
  refine Ops.rung rfl rfl rfl ?_
  refine Ops.mv_sl rfl rfl rfl ?_
  refine Ops.nil ?_
  exact After.dn (Below.refl _ _) (by exact rfl)
 ·intro e1 w1 hb hp hun
  refine Ops.rung rfl rfl rfl ?_
  refine Ops.len rfl rfl ?_
  refine Ops.nil ?_
  exact After.dn (Below.refl _ _) (by exact rfl)
 ·intro e1 w1 hb hp hun
  refine Ops.rung rfl rfl rfl ?_
  refine Ops.eql rfl rfl rfl ?_
  refine Ops.nil ?_
  exact After.dn (Below.refl _ _) (by exact congrArg Value.bool (decide_eq_false (fun h => by omega)))
 ·intro e1 w1 hb hp hun
  refine Ops.pick_f rfl rfl rfl ?_
  refine Ops.nil ?_
  exact After.dn (Below.refl _ _) (by exact rfl)
 ·intro e1 w1 hb hp hun
  refine Ops.mv_bool rfl rfl rfl ?_
  refine Ops.nil ?_
  exact After.dn (Below.refl _ _) (by exact rfl)
 ·intro e1 w1 hb hp hun
  refine Ops.rung rfl rfl rfl ?_
  refine Ops.mv_sl rfl rfl rfl ?_
  refine Ops.nil ?_
  exact After.dn (Below.refl _ _) (by exact rfl)
 ·intro e1 w1 hb hp hun
  refine Ops.rung rfl rfl rfl ?_
  refine Ops.call (by rw [eH, hhl]; exact sumq_c A5 (fvP F).length c5 (hP (fvP F)) _ (by rw [hhl] at hH; exact hH.later hb) (by omega) (fun i _ => by have := hP_bd (f := fvP F) (by omega) hfb i; have e : gi (hP (fvP F)) (i : Int) = (hP (fvP F)).getD i 0 := rfl; omega)) rfl rfl rfl ?_
  rintro _ w2 ⟨rfl, hst⟩
  subst hst
  refine Ops.nil ?_
  exact After.dn (Below.refl _ _) (by exact rfl)
 ·intro e1 w1 hb hp hun
  refine Ops.rung rfl rfl rfl ?_
  refine Ops.mv_sl rfl rfl rfl ?_
  refine Ops.nil ?_
  exact After.dn (Below.refl _ _) (by exact rfl)
 ·intro e1 w1 hb hp hun
  refine Ops.rung rfl rfl rfl ?_
  refine Ops.mv_sl rfl rfl rfl ?_
  refine Ops.nil ?_
  exact After.dn (Below.refl _ _) (by exact rfl)
 ·intro e1 w1 hb hp hun
  refine Ops.rung rfl rfl rfl ?_
  refine Ops.len rfl rfl ?_
  refine Ops.nil ?_
  exact After.dn (Below.refl _ _) (by exact rfl)
 ·intro e1 w1 hb hp hun
  refine Ops.rung rfl rfl rfl ?_
  refine Ops.sub rfl rfl rfl (by omega) ?_
  refine Ops.nil ?_
  exact After.dn (Below.refl _ _) (by exact rfl)
 ·intro e1 w1 hb hp hun
  refine Ops.rung rfl rfl rfl ?_
  refine Ops.idx (hf.later hb).2 rfl rfl rfl (by omega) (by omega) ?_
  refine Ops.nil ?_
  exact After.dn (Below.refl _ _) (by exact rfl)
 ·intro e1 w1 hb hp hun
  refine Ops.rung rfl rfl rfl ?_
  refine Ops.ld_int (hf.later hb) rfl (by omega) rfl rfl ?_
  refine Ops.nil ?_
  exact After.dn (Below.refl _ _) (by exact rfl)
 ·intro e1 w1 hb hp hun
  refine Ops.rung rfl rfl rfl ?_
  refine Ops.neq rfl rfl rfl ?_
  refine Ops.nil ?_
  exact After.dn (Below.refl _ _) (by exact congrArg Value.bool (decide_eq_false (fun h => h hsum2)))
 ·intro e1 w1 hb hp hun
  refine Ops.pick_f rfl rfl rfl ?_
  refine Ops.nil ?_
  exact After.dn (Below.refl _ _) (by exact rfl)
 intro u w16 hb _
 have hW := hW.later hb; have hT := hT.later hb; have hQ := hQ.later hb; have h4 := Rd.below h4 hb; have hH := hH.later hb; have hJ := hJ.later hb; have h9 := Rd.below h9 hb; have hf := hf.later hb
 refine thenQ_n ?_
 refine Cd.cond_f rfl ?_
 refine Cd.skip ?_
 refine thenQ_n ?_
 refine Cd.seq ?_
 refine Cd.region ?_
 refine Ops.mv_int rfl rfl rfl ?_
 refine Ops.nil ?_
 refine thenQ_n ?_
 refine Cd.seq ?_
 refine Cd.seq ?_
 refine Cd.region ?_
 refine Ops.mv_int rfl rfl rfl ?_
 refine Ops.nil ?_
 refine thenQ_n ?_
 refine Cd.block ?_
 refine Cd.loop (α := Nat) (fun k => [(4, .pointer A4), (5, .slice A5 (hvV V F).length c5), (9, .pointer A10), (10, .int .i64 (jcK V F W G)), (13, .slice A13 (fvP F).length c13), (15, .int .i64 (altS ((fvP F).drop 1))), (17, .int .i64 (sumN k (altT ((fvP F).drop 1)))), (18, .int .i64 ((k + 1 : Nat) : Int))]) (fun k w' => k ≤ dpt F ∧ w' = w16) (fun k => dpt F - k) 0 ⟨rfl, rfl, rfl, rfl, rfl, rfl, rfl, rfl, trivial⟩ ⟨Nat.zero_le _, rfl⟩ ?_
 rintro k e w17 ⟨hk, rfl⟩
 have hdb : ∀ x ∈ (fvP F).drop 1, 0 ≤ x ∧ x ≤ 30000 := fun x hx => hfb x (List.mem_of_mem_drop hx)
 have hdl : ((fvP F).drop 1).length = dpt F := by rw [List.length_drop, hfl]; rfl
 have hbd : ∀ q, q ≤ dpt F → -300000 ≤ sumN q (altT ((fvP F).drop 1)) ∧ sumN q (altT ((fvP F).drop 1)) ≤ 300000 := fun q hq => by
  have h1 := sumN_bd (g := altT ((fvP F).drop 1)) (b := 30000) (by omega) (n := q) fun i hi => altT_bd hdb (by omega)
  omega
 have hb0 := hbd k hk
 refine Cd.seq ?_
 refine Cd.seq ?_
 refine Cd.region ?_
 refine Ops.mv_int rfl rfl rfl ?_
 refine Ops.mv_sl rfl rfl rfl ?_
 refine Ops.len rfl rfl ?_
 refine Ops.lss rfl rfl rfl ?_
 refine Ops.nil ?_
 refine thenQ_n ?_
 refine Cd.cond_p _ rfl (fun h5 => ?_) (fun h5 => ?_)
 ·have hkd : k < dpt F := by omega
  have hb1 := hbd (k + 1) (by omega)
  have hstep : sumN (k + 1) (altT ((fvP F).drop 1)) = sumN k (altT ((fvP F).drop 1)) - gi (fvP F) ((k + 1 : Nat) : Int) * (1 - 2 * (((k + 1 : Nat) : Int) % 2)) := by
   show sumN k _ + altT _ k = _
   rw [altT_drop]; omega
  have hgk := gi_bnd hfb (i := k + 1) (by omega)
  have hsg : 1 - 2 * (((k + 1 : Nat) : Int) % 2) = 1 ∨ 1 - 2 * (((k + 1 : Nat) : Int) % 2) = -1 := by omega
  have hmb : -30000 ≤ gi (fvP F) ((k + 1 : Nat) : Int) * (1 - 2 * (((k + 1 : Nat) : Int) % 2)) ∧ gi (fvP F) ((k + 1 : Nat) : Int) * (1 - 2 * (((k + 1 : Nat) : Int) % 2)) ≤ 30000 := by
   rcases hsg with e | e <;> rw [e] <;> omega
  refine Cd.skip ?_
  refine thenQ_n ?_
  refine Cd.seq ?_
  refine Cd.block ?_
  refine Cd.region ?_
  refine Ops.mv_int rfl rfl rfl ?_
  refine Ops.mv_sl rfl rfl rfl ?_
  refine Ops.mv_int rfl rfl rfl ?_
  refine Ops.idx hf.2 rfl rfl rfl (by omega) (by omega) ?_
  refine Ops.ld_int hf rfl (by omega) rfl rfl ?_
  refine Ops.mv_int rfl rfl rfl ?_
  refine Ops.rem rfl rfl rfl (by omega) ?_
  refine Ops.mul rfl rfl rfl (by omega) ?_
  refine Ops.sub rfl rfl rfl (by omega) ?_
  refine Ops.mul rfl rfl rfl (by omega) ?_
  refine Ops.sub rfl rfl rfl (by omega) ?_
  refine Ops.mv_int rfl rfl rfl ?_
  refine Ops.nil ?_
  refine blockQ_n ?_
  refine thenQ_n ?_
  refine Cd.region ?_
  refine Ops.mv_int rfl rfl rfl ?_
  refine Ops.add rfl rfl rfl (by omega) ?_
  refine Ops.mv_int rfl rfl rfl ?_
  refine Ops.nil ?_
  refine thenQ_n ?_
  exact ⟨k + 1, by show dpt F - (k + 1) < dpt F - k; omega, ⟨rfl, rfl, rfl, rfl, rfl, rfl, by show Value.int .i64 _ = .int .i64 _; rw [hstep], rfl, trivial⟩, by omega, rfl⟩
 have hkd : k = dpt F := by omega
 have halt : sumN k (altT ((fvP F).drop 1)) = altS ((fvP F).drop 1) := by unfold altS; rw [hdl, hkd]
 refine Cd.exit ?_
 refine thenQ_x ?_
 refine thenQ_x ?_
 refine blockQ_x ?_
 refine thenQ_n ?_
 refine Cd.seq ?_
 refine Cd.seq ?_
 refine Cd.region ?_
 refine Ops.mv_int rfl rfl rfl ?_
 refine Ops.mv_int rfl rfl rfl ?_
 refine Ops.neq rfl rfl rfl ?_
 refine Ops.nil ?_
 refine thenQ_n ?_
 refine Cd.cond_pf rfl (fun h => h halt) ?_
 refine Cd.skip ?_
 refine thenQ_n ?_
 refine Cd.seq ?_
 refine Cd.region ?_
 refine Ops.ld_agg 1 h4 rfl rfl rfl ?_
 refine Ops.call (HVector_c W B G.length d ts G _ hT hQ (by omega)) rfl rfl rfl ?_
 rw [eG, eGK]
 rintro _ w18 ⟨A19, c19, rfl, hst⟩
 have hHG : RdI w18 A19 (hP (fvP G)).length (hP (fvP G)) := hst.rdI 0 rfl
 have hb := hst.below
 have hW := hW.later hb; have hT := hT.later hb; have hQ := hQ.later hb; have h4 := Rd.below h4 hb; have hH := hH.later hb; have hJ := hJ.later hb; have h9 := Rd.below h9 hb; have hf := hf.later hb
 clear hst
 have hjc := jnK_cases V F G
 refine Ops.mv_tup rfl rfl rfl ?_
 refine Ops.extract rfl rfl rfl ?_
 refine Ops.extract rfl rfl rfl ?_
 refine Ops.mv_sl rfl rfl rfl ?_
 refine Ops.mv_int rfl rfl rfl ?_
 refine Ops.nil ?_
 refine thenQ_n ?_
 refine Cd.seq ?_
 refine Cd.seq ?_
 refine Cd.region ?_
 refine Ops.mv_int rfl rfl rfl ?_
 refine Ops.neq rfl rfl rfl ?_
 refine Ops.mv_bool rfl rfl rfl ?_
 refine Ops.split_p 150 rfl (fun h6 => ?_) (fun h6 => ?_)
 ·refine Ops.skipg rfl rfl rfl rfl rfl ?_
  refine Ops.skipg rfl rfl rfl rfl rfl ?_
  refine Ops.pick_t rfl rfl rfl ?_
  refine Ops.nil ?_
  refine thenQ_n ?_
  refine Cd.cond_t rfl ?_
  refine Cd.seq ?_
  refine Cd.region ?_
  refine Ops.mv_int rfl rfl rfl ?_
  refine Ops.neq rfl rfl rfl ?_
  refine Ops.mv_bool rfl rfl rfl ?_
  refine Ops.split_p 156 rfl (fun h => absurd rfl h) (fun _ => ?_) --f
  refine Ops.rung rfl rfl rfl ?_
  refine Ops.mv_int rfl rfl rfl ?_
  refine Ops.rung rfl rfl rfl ?_
  refine Ops.eql rfl rfl rfl ?_
  refine Ops.pick_f rfl rfl rfl ?_
  refine Ops.mv_bool rfl rfl rfl ?_
  refine Ops.nil ?_
  refine thenQ_n ?_
  refine Cd.ret ?_
  refine thenQ_r ?_
  refine ret1_b rfl ?_
  exact ⟨by rw [decide_eq_true (show jcK V F W G = 3 by rw [eJK] at h6 ⊢; rcases hjc with h | h; { exact absurd h h6 }; { exact h })], hW⟩
 have h6 := Classical.not_not.1 h6
 rw [eJK] at h6
 have hCJ := jn_cplx hC hCG
 have hjf := jn_fv hC hCG h6
 refine Ops.rung rfl rfl rfl ?_
 refine Ops.mv_int rfl rfl rfl ?_
 refine Ops.rung rfl rfl rfl ?_
 refine Ops.neq rfl rfl rfl ?_
 refine Ops.pick_f rfl rfl rfl ?_
 refine Ops.nil ?_
 refine thenQ_n ?_
 refine Cd.cond_pf rfl (fun h => h rfl) ?_
 have eJh : hvV (jnV V F G) (jnLs V F G) = cvl (hP (fvP F)) (hP (fvP G)) := by unfold hvV; rw [if_pos hCJ, hjf, hP_prod (fvP_ne F) (fvP_ne G)]
 have eJk : hvK (jnV V F G) (jnLs V F G) = 0 := by unfold hvK; rw [if_pos hCJ]
 have hjb2 := jnLs_bd V F G
 refine Cd.skip ?_
 refine thenQ_n ?_
 refine Cd.seq ?_
 refine Cd.region ?_
 refine Ops.ld_agg 1 h9 rfl rfl rfl ?_
 have hcH := HVector_c (jnV V F G) A9 (jnLs V F G).length c9 rs9 (jnLs V F G) w18 hT hJ (by omega)
 rw [eJh, eJk] at hcH
 refine Ops.call hcH rfl rfl rfl ?_
 rintro _ w19 ⟨A21, c21, rfl, hst⟩
 have hB : RdI w19 A21 (cvl (hP (fvP F)) (hP (fvP G))).length (cvl (hP (fvP F)) (hP (fvP G))) := hst.rdI 0 rfl
 have hb := hst.below
 have hHG := hHG.later hb
 have hW := hW.later hb; have hT := hT.later hb; have hQ := hQ.later hb; have h4 := Rd.below h4 hb; have hH := hH.later hb; have hJ := hJ.later hb; have h9 := Rd.below h9 hb; have hf := hf.later hb
 clear hst hcH
 refine Ops.mv_tup rfl rfl rfl ?_
 refine Ops.extract rfl rfl rfl ?_
 refine Ops.extract rfl rfl rfl ?_
 refine Ops.mv_sl rfl rfl rfl ?_
 refine Ops.mv_int rfl rfl rfl ?_
 refine Ops.nil ?_
 refine thenQ_n ?_
 refine Cd.seq ?_
 refine Cd.region ?_
 refine Ops.ld_agg 1 h9 rfl rfl rfl ?_
 have hcF := FVector_c (jnV V F G) A9 (jnLs V F G).length c9 rs9 (jnLs V F G) w19 hT hJ hCJ
 rw [hjf] at hcF
 refine Ops.call hcF rfl rfl rfl ?_
 rintro _ w20 ⟨A23, c23, rfl, hst⟩
 have hO : RdI w20 A23 (cvl (fvP F) (fvP G)).length (cvl (fvP F) (fvP G)) := hst.rdI 0 rfl
 have hb := hst.below
 have hHG := hHG.later hb; have hB := hB.later hb
 have hW := hW.later hb; have hT := hT.later hb; have hQ := hQ.later hb; have h4 := Rd.below h4 hb; have hH := hH.later hb; have hJ := hJ.later hb; have h9 := Rd.below h9 hb; have hf := hf.later hb
 clear hst hcF
 refine Ops.mv_tup rfl rfl rfl ?_
 refine Ops.extract rfl rfl rfl ?_
 refine Ops.extract rfl rfl rfl ?_
 refine Ops.mv_sl rfl rfl rfl ?_
 refine Ops.mv_int rfl rfl rfl ?_
 refine Ops.nil ?_
 refine thenQ_n ?_
 refine Cd.seq ?_
 refine Cd.region ?_
 refine Ops.ld_agg 1 h4 rfl rfl rfl ?_
 refine Ops.call (FVector_c W B G.length d ts G w20 hT hQ hCG) rfl rfl rfl ?_
 rintro _ w21 ⟨A25, c25, rfl, hst⟩
 have hp : RdI w21 A25 (fvP G).length (fvP G) := hst.rdI 0 rfl
 have hb := hst.below
 have hHG := hHG.later hb; have hB := hB.later hb; have hO := hO.later hb; have hH := hH.later hb; have hf := hf.later hb; have hW := hW.later hb
 clear hst
 have hc1 : (cvl (hP (fvP F)) (hP (fvP G))).length ≤ 13 := by
  rw [cvl_len (fun e => by rw [e] at hgl2; simp at hgl2; omega) (fun e => by rw [e] at hhl; simp at hhl; omega)]; omega
 have hc2 : (cvl (fvP F) (fvP G)).length ≤ 13 := by rw [cvl_len (fvP_ne G) (fvP_ne F)]; omega
 refine Ops.mv_tup rfl rfl rfl ?_
 refine Ops.extract rfl rfl rfl ?_
 refine Ops.extract rfl rfl rfl ?_
 refine Ops.mv_sl rfl rfl rfl ?_
 refine Ops.mv_int rfl rfl rfl ?_
 refine Ops.nil ?_
 refine thenQ_n ?_
 refine Cd.seq ?_
 refine Cd.region ?_
 refine Ops.mv_int rfl rfl rfl ?_
 refine Ops.eql rfl rfl rfl ?_
 refine Ops.mv_bool rfl rfl rfl ?_
 refine Ops.split_p 177 rfl (fun _ => ?_) (fun h => absurd rfl h) --t
 refine Ops.rung rfl rfl rfl ?_
 refine Ops.mv_int rfl rfl rfl ?_
 refine Ops.rung rfl rfl rfl ?_
 refine Ops.eql rfl rfl rfl ?_
 refine Ops.pick_t rfl rfl rfl ?_
 refine Ops.mv_bool rfl rfl rfl ?_
 refine Ops.split_p 181 rfl (fun _ => ?_) (fun h => absurd rfl h) --t
 refine Ops.rung rfl rfl rfl ?_
 refine Ops.mv_int rfl rfl rfl ?_
 refine Ops.rung rfl rfl rfl ?_
 refine Ops.eql rfl rfl rfl ?_
 refine Ops.pick_t rfl rfl rfl ?_
 refine Ops.mv_bool rfl rfl rfl ?_
 refine Ops.split_p 185 rfl (fun _ => ?_) (fun h => absurd rfl h) --t
 refine Ops.rung rfl rfl rfl ?_
 refine Ops.mv_sl rfl rfl rfl ?_
 refine Ops.rung rfl rfl rfl ?_
 refine Ops.mv_sl rfl rfl rfl ?_
 refine Ops.rung rfl rfl rfl ?_
 refine Ops.mv_sl rfl rfl rfl ?_
 refine Ops.rung rfl rfl rfl ?_
 refine Ops.call (product9_c A5 (hP (fvP F)).length c5 (hP (fvP F)) A19 _ c19 (hP (fvP G)) w21 hH hHG (by omega) (by omega) (hP_bd (by omega) hfb) (hP_bd (by omega) hgb)) rfl (by rw [eH]; rfl) rfl ?_
 rintro _ w22 ⟨A26, c26, rfl, hst⟩
 have hR : RdI w22 A26 (cvl (hP (fvP F)) (hP (fvP G))).length (cvl (hP (fvP F)) (hP (fvP G))) := hst.rdI 0 rfl
 have hb := hst.below
 have hB := hB.later hb; have hO := hO.later hb; have hf := hf.later hb; have hW := hW.later hb; have hp := hp.later hb
 clear hst
 refine Ops.rung rfl rfl rfl ?_
 refine Ops.call (likeInts_c A21 _ c21 _ A26 _ c26 _ w22 hB hR (by omega)) rfl rfl rfl ?_
 rintro _ w23 ⟨rfl, hst⟩
 have hb := hst.below
 have hO := hO.later hb; have hf := hf.later hb; have hW := hW.later hb; have hp := hp.later hb
 clear hst
 refine Ops.pick_t rfl rfl rfl ?_
 refine Ops.mv_bool rfl rfl rfl ?_
 refine Ops.split_p 192 rfl (fun _ => ?_) (fun h => absurd rfl h) --t
 refine Ops.rung rfl rfl rfl ?_
 refine Ops.mv_sl rfl rfl rfl ?_
 refine Ops.rung rfl rfl rfl ?_
 refine Ops.mv_sl rfl rfl rfl ?_
 refine Ops.rung rfl rfl rfl ?_
 refine Ops.mv_sl rfl rfl rfl ?_
 refine Ops.rung rfl rfl rfl ?_
 refine Ops.call (product9_c A13 (fvP F).length c13 (fvP F) A25 _ c25 (fvP G) w23 hf hp (by omega) (by omega) (getD_bd hfb) (getD_bd hgb)) rfl rfl rfl ?_
 rintro _ w24 ⟨A27, c27, rfl, hst⟩
 have hR2 : RdI w24 A27 (cvl (fvP F) (fvP G)).length (cvl (fvP F) (fvP G)) := hst.rdI 0 rfl
 have hb := hst.below
 have hO := hO.later hb; have hW := hW.later hb
 clear hst
 refine Ops.rung rfl rfl rfl ?_
 refine Ops.call (likeInts_c A23 _ c23 _ A27 _ c27 _ w24 hO hR2 (by omega)) rfl rfl rfl ?_
 rintro _ w25 ⟨rfl, hst⟩
 refine Ops.pick_t rfl rfl rfl ?_
 refine Ops.mv_bool rfl rfl rfl ?_
 refine Ops.nil ?_
 refine thenQ_n ?_
 refine Cd.ret ?_
 refine ret1_b rfl ?_
 exact ⟨by rw [decide_eq_true rfl], hW.later hst.below⟩
end Go.Proofs.YtdedegbendjmbaaGreatDoor.Vc
