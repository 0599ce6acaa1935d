/-
  The texts D3, Co8 in one. Conditions: as each part states them.
-/
import Derived.Test.YtdedegbendjmbaaGreatDoorZc
import Derived.Test.YtdedegbendjmbaaGreatDoorZa
/-
 Faces on the program's side; the ends of edges on the reference's. Conditions: as each states them.
-/
namespace Go.Proofs.YtdedegbendjmbaaGreatDoor.Vc
open Go.RowKit

theorem put_cs {xs : List Int} {a : Nat} {v : Int} (h : SA xs) (hv : v ∉ xs) (ha : a ≤ xs.length) (hl : ∀ j : Nat, j < a → gi xs (j : Int) < v) (hg : a < xs.length → v ≤ gi xs (a : Int)) : xs.take a ++ (v :: xs.drop a) = cs (xs ++ [v]) := by
 have hp : (xs.take a ++ (v :: xs.drop a)).Perm (xs ++ [v]) := put_perm
 refine cs_eq ?_ fun x => hp.mem_iff
 have h1 := asc_put h.asc ha hl hg
 have h2 : (xs.take a ++ (v :: xs.drop a)).Nodup := hp.nodup_iff.2 (by
  rw [List.nodup_append]
  refine ⟨h.nodup, by simp, fun x hx y hy e => ?_⟩
  simp at hy
  subst hy
  exact hv (e ▸ hx))
 exact (List.Pairwise.and h1 h2).imp fun h => by have := h.1; have := h.2; omega

theorem l13Insert_c (A : Option Addr) (n c : Nat) (xs : List Int) (v : Int) (w : World) (hR : RdI w A n xs) (hc : n ≤ c) (hn : n ≤ 1000000) (hs : SA xs) (hv : v ∉ xs) :
    Ret Tryz.prog 137 [.slice A n c, .int .i64 v] w (fun r w' => ∃ A' c', r = .slice A' (cs (xs ++ [v])).length c' ∧ St w w' [CkI 2 A' (cs (xs ++ [v])).length c' (cs (xs ++ [v]))]) := by
  have hxl := hR.1
  refine Ret.of_cd Tryz.func137 rfl Tryz.ntmps137 rfl (post1 rfl) ?_
  refine Cd.seq ?_
  refine Cd.region ?_
  refine Ops.mv_sl rfl rfl rfl ?_
  refine Ops.nil ?_
  refine thenQ_n ?_
  refine Cd.seq ?_
  refine Cd.region ?_
  refine Ops.mv_int rfl rfl rfl ?_
  refine Ops.nil ?_
  refine thenQ_n ?_
  refine Cd.join (α := Nat) (fun a => [(0, .slice A n c), (1, .int .i64 v), (5, .int .i64 (a : Int))])
    (fun a w' => w' = w ∧ a ≤ xs.length ∧ (∀ j : Nat, j < a → gi xs (j : Int) < v) ∧ (a < xs.length → v ≤ gi xs (a : Int))) ?_ ?_
  · refine Cd.block ?_
    refine Cd.loop (α := Nat) (fun a => [(0, .slice A n c), (1, .int .i64 v), (5, .int .i64 (a : Int))]) (fun a w' => w' = w ∧ a ≤ xs.length ∧ ∀ j : Nat, j < a → gi xs (j : Int) < v) (fun a => xs.length - a) 0 ⟨rfl, rfl, rfl, trivial⟩ ⟨rfl, Nat.zero_le _, fun j hj => by omega⟩ ?_
    rintro a e w ⟨rfl, ha, hlt⟩
    refine Cd.seq ?_
    refine Cd.seq ?_
    refine Cd.region ?_
    refine Ops.mv_int rfl rfl rfl ?_
    refine Ops.mv_sl rfl rfl rfl ?_
    refine Ops.len rfl rfl ?_
    refine Ops.lss rfl rfl rfl ?_
    refine Ops.mv_bool rfl rfl rfl ?_
    refine Ops.split_p 11 rfl (fun h4 => ?_) (fun h4 => ?_)
    · refine Ops.rung rfl rfl rfl ?_
      refine Ops.mv_sl rfl rfl rfl ?_
      refine Ops.rung rfl rfl rfl ?_
      refine Ops.mv_int rfl rfl rfl ?_
      refine Ops.rung rfl rfl rfl ?_
      refine Ops.idx hR.2 rfl rfl rfl (by omega) (by omega) ?_
      refine Ops.rung rfl rfl rfl ?_
      refine Ops.ld_int hR rfl (by omega) rfl rfl ?_
      refine Ops.rung rfl rfl rfl ?_
      refine Ops.mv_int rfl rfl rfl ?_
      refine Ops.rung rfl rfl rfl ?_
      refine Ops.lss rfl rfl rfl ?_
      refine Ops.pick_t rfl rfl rfl ?_
      refine Ops.nil ?_
      refine thenQ_n ?_
      refine Cd.cond_p _ rfl (fun h5 => ?_) (fun h5 => ?_)
      · refine Cd.skip ?_
        refine thenQ_n ?_
        refine Cd.block ?_
        refine Cd.region ?_
        refine Ops.mv_int rfl rfl rfl ?_
        refine Ops.add rfl rfl rfl (by omega) ?_
        refine Ops.mv_int rfl rfl rfl ?_
        refine Ops.nil ?_
        refine blockQ_n ?_
        refine thenQ_n ?_
        refine ⟨a + 1, by show xs.length - (a + 1) < xs.length - a; omega, ⟨rfl, rfl, rfl, trivial⟩, rfl, by omega, fun j hj => ?_⟩
        by_cases ej : j = a
        · subst ej; exact h5
        · exact hlt j (by omega)
      · refine Cd.exit ?_
        refine thenQ_x ?_
        refine thenQ_x ?_
        refine blockQ_x ?_
        refine thenQ_n ?_
        exact ⟨a, ⟨rfl, rfl, rfl, trivial⟩, rfl, ha, hlt, fun _ => by omega⟩
    · refine Ops.skipg rfl rfl rfl rfl rfl ?_
      refine Ops.skipg rfl rfl rfl rfl rfl ?_
      refine Ops.skipg rfl rfl rfl rfl rfl ?_
      refine Ops.skipg rfl rfl rfl rfl rfl ?_
      refine Ops.skipg rfl rfl rfl rfl rfl ?_
      refine Ops.skipg rfl rfl rfl rfl rfl ?_
      refine Ops.pick_f rfl rfl rfl ?_
      refine Ops.nil ?_
      refine thenQ_n ?_
      refine Cd.cond_f rfl ?_
      refine Cd.exit ?_
      refine thenQ_x ?_
      refine thenQ_x ?_
      refine blockQ_x ?_
      refine thenQ_n ?_
      exact ⟨a, ⟨rfl, rfl, rfl, trivial⟩, rfl, ha, hlt, fun h => absurd h (by omega)⟩
  · rintro a e w ⟨rfl, ha, hlt, hge⟩
    have hput := put_cs hs hv ha hlt hge
    refine Cd.seq ?_
    refine Cd.region ?_
    refine Ops.mv_int rfl rfl rfl ?_
    refine Ops.bs1I (St.refl w) rfl rfl rfl ?_
    intro A7 w7 hS7
    refine Ops.mv_sl rfl rfl rfl ?_
    refine Ops.mv_int rfl rfl rfl ?_
    refine Ops.cut_l rfl rfl rfl (by omega) ?_
    refine Ops.appI 0 hS7 rfl ((hS7.oldI hR).drop (l := a) (by omega) hc) rfl rfl rfl (by omega) (by omega) rfl ?_
    intro A8 c8 w8 hS8
    refine Ops.mv_sl rfl rfl rfl ?_
    refine Ops.nil ?_
    refine thenQ_n ?_
    refine Cd.seq ?_
    refine Cd.region ?_
    refine Ops.bs0 hS8 rfl ?_
    intro A9 w9 hS9
    have hS9 : St w w9 (CkI 2 A9 0 0 [] :: CkI 2 A8 (1 + (n - a)) c8 ([v] ++ xs.drop a) :: []) := hS9
    refine Ops.mv_sl rfl rfl rfl ?_
    refine Ops.mv_int rfl rfl rfl ?_
    refine Ops.cut_h rfl rfl rfl (by omega) ?_
    refine Ops.appI 0 hS9 rfl ((hS9.oldI hR).take (l := a) (by omega)) rfl rfl rfl (by omega) (by omega) rfl ?_
    intro A10 c10 w10 hS10
    refine Ops.mv_sl rfl rfl rfl ?_
    refine Ops.appI 0 hS10 rfl (hS10.rdI 1 rfl) rfl rfl rfl (by omega) (by omega) rfl ?_
    intro A11 c11 w11 hS11
    refine Ops.mv_sl rfl rfl rfl ?_
    refine Ops.nil ?_
    refine thenQ_n ?_
    refine Cd.ret ?_
    refine ret1_s rfl ?_
    have hS11 : St w w11 (CkI 2 A11 (0 + a + (1 + (n - a))) c11 (([] ++ xs.take a) ++ ([v] ++ xs.drop a)) :: CkI 2 A8 (1 + (n - a)) c8 ([v] ++ xs.drop a) :: []) := hS11
    have hS12 := hS11.sub (List.Sublist.cons_cons _ (List.nil_sublist _))
    rw [List.nil_append, List.singleton_append, hput] at hS12
    have hlen' : (cs (xs ++ [v])).length = 0 + a + (1 + (n - a)) := by rw [← hput]; simp; omega
    exact ⟨A11, c11, by rw [hlen'], by rw [hlen']; exact hS12⟩

theorem l17Insert_c (A : Option Addr) (n c : Nat) (xs : List Int) (v : Int) (w : World) (hR : RdI w A n xs) (hc : n ≤ c) (hn : n ≤ 1000000) (hs : SA xs) :
  Ret Tryz.prog 89 [.slice A n c, .int .i64 v] w (fun r w' => ∃ A' c', r = .slice A' (cs (xs ++ [v])).length c' ∧ Below w.heap.size w w' ∧ ((A' = A ∧ c' = c ∧ cs (xs ++ [v]) = xs) ∨ St w w' [CkI 2 A' (cs (xs ++ [v])).length c' (cs (xs ++ [v]))])) := by
 have hxl := hR.1
 refine Ret.of_cd Tryz.func89 rfl Tryz.ntmps89 rfl (post1 rfl) ?_
 refine Cd.seq ?_
 refine Cd.region ?_
 refine Ops.mv_sl rfl rfl rfl ?_
 refine Ops.nil ?_
 refine thenQ_n ?_
 refine Cd.seq ?_
 refine Cd.seq ?_
 refine Cd.region ?_
 refine Ops.mv_sl rfl rfl rfl ?_
 refine Ops.mv_int rfl rfl rfl ?_
 refine Ops.call (l01Has_c A n c xs v w hR (by omega)) rfl rfl rfl ?_
 rintro _ w ⟨rfl, rfl⟩
 refine Ops.nil ?_
 refine thenQ_n ?_
 refine Cd.cond_p _ rfl (fun h => ?_) (fun h => ?_)
 ·have e : cs (xs ++ [v]) = xs := (cs_eq hs fun x => by
   simp only [List.mem_append, List.mem_singleton]
   exact ⟨.inl, fun h2 => h2.elim id fun e => e ▸ h⟩).symm
  refine Cd.seq ?_
  refine Cd.region ?_
  refine Ops.mv_sl rfl rfl rfl ?_
  refine Ops.mv_sl rfl rfl rfl ?_
  refine Ops.nil ?_
  refine thenQ_n ?_
  refine Cd.ret ?_
  refine thenQ_r ?_
  refine ret1_s rfl ?_
  exact ⟨A, c, by rw [e, hxl], Below.refl _ _, .inl ⟨rfl, rfl, e⟩⟩
 ·refine Cd.skip ?_
  refine thenQ_n ?_
  refine Cd.seq ?_
  refine Cd.region ?_
  refine Ops.mv_sl rfl rfl rfl ?_
  refine Ops.mv_int rfl rfl rfl ?_
  refine Ops.call (l13Insert_c A n c xs v w hR hc hn hs h) rfl rfl rfl ?_
  rintro _ w1 ⟨A1, c1, rfl, hst⟩
  refine Ops.mv_sl rfl rfl rfl ?_
  refine Ops.nil ?_
  refine thenQ_n ?_
  refine Cd.ret ?_
  refine ret1_s rfl ?_
  exact ⟨A1, c1, rfl, hst.below, .inr hst⟩

/-! rows put anew -/
theorem cons_set_perm : ∀ (l : List Ck) (i : Nat) (x y : Ck), l[i]? = some y → (x :: l).Perm (y :: l.set i x)
 | [], i, x, y, h => by simp at h
 | u :: l, 0, x, y, h => by simp at h; subst h; exact List.Perm.swap _ _ _
 | u :: l, i + 1, x, y, h => by
  simp only [List.getElem?_cons_succ] at h
  simp only [List.set_cons_succ]
  exact (List.Perm.swap _ _ _).trans (((cons_set_perm l i x y h).cons u).trans (List.Perm.swap _ _ _))
theorem St.anew {w0 w : World} {ks : List Ck} {i : Nat} {k y : Ck} (h : St w0 w (k :: ks)) (hy : ks[i]? = some y) : St w0 w (ks.set i k) := (h.perm (cons_set_perm ks i k y hy)).tail
theorem St.insRow {w2 w1 w9 : World} {ks : List Ck} {i : Nat} {t : TypeId} {A A1 : Option Addr} {n c c1 : Nat} {xs ys : List Int} (h : St w2 w1 ks) (hk : ks[i]? = some (CkI t A n c xs)) (hbl : Below w1.heap.size w1 w9) (hor : (A1 = A ∧ c1 = c ∧ ys = xs) ∨ St w1 w9 [CkI t A1 ys.length c1 ys]) : St w2 w9 (ks.set i (CkI t A1 ys.length c1 ys)) := by
 rcases hor with ⟨rfl, rfl, rfl⟩ | hst
 ·have hl := h.lenI i hk
  rw [hl, set_id hk]
  exact h.later hbl
 ·exact (h.call hst).anew hk
theorem nilRows {w0 w : World} {t : TypeId} : ∀ (n : Nat) {ks : List Ck}, St w0 w ks → St w0 w (ks ++ rowsCk t (List.replicate n slNil) (List.replicate n []))
 | 0, ks, h => by show St w0 w (ks ++ []); rwa [List.append_nil]
 | n + 1, ks, h => by
  have h1 := nilRows (t := t) n h
  have h2 := h1.nil t
  exact h2.perm (List.perm_middle.symm)
end Go.Proofs.YtdedegbendjmbaaGreatDoor.Vc
/-
 Parts of a list, walked; a row of rows copied. Conditions: as each states them.
-/
namespace Go.Proofs.YtdedegbendjmbaaGreatDoor.Vc
open Go.RowKit

theorem CloneRR_c (A : Option Addr) (n c : Nat) (rs : List SlV) (w : World) (hR : RdR w A n rs) (hn : n ≤ 1000000000) : Ret Tryz.prog 151 [.slice A n c] w (fun v w' => ∃ A' c', v = .slice A' n c' ∧ St w w' [CkR 25 A' n c' rs]) := by
 cases hA : A with
 | none =>
  subst hA
  have hn0 : n = 0 := by
   apply Classical.byContradiction
   intro h
   obtain ⟨p, hp, _⟩ := hR.2 0 (by omega)
   simp [ptrAt] at hp
  subst hn0
  have hx : rs = [] := List.eq_nil_of_length_eq_zero hR.1
  subst hx
  refine Ret.of_cd Tryz.func151 rfl Tryz.ntmps151 rfl (post1 rfl) ?_
  refine Cd.seq ?_
  refine Cd.region ?_
  refine Ops.mv_sl rfl rfl rfl ?_
  refine Ops.nil ?_
  refine thenQ_n ?_
  refine Cd.seq ?_
  refine Cd.seq ?_
  refine Cd.region ?_
  refine Ops.mv_sl rfl rfl rfl ?_
  refine Ops.eqNil rfl rfl rfl ?_
  refine Ops.nil ?_
  refine thenQ_n ?_
  refine Cd.cond_t rfl ?_
  refine Cd.seq ?_
  refine Cd.region ?_
  refine Ops.mv_sl rfl rfl rfl ?_
  refine Ops.nil ?_
  refine thenQ_n ?_
  refine Cd.ret ?_
  refine thenQ_r ?_
  refine ret1_s rfl ?_
  exact ⟨none, 0, rfl, (St.refl w).nil _⟩
 | some a =>
  subst hA
  refine Ret.of_cd Tryz.func151 rfl Tryz.ntmps151 rfl (post1 rfl) ?_
  refine Cd.seq ?_
  refine Cd.region ?_
  refine Ops.mv_sl rfl rfl rfl ?_
  refine Ops.nil ?_
  refine thenQ_n ?_
  refine Cd.seq ?_
  refine Cd.seq ?_
  refine Cd.region ?_
  refine Ops.mv_sl rfl rfl rfl ?_
  refine Ops.eqNil rfl rfl rfl ?_
  refine Ops.nil ?_
  refine thenQ_n ?_
  refine Cd.cond_f rfl ?_
  refine Cd.skip ?_
  refine thenQ_n ?_
  refine Cd.seq ?_
  refine Cd.region ?_
  refine Ops.bs0 (St.refl w) rfl ?_
  intro A1 w1 hS1
  have hS1 : St w w1 [CkR 25 A1 0 0 []] := hS1
  refine Ops.mv_sl rfl rfl rfl ?_
  refine Ops.appR 0 hS1 rfl (hS1.oldR hR) rfl rfl rfl (by omega) (by omega) rfl ?_
  intro A2 c2 w2 hS2
  rw [Nat.zero_add] at hS2 ⊢
  refine Ops.mv_sl rfl rfl rfl ?_
  refine Ops.nil ?_
  refine thenQ_n ?_
  refine Cd.ret ?_
  refine ret1_s rfl ?_
  exact ⟨A2, c2, rfl, hS2⟩

theorem ptsP_count : ∀ (l : List Int) (k : Nat), (ptsP l k).length ≤ 2 ^ l.length
 | l, 0 => by simpa [ptsP] using Nat.one_le_two_pow
 | [], k + 1 => by simp [ptsP]
 | x :: r, k + 1 => by
  have h1 := ptsP_count r k
  have h2 := ptsP_count r (k + 1)
  rw [ptsP, List.length_append, List.length_map, List.length_cons, Nat.pow_succ]
  omega
theorem ptsP_small {l : List Int} (k : Nat) (h : l.length ≤ 6) : (ptsP l k).length ≤ 64 := by
 have h1 := ptsP_count l k
 have h2 : 2 ^ l.length ≤ 2 ^ 6 := Nat.pow_le_pow_right (by decide) h
 have h3 : 2 ^ 6 = 64 := by decide
 omega

theorem partsOf_c : ∀ (k : Nat) (A : Option Addr) (n c : Nat) (xs : List Int) (w : World), RdI w A n xs → n ≤ c → n ≤ 6 → k ≤ 7 →
    Ret Tryz.prog 97 [.slice A n c, .int .i64 (k : Int)] w (fun v w' => ∃ A' c' rs', v = .slice A' (ptsP xs k).length c' ∧ rs'.length = (ptsP xs k).length ∧ St w w' (mat 25 2 A' (ptsP xs k).length c' rs' (ptsP xs k) ++ [])) := by
  intro k
  induction k with
  | zero =>
    intro A n c xs w hR hc hn hk
    refine Ret.of_cd Tryz.func97 rfl Tryz.ntmps97 rfl (post1 rfl) ?_
    refine Cd.seq ?_
    refine Cd.region ?_
    refine Ops.mv_sl rfl rfl rfl ?_
    refine Ops.nil ?_
    refine thenQ_n ?_
    refine Cd.seq ?_
    refine Cd.seq ?_
    refine Cd.region ?_
    refine Ops.mv_int rfl rfl rfl ?_
    refine Ops.eql rfl rfl rfl ?_
    refine Ops.nil ?_
    refine thenQ_n ?_
    refine Cd.cond_p _ rfl (fun h1 => ?_) (fun h1 => absurd rfl h1)
    refine Cd.seq ?_
    refine Cd.region ?_
    refine Ops.bs1R (St.refl w) rfl rfl rfl ?_
    intro A1 w1 hS1
    refine Ops.mv_sl rfl rfl rfl ?_
    refine Ops.nil ?_
    refine thenQ_n ?_
    refine Cd.ret ?_
    refine thenQ_r ?_
    refine ret1_s rfl ?_
    have e0 : ptsP xs 0 = [[]] := by cases xs <;> rfl
    rw [e0]
    exact ⟨A1, 1, [slNil], rfl, rfl, nilRows 1 hS1⟩
  | succ k ih =>
    intro A n c xs w hR hc hn hk
    have hxl : xs.length = n := hR.1
    have hsm := ptsP_small (l := xs) (k + 1) (by omega)
    refine Ret.of_cd Tryz.func97 rfl Tryz.ntmps97 rfl (post1 rfl) ?_
    refine Cd.seq ?_
    refine Cd.region ?_
    refine Ops.mv_sl rfl rfl rfl ?_
    refine Ops.nil ?_
    refine thenQ_n ?_
    refine Cd.seq ?_
    refine Cd.seq ?_
    refine Cd.region ?_
    refine Ops.mv_int rfl rfl rfl ?_
    refine Ops.eql rfl rfl rfl ?_
    refine Ops.nil ?_
    refine thenQ_n ?_
    refine Cd.cond_pf rfl (fun h1 => absurd h1 (by omega)) ?_
    refine Cd.skip ?_
    refine thenQ_n ?_
    refine Cd.seq ?_
    refine Cd.region ?_
    refine Ops.mv_sl rfl rfl rfl ?_
    refine Ops.nil ?_
    refine thenQ_n ?_
    refine Cd.seq ?_
    refine Cd.seq ?_
    refine Cd.region ?_
    refine Ops.mv_sl rfl rfl rfl ?_
    refine Ops.len rfl rfl ?_
    refine Ops.mv_int rfl rfl rfl ?_
    refine Ops.sub rfl rfl rfl (by omega) ?_
    refine Ops.add rfl rfl rfl (by omega) ?_
    refine Ops.mv_int rfl rfl rfl ?_
    refine Ops.nil ?_
    refine thenQ_n ?_
    refine Cd.block ?_
    refine Cd.loop (α := Nat × Option Addr × Nat × List SlV × List (List Int)) (fun z => [(0, .slice A n c), (1, .int .i64 ((k + 1 : Nat) : Int)), (5, .slice z.2.1 z.2.2.2.2.length z.2.2.1), (16, .int .i64 ((n : Int) - ((k + 1 : Nat) : Int) + 1)), (17, .int .i64 (z.1 : Int))])
      (fun z w' => z.1 ≤ n + 1 ∧ z.2.2.2.2 ++ ptsP (xs.drop z.1) (k + 1) = ptsP xs (k + 1) ∧ z.2.2.2.1.length = z.2.2.2.2.length ∧ St w w' (mat 25 2 z.2.1 z.2.2.2.2.length z.2.2.1 z.2.2.2.1 z.2.2.2.2 ++ [])) (fun z => n + 1 - z.1) (0, none, 0, [], []) ⟨rfl, rfl, rfl, rfl, rfl, trivial⟩ ⟨Nat.zero_le _, by show [] ++ ptsP (xs.drop 0) (k + 1) = _; rw [List.drop_zero, List.nil_append], rfl, (St.refl w).nil _⟩ ?_
    rintro ⟨i, A5, c5, rs5, L⟩ e w1 ⟨hi, hL, hrl, hS1⟩
    dsimp only at hi hL hrl hS1 ⊢
    refine Cd.seq ?_
    refine Cd.region ?_
    refine Ops.lss rfl rfl rfl ?_
    refine Ops.nil ?_
    refine thenQ_n ?_
    refine Cd.seq ?_
    refine Cd.cond_p _ rfl (fun h2 => ?_) (fun h2 => ?_)
    · have hin : i < xs.length := by omega
      have hLl : L.length ≤ 64 := by have := congrArg List.length hL; rw [List.length_append] at this; omega
      rw [ptsP_step hin, ← List.append_assoc] at hL
      have hd := (hR.later hS1.below).drop (l := i + 1) (by omega) hc
      have hdl : (xs.drop (i + 1)).length = n - (i + 1) := by rw [List.length_drop, hxl]
      refine Cd.skip ?_
      refine thenQ_n ?_
      refine Cd.seq ?_
      refine Cd.block ?_
      refine Cd.seq ?_
      refine Cd.region ?_
      refine Ops.mv_int rfl rfl rfl ?_
      refine Ops.mv_int rfl rfl rfl ?_
      refine Ops.nil ?_
      refine thenQ_n ?_
      refine Cd.seq ?_
      refine Cd.region ?_
      refine Ops.mv_sl rfl rfl rfl ?_
      refine Ops.mv_int rfl rfl rfl ?_
      refine Ops.add rfl rfl rfl (by omega) ?_
      refine Ops.cut_l (l := ((i + 1 : Nat) : Int)) rfl rfl rfl (by omega) ?_
      refine Ops.mv_int rfl rfl rfl ?_
      refine Ops.sub rfl rfl rfl (by omega) ?_
      refine Ops.call (ih (cutAt A c (i + 1)) (n - (i + 1)) (c - (i + 1)) (xs.drop (i + 1)) _ hd (by omega) (by omega) (by omega)) rfl (by show [_, Value.int .i64 (((k + 1 : Nat) : Int) - 1)] = _; congr 3; omega) rfl ?_
      rintro _ w2 ⟨A6, c6, rs6, rfl, hrl6, hT2⟩
      have hNl := ptsP_small (l := xs.drop (i + 1)) k (by omega)
      have hNs : ∀ r ∈ ptsP (xs.drop (i + 1)) k, r.length ≤ 6 := fun r hr => by
        have := (ptsP_mem.1 hr).1.length_le
        omega
      generalize hN : ptsP (xs.drop (i + 1)) k = N at *
      have hS2 : St w w2 (mat 25 2 A5 L.length c5 rs5 L ++ (mat 25 2 A6 N.length c6 rs6 N ++ [])) := by
        have := (hS1.call hT2).perm List.perm_append_comm
        simpa using this
      refine Ops.len rfl rfl ?_
      refine Ops.mv_int rfl rfl rfl ?_
      refine Ops.nil ?_
      refine thenQ_n ?_
      refine Cd.block ?_
      refine Cd.loop (α := Nat × Option Addr × Nat × List SlV) (fun z => [(0, .slice A n c), (1, .int .i64 ((k + 1 : Nat) : Int)), (5, .slice z.2.1 (L.length + z.1) z.2.2.1), (6, .int .i64 (i : Int)), (16, .int .i64 ((n : Int) - ((k + 1 : Nat) : Int) + 1)), (17, .int .i64 (i : Int)), (26, .slice A6 N.length c6), (27, .int .i64 (N.length : Int)), (28, .int .i64 (z.1 : Int))])
        (fun z w' => z.1 ≤ N.length ∧ z.2.2.2.length = L.length + z.1 ∧ St w w' (mat 25 2 z.2.1 (L.length + z.1) z.2.2.1 z.2.2.2 (L ++ (N.take z.1).map (gi xs (i : Int) :: ·)) ++ (mat 25 2 A6 N.length c6 rs6 N ++ []))) (fun z => N.length - z.1) (0, A5, c5, rs5) ⟨rfl, rfl, rfl, rfl, rfl, rfl, rfl, rfl, rfl, trivial⟩ ⟨Nat.zero_le _, by show rs5.length = L.length + 0; omega, by show St w w2 (mat _ _ A5 (L.length + 0) c5 rs5 (L ++ (N.take 0).map _) ++ _); rw [List.take_zero, List.map_nil, List.append_nil]; exact hS2⟩ ?_
      rintro ⟨j, A7, c7, rs7⟩ e w3 ⟨hj, hr7, hS3⟩
      dsimp only at hj hr7 hS3 ⊢
      have hM3 : ∀ w', St w w' (mat 25 2 A7 (L.length + j) c7 rs7 (L ++ (N.take j).map (gi xs (i : Int) :: ·)) ++ (mat 25 2 A6 N.length c6 rs6 N ++ [])) → RowsI w' A6 N.length rs6 N := fun w' h => (h.sub (List.sublist_append_right _ _)).rowsI rfl
      have hLL : (L ++ (N.take j).map (gi xs (i : Int) :: ·)).length = L.length + j := by simp; omega
      refine Cd.seq ?_
      refine Cd.region ?_
      refine Ops.lss rfl rfl rfl ?_
      refine Ops.nil ?_
      refine thenQ_n ?_
      refine Cd.seq ?_
      refine Cd.cond_p _ rfl (fun h3 => ?_) (fun h3 => ?_)
      · have hjN : j < N.length := by omega
        have hM := hM3 _ hS3
        have hrow := hM.at_ (i := (j : Int)) (by omega) (by omega)
        have hrl := hrow.1
        have hsm7 := hNs (gl N (j : Int)) (by rw [gl_mem hjN]; exact List.getElem_mem _)
        have hR3 := hR.later hS3.below
        have htk : L ++ (N.take (j + 1)).map (gi xs (i : Int) :: ·) = (L ++ (N.take j).map (gi xs (i : Int) :: ·)) ++ [gi xs (i : Int) :: gl N (j : Int)] := by rw [take_succ_gl hjN, List.map_append, List.append_assoc]; rfl
        generalize hL' : L ++ (N.take j).map (gi xs (i : Int) :: ·) = L' at *
        refine Cd.skip ?_
        refine thenQ_n ?_
        refine Cd.seq ?_
        refine Cd.block ?_
        refine Cd.seq ?_
        refine Cd.region ?_
        refine Ops.idx hM.top.2 rfl rfl rfl (by omega) (by omega) ?_
        refine Ops.ld_sl hM.top rfl (by omega) rfl rfl ?_
        refine Ops.mv_sl rfl rfl rfl ?_
        refine Ops.nil ?_
        refine thenQ_n ?_
        refine Cd.region ?_
        refine Ops.mv_sl rfl rfl rfl ?_
        refine Ops.mv_sl rfl rfl rfl ?_
        refine Ops.mv_int rfl rfl rfl ?_
        refine Ops.idx hR3.2 rfl rfl rfl (by omega) (by omega) ?_
        refine Ops.ld_int hR3 rfl (by omega) rfl rfl ?_
        refine Ops.bs1I hS3 rfl rfl rfl ?_
        intro A8 w4 hS4
        refine Ops.mv_sl rfl rfl rfl ?_
        refine Ops.appI 0 hS4 rfl ((hM3 _ hS4.tail).at_ (i := (j : Int)) (by omega) (by omega)) rfl rfl rfl (by omega) (by omega) rfl ?_
        intro A9 c9 w5 hS5
        have hS5 : St w w5 (CkI 2 A9 (1 + (rg rs6 (j : Int)).n) c9 ([gi xs (i : Int)] ++ gl N (j : Int)) :: (mat 25 2 A7 (L.length + j) c7 rs7 L' ++ (mat 25 2 A6 N.length c6 rs6 N ++ []))) := hS5
        refine Ops.bs1R hS5 rfl rfl rfl ?_
        intro A10 w6 hS6
        refine Ops.appR 2 hS6 rfl (hS6.rdR 0 rfl) rfl rfl rfl (by omega) (by omega) rfl ?_
        intro A11 c11 w7 hS7
        have hS7 : St w w7 (CkR 25 A10 1 1 [⟨A9, 1 + (rg rs6 (j : Int)).n, c9⟩] :: CkI 2 A9 (1 + (rg rs6 (j : Int)).n) c9 ([gi xs (i : Int)] ++ gl N (j : Int)) :: CkR 25 A11 (L.length + j + 1) c11 (rs7 ++ [⟨A9, 1 + (rg rs6 (j : Int)).n, c9⟩]) :: (rowsCk 2 rs7 L' ++ (mat 25 2 A6 N.length c6 rs6 N ++ []))) := hS7
        have hS8 : St w w7 (mat 25 2 A11 (L.length + (j + 1)) c11 (rs7 ++ [⟨A9, 1 + (rg rs6 (j : Int)).n, c9⟩]) (L' ++ [gi xs (i : Int) :: gl N (j : Int)]) ++ (mat 25 2 A6 N.length c6 rs6 N ++ [])) := by
          refine hS7.tail.perm ?_
          unfold mat
          rw [rowsCk_append (by omega)]
          refine (List.Perm.swap _ _ _).trans (List.Perm.cons _ ?_)
          show (_ :: (rowsCk 2 rs7 L' ++ _)).Perm ((rowsCk 2 rs7 L' ++ [_]) ++ _)
          rw [List.append_assoc]
          exact List.perm_middle.symm
        refine Ops.mv_sl rfl rfl rfl ?_
        refine Ops.nil ?_
        refine blockQ_n ?_
        refine thenQ_n ?_
        refine Cd.region ?_
        refine Ops.add rfl rfl rfl (by omega) ?_
        refine Ops.mv_int rfl rfl rfl ?_
        refine Ops.nil ?_
        refine thenQ_n ?_
        exact ⟨(j + 1, A11, c11, rs7 ++ [⟨A9, 1 + (rg rs6 (j : Int)).n, c9⟩]), by show N.length - (j + 1) < N.length - j; omega, ⟨rfl, rfl, rfl, rfl, rfl, rfl, rfl, rfl, rfl, trivial⟩, by show j + 1 ≤ N.length; omega, by show (rs7 ++ [_]).length = L.length + (j + 1); simp; omega, by rw [htk]; exact hS8⟩
      · have hje : j = N.length := by omega
        subst hje
        rw [List.take_length] at hS3 hLL
        refine Cd.exit ?_
        refine thenQ_x ?_
        refine thenQ_x ?_
        refine blockQ_x ?_
        refine blockQ_n ?_
        refine thenQ_n ?_
        refine Cd.region ?_
        refine Ops.add rfl rfl rfl (by omega) ?_
        refine Ops.mv_int rfl rfl rfl ?_
        refine Ops.nil ?_
        refine thenQ_n ?_
        refine ⟨(i + 1, A7, c7, rs7, L ++ N.map (gi xs (i : Int) :: ·)), by show n + 1 - (i + 1) < n + 1 - i; omega, ⟨rfl, rfl, by show Value.slice A7 (L.length + N.length) c7 = .slice A7 (L ++ N.map (gi xs (i : Int) :: ·)).length c7; rw [hLL], rfl, rfl, trivial⟩, by show i + 1 ≤ n + 1; omega, hL, by rw [hLL]; exact hr7, ?_⟩
        rw [hLL]
        have := hS3.sub (List.sublist_append_left _ _)
        rwa [List.append_nil]
    · have hend : ptsP (xs.drop i) (k + 1) = [] := ptsP_short (by rw [List.length_drop]; omega)
      rw [hend, List.append_nil] at hL
      subst hL
      refine Cd.exit ?_
      refine thenQ_x ?_
      refine thenQ_x ?_
      refine blockQ_x ?_
      refine thenQ_n ?_
      refine Cd.seq ?_
      refine Cd.region ?_
      refine Ops.mv_sl rfl rfl rfl ?_
      refine Ops.mv_sl rfl rfl rfl ?_
      refine Ops.nil ?_
      refine thenQ_n ?_
      refine Cd.ret ?_
      refine ret1_s rfl ?_
      exact ⟨A5, c5, rs5, rfl, hrl, hS1⟩
end Go.Proofs.YtdedegbendjmbaaGreatDoor.Vc
