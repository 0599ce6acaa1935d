/-
  The texts Pr6, Pr7, Pr8, Pr9, Pt3, Pt4, Pt6, Pt7, Bit, Pt8, Pt9, Pt5, Pu1, Ts3, Ps1, Ps2, Ps3, Pu2, Pu3 in one. Conditions: as each part states them.
-/
import Derived.Test.YtopgfgdgfjddpaaGreatDoorZg
import Derived.Test.YtopgfgdgfjddpaaGreatDoorZd
import Derived.Test.YtopgfgdgfjddpaaGreatDoorZb
import Derived.Test.YtopgfgdgfjddpaaGreatDoorZe
import Derived.Test.YtopgfgdgfjddpaaGreatDoorZf
/-
 The program's test of strong connection, walked. Conditions: the library's table of powers of ten holds what the program's text lays there.
-/
namespace Go.Proofs.YtopgfgdgfjddpaaGreatDoor.Vc
open Go.RowKit
def uset (u : Nat → Value) (k : Nat) (v : Value) : Nat → Value := fun j => cond (Nat.beq j k) v (u j)
theorem uset_eq {u : Nat → Value} {k : Nat} {v : Value} (h : u k = v) : u = uset u k v := by
 funext j
 unfold uset
 cases hb : Nat.beq j k with
 | true => rw [Nat.eq_of_beq_eq_true hb, h]; rfl
 | false => rfl
set_option maxHeartbeats 4000000 in
theorem connectionFault_c (A : Option Addr) (N c : Nat) (rs : List SlV) (fl : List (List Int)) (n : Nat) (w : World) (hT : Tab w) (hM : RowsI w A N rs fl) (hN : N ≤ 401) (hn : n ≤ 5) (hl : ∀ x ∈ fl, x.length = n ∧ ∀ e ∈ x, 0 ≤ e ∧ e ≤ 1000000) (hnd : fl.Nodup) :
    Ret Tryz.prog 89 [.slice A N c] w (fun v w' => ∃ A' n' c', v = .slice A' n' c' ∧ (A'.isNone = true ↔ ConP n fl) ∧ St w w' []) := by
  have hfl := hM.len
  have hgm : ∀ f : Nat, f < N → gl fl (f : Int) ∈ fl := fun f hf => by rw [gl_mem (by omega)]; exact List.getElem_mem _
  have hl' : ∀ x ∈ fl, x.length = n ∧ ∀ e ∈ x, 0 ≤ e := fun x hx => ⟨(hl x hx).1, fun e he => ((hl x hx).2 e he).1⟩
  refine Ret.of_cd Tryz.func89 O Tryz.ntmps89 O (post1 O) (Gbo O (Ops.mkmap (St.refl w) O ?_))
  intro g w1 hS1
  have hS1 : St w w1 (CkM 132 g (prV kyV mpV ([] : List MpE)) :: (rwM 2 ([] : List MpE) ++ [])) := hS1
  refine Gdo O (Ops.call (sizeR_c _ _ _ _) O O O ?_)
  rintro _ w1 ⟨rfl, rfl⟩
  refine Gdc O ?_
  refine Cd.loop (α := Nat × List MpE) (fun z => [(0, .slice A N c), (3, .map (some g)), (12, .int .i64 (N : Int)), (13, .int .i64 (z.1 : Int))])
    (fun z w' => z.1 ≤ N ∧ (∀ l u, getA z.2 l = some u → LblP N (LkH n fl l) N u.2) ∧ (∀ a b : Nat, a < z.1 → a < b → b < N → LnkP n fl (fun k => gi (gl fl (a : Int)) (k : Int) = gi (gl fl (b : Int)) (k : Int)) a b) ∧ St w w' (CkM 132 g (prV kyV mpV z.2) :: (rwM 2 z.2 ++ []))) (fun z => N - z.1) (0, []) ⟨rfl, rfl, rfl, rfl, trivial⟩ ⟨Nat.zero_le _, fun l u h => by simp [getA] at h, fun a b h => absurd h (Nat.not_lt_zero _), hS1⟩ ?_
  clear hS1
  rintro ⟨a, M⟩ e w2 ⟨ha, hLb, hdn, hS⟩
  dsimp only at ha hLb hdn hS ⊢
  refine Gbc O ?_
  refine Cd.cond_p _ O (fun h1 => ?_) (fun h1 => ?_)
  · have haN : a < N := by omega
    refine Gao O (Ops.add O O O (by omega) (Gdc O ?_))
    refine Cd.loop (α := Nat × List MpE) (fun z => [(0, .slice A N c), (3, .map (some g)), (12, .int .i64 (N : Int)), (13, .int .i64 (a : Int)), (4, .int .i64 (a : Int)), (5, .int .i64 (z.1 : Int))])
      (fun z w' => (a < z.1 ∧ z.1 ≤ N) ∧ (∀ l u, getA z.2 l = some u → LblP N (LkH n fl l) N u.2) ∧ (∀ b : Nat, a < b → b < z.1 → LnkP n fl (fun k => gi (gl fl (a : Int)) (k : Int) = gi (gl fl (b : Int)) (k : Int)) a b) ∧ St w w' (CkM 132 g (prV kyV mpV z.2) :: (rwM 2 z.2 ++ []))) (fun z => N - z.1) (a + 1, M) ⟨rfl, rfl, rfl, rfl, rfl, rfl, trivial⟩ ⟨⟨Nat.lt_succ_self _, haN⟩, hLb, fun b h h' => by omega, hS⟩ ?_
    clear hS hLb
    rintro ⟨b, M⟩ e w3 ⟨⟨hab, hbN⟩, hLb, hdb, hS⟩
    dsimp only at hab hbN hLb hdb hS ⊢
    refine Gbo O (Ops.call (sizeR_c _ _ _ _) O O O ?_)
    rintro _ w3 ⟨rfl, rfl⟩
    refine Gdc O ?_
    refine Cd.cond_p _ O (fun h2 => ?_) (fun h2 => ?_)
    · have hb : b < N := by omega
      have hM3 := hS.oldRows hM
      have hra := hM3.at_ (i := (a : Int)) (by omega) (by omega)
      have hrb := hM3.at_ (i := (b : Int)) (by omega) (by omega)
      have hlA := hl _ (hgm a haN)
      have hlB := hl _ (hgm b hb)
      have hna : (rg rs (a : Int)).n = n := by rw [← hra.1]; exact hlA.1
      have hnb : (rg rs (b : Int)).n = n := by rw [← hrb.1]; exact hlB.1
      have hlk := cmn_link (n := n) hl' (show a < fl.length by omega) (show b < fl.length by omega)
      have hcl : (cmnP (gl fl (a : Int)) (gl fl (b : Int))).length = n := by rw [cmnP_len]; exact hlA.1
      have hcr : ∀ x ∈ cmnP (gl fl (a : Int)) (gl fl (b : Int)), -1 ≤ x ∧ x ≤ 1000000 := fun x hx => by
        obtain ⟨k, hk, rfl⟩ := List.mem_map.1 hx
        have hk := List.mem_range.1 hk
        split
        · have := hlA.2 _ (gi_in hk); omega
        · omega
      refine Gac O ?_
      refine Cd.draw [xS (A) (N) (c), xI ((a : Int)), xP (ptrAt (A) ((a : Int)).toNat), xS ((rg (rs) ((a : Int))).a) ((rg (rs) ((a : Int))).n) ((rg (rs) ((a : Int))).c), xS (A) (N) (c), xI ((b : Int)), xP (ptrAt (A) ((b : Int)).toNat), xS ((rg (rs) ((b : Int))).a) ((rg (rs) ((b : Int))).n) ((rg (rs) ((b : Int))).c), .pr (fun v w' => ∃ A6 c6, v = .slice A6 n c6 ∧ RdI w' A6 n (cmnP (gl fl (a : Int)) (gl fl (b : Int)))), .pr (fun v w' => ∃ A6 c6, v = .slice A6 n c6 ∧ RdI w' A6 n (cmnP (gl fl (a : Int)) (gl fl (b : Int))))] (by kernel_rfl) (by kernel_rfl) rfl (lx (lx (lx (lx (lx (lx (lx (lx (List.forall_mem_cons.2 ⟨Yd.lasts_pr (fun v w w' h hb => by obtain ⟨A6, c6, hv, hT⟩ := h; exact ⟨A6, c6, hv, hT.later hb⟩), (List.forall_mem_cons.2 ⟨Yd.lasts_pr (fun v w w' h hb => by obtain ⟨A6, c6, hv, hT⟩ := h; exact ⟨A6, c6, hv, hT.later hb⟩), (fun _ h => by cases h)⟩)⟩))))))))) ?_ ?_
      · refine ⟨Dr O, Dr O, fun _ _ hb _ _ => Ops.idx (hM3.top.later hb).2 O O O (by omega) (by omega) (Az O), fun _ _ hb _ _ => Ops.ld_sl (hM3.top.later hb) O (by omega) O O (Az O), Dr O, Dr O, fun _ _ hb _ _ => Ops.idx (hM3.top.later hb).2 O O O (by omega) (by omega) (Az O), fun _ _ hb _ _ => Ops.ld_sl (hM3.top.later hb) O (by omega) O O (Az O), ?_, ?_, trivial⟩
        · intro e1 w1 hb hp hun
          refine Ops.call (commonOf_c (rg rs (a : Int)).a (rg rs (b : Int)).a (rg rs (a : Int)).n (rg rs (a : Int)).c (rg rs (b : Int)).n (rg rs (b : Int)).c (gl fl (a : Int)) (gl fl (b : Int)) _ (hra.later hb) (hrb.later hb) (by omega) (by omega)) O O O ?_
          rintro _ w9 ⟨A6, c6, rfl, hst⟩
          refine Ops.n ?_
          exact After.dn hst.below ⟨A6, c6, by rw [hcl], by have h9 := hst.rdI 0 O; rw [hcl] at h9; exact h9⟩
        · intro e1 w1 hb hp hun
          obtain ⟨A6, c6, h32, hT⟩ := (hp 8 (by decide) rfl _ _ rfl rfl)
          refine Ops.ms O (by exact h32) O (Ops.n ?_)
          exact After.dn (Below.refl _ _) ⟨A6, c6, O, hT⟩
      intro u w4 hb4 hu
      obtain ⟨A6, c6, h6, hR6⟩ := hu 9 _ rfl
      rw [uset_eq h6]
      have hS4 := hS.later hb4
      generalize hcm : cmnP (gl fl (a : Int)) (gl fl (b : Int)) = cm at *
      clear hu hS hM3 hra hrb
      refine Geo O ?_
      refine Ops.call (keyOf_c A6 n c6 cm _ (hT.later hS4.below) hR6 (fun x hx => by have := hcr x hx; omega) (by omega)) O O O ?_
      rintro _ w5 ⟨rfl, hst⟩
      have hS5 := hS4.later hst.below
      have hR6 := hR6.later hst.below
      clear hst hS4
      refine Gdo O ?_
      refine Ops.lookGok (v := .slice (gmS M cm).a (gmS M cm).n (gmS M cm).c) keyLs (x := cm) (hS5.rdM 0 rfl) rfl rfl (by unfold gmS; cases getA M cm <;> rfl) rfl ?_
      refine Gdo O ?_
      first | refine Ops.not_p rfl rfl ?_ | refine Ops.not rfl rfl ?_
      refine Gdc O ?_
      cases hgm2 : getA M cm with
      | none => --dup 2
        refine Cd.cond_t O (Gao O (Ops.call (partsWith_c A N c rs fl n A6 c6 cm _ (hT.later hS5.below) (hS5.oldRows hM) hR6 hN hn hl hnd) O O O ?_))
        rintro _ w6 ⟨A8, L, rfl, hL, hst⟩
        have hS6 := hS5.call hst
        refine Gdo O (Ops.upm O keyLs 1 (a := cm) (u := (⟨A8, N, N⟩, L)) hS6 O O O O ?_)
        intro w7 hS7
        have hrow : RdI w7 A8 N L := hS7.rdI 0 O
        have hS8 : St w w7 (CkM 132 g (prV kyV mpV (putA M cm (⟨A8, N, N⟩, L))) :: (rwM 2 (putA M cm (⟨A8, N, N⟩, L)) ++ [])) := St.putM (M := M) (x := cm) (u := (⟨A8, N, N⟩, L)) (pre := [_]) (by rw [get_none_del hgm2]; exact hS7)
        have hLb8 : ∀ l u, getA (putA M cm (⟨A8, N, N⟩, L)) l = some u → LblP N (LkH n fl l) N u.2 := fun l u h => by
          rw [getA_put] at h
          split at h
          · rename_i e; subst e
            injection h with h
            subst h
            exact hL
          · exact hLb l u h
        clear hS7 hS6 hS5 hst hR6
        have hLl := hL.1
        have hrl := hrow.1
        have hdne := hL.done (LkH.per n fl cm |> fun h => hfl ▸ h) hlk.1 hlk.2.1
        refine Gdc O ?_
        refine Cd.draw [xS (A8) (N) (N), xI ((a : Int)), xP (ptrAt (A8) ((a : Int)).toNat), xI (gi (L) ((a : Int))), xS (A8) (N) (N), xI ((b : Int)), xP (ptrAt (A8) ((b : Int)).toNat), xI (gi (L) ((b : Int))), xB (decide (¬ (gi (L) ((a : Int))) = (gi (L) ((b : Int)))))] (by kernel_rfl) (by kernel_rfl) O (exL O) ?_ ?_
        · exact ⟨Dr O, Dr O, fun _ _ hb _ _ => Ops.idx (hrow.later hb).2 O O O (by omega) (by omega) (Az O), fun _ _ hb _ _ => Ops.ld_int (hrow.later hb) O (by omega) O O (Az O), Dr O, Dr O, fun _ _ hb _ _ => Ops.idx (hrow.later hb).2 O O O (by omega) (by omega) (Az O), fun _ _ hb _ _ => Ops.ld_int (hrow.later hb) O (by omega) O O (Az O), Dr O, trivial⟩
        intro u w9 hb9 _
        have hS9 := hS8.later hb9
        refine Gec O ?_
        refine Cd.cond_p _ O (fun h3 => ?_) (fun h3 => ?_)
        · refine Gao O ?_
          refine Ops.bsL [(a : Int), (b : Int)] hS9 O O (by decide) (by decide) O O ?_
          intro A9 w10 hS10
          refine Gdr O (thenQ_r (Qk_ret (thenQ_r (Qk_ret ?_))))
          refine ret1_s O ?_
          refine ⟨A9, 2, 2, O, ⟨fun h => ?_, fun h => ?_⟩, hS10.none⟩
          · rw [Rd.some_of (hS10.rdI 0 rfl).2 (by decide)] at h
            cases h
          · exact absurd (hdne.2 (hlk.2.2.2 (h a b hab (by omega)))) h3
        · have hok := hlk.2.2.1 (hdne.1 (Classical.not_not.1 h3))
          refine Gao O (Ops.add O O O (by omega) (Gdn O (tQ ?_)))
          exact ⟨(b + 1, putA M cm (⟨A8, N, N⟩, L)), by show N - (b + 1) < N - b; omega, ⟨O, O, O, O, O, O, trivial⟩, ⟨Nat.lt_succ_of_lt hab, hb⟩, hLb8, fun b' h4 h5 => by
            by_cases e9 : b' = b
            · subst e9; exact hok
            · exact hdb b' h4 (by have h5 : b' < b + 1 := h5; omega), hS9⟩
      | some u0 =>
        have hL : LblP N (LkH n fl cm) N (gmX M cm) := by
          rw [(gm_some hgm2).2]
          exact hLb cm u0 hgm2
        have hrow : RdI w5 (gmS M cm).a (gmS M cm).n (gmX M cm) := St.rdMx (pre := [_]) (x := cm) hS5
        refine Cd.cond_f O ?_
        have hLl := hL.1
        have hrl := hrow.1
        have hdne := hL.done (LkH.per n fl cm |> fun h => hfl ▸ h) hlk.1 hlk.2.1
        refine Gac O ?_
        refine Cd.draw [xS ((gmS M cm).a) ((gmS M cm).n) ((gmS M cm).c), xI ((a : Int)), xP (ptrAt ((gmS M cm).a) ((a : Int)).toNat), xI (gi (gmX M cm) ((a : Int))), xS ((gmS M cm).a) ((gmS M cm).n) ((gmS M cm).c), xI ((b : Int)), xP (ptrAt ((gmS M cm).a) ((b : Int)).toNat), xI (gi (gmX M cm) ((b : Int))), xB (decide (¬ (gi (gmX M cm) ((a : Int))) = (gi (gmX M cm) ((b : Int)))))] (by kernel_rfl) (by kernel_rfl) O (exL O) ?_ ?_
        · exact ⟨Dr O, Dr O, fun _ _ hb _ _ => Ops.idx (hrow.later hb).2 O O O (by omega) (by omega) (Az O), fun _ _ hb _ _ => Ops.ld_int (hrow.later hb) O (by omega) O O (Az O), Dr O, Dr O, fun _ _ hb _ _ => Ops.idx (hrow.later hb).2 O O O (by omega) (by omega) (Az O), fun _ _ hb _ _ => Ops.ld_int (hrow.later hb) O (by omega) O O (Az O), Dr O, trivial⟩
        intro u w9 hb9 _
        have hS9 := hS5.later hb9
        refine Gec O ?_
        refine Cd.cond_p _ O (fun h3 => ?_) (fun h3 => ?_)
        · refine Gao O ?_
          refine Ops.bsL [(a : Int), (b : Int)] hS9 O O (by decide) (by decide) O O ?_
          intro A9 w10 hS10
          refine Gdr O (thenQ_r (Qk_ret (thenQ_r (Qk_ret ?_))))
          refine ret1_s O ?_
          refine ⟨A9, 2, 2, O, ⟨fun h => ?_, fun h => ?_⟩, hS10.none⟩
          · rw [Rd.some_of (hS10.rdI 0 rfl).2 (by decide)] at h
            cases h
          · exact absurd (hdne.2 (hlk.2.2.2 (h a b hab (by omega)))) h3
        · have hok := hlk.2.2.1 (hdne.1 (Classical.not_not.1 h3))
          refine Gao O (Ops.add O O O (by omega) (Gdn O (tQ ?_)))
          exact ⟨(b + 1, M), by show N - (b + 1) < N - b; omega, ⟨O, O, O, O, O, O, trivial⟩, ⟨Nat.lt_succ_of_lt hab, hb⟩, hLb, fun b' h4 h5 => by
            by_cases e9 : b' = b
            · subst e9; exact hok
            · exact hdb b' h4 (by have h5 : b' < b + 1 := h5; omega), hS9⟩
    · have hbe : b = N := by omega
      refine Gax O (thenQ_x (Gfo O (Ops.add O O O (by omega) (Gdn O (tQ ?_)))))
      exact ⟨(a + 1, M), by show N - (a + 1) < N - a; omega, ⟨O, O, O, O, trivial⟩, haN, hLb, fun a' b' h3 h4 h5 => by
        by_cases e9 : a' = a
        · subst e9; exact hdb b' h4 (by omega)
        · exact hdn a' b' (by have h3 : a' < a + 1 := h3; omega) h4 h5, hS⟩
  · have hae : a = N := by omega
    refine Gax O (thenQ_x (Gfr O ?_))
    refine ret1_s O ?_
    exact ⟨none, 0, 0, O, ⟨fun _ a' b' h3 h4 => hdn a' b' (by omega) h3 (by omega), fun _ => O⟩, hS.none⟩
/-
 The program's test of diamonds and of polytopes, walked. Conditions: the library's table of powers of ten holds what the program's text lays there.
-/
theorem plcP_mem {xs : List Int} {x e : Int} : e ∈ plcP xs x ↔ (0 ≤ e ∧ e < xs.length) ∧ gi xs e = x := by
 unfold plcP
 rw [List.mem_filter, rngI_mem, decide_eq_true_eq]
theorem rkL_lo {n : Int} {R : List Int} {i e : Int} (h0 : 0 ≤ i) (h1 : i < n) : e ∈ rkL n R (i - 1) ↔ LoP R i e := by
 unfold rkL LoP
 split
 ·rw [plcP_mem]
  exact ⟨fun h => .inr ⟨h.1, by omega, h.2⟩, fun h => h.elim (fun h => by omega) fun h => ⟨h.1, h.2.2⟩⟩
 rw [List.mem_singleton]
 exact ⟨fun h => .inl ⟨h, by omega⟩, fun h => h.elim (fun h => h.1) fun h => by omega⟩
theorem rkL_hi {n : Int} {R : List Int} {i f : Int} (h0 : 0 ≤ i) (h1 : i < n) : f ∈ rkL n R (i + 1) ↔ HiP n R i f := by
 unfold rkL HiP
 split
 ·rw [plcP_mem]
  exact ⟨fun h => .inr ⟨h.1, by omega, h.2⟩, fun h => h.elim (fun h => by omega) fun h => ⟨h.1, h.2.2⟩⟩
 rw [List.mem_singleton]
 exact ⟨fun h => .inl ⟨h, by omega⟩, fun h => h.elim (fun h => h.1) fun h => by omega⟩
theorem rkL_mid {n : Int} {R : List Int} {i : Int} (h0 : 0 ≤ i) (h1 : i < n) : rkL n R i = plcP R i := by
 unfold rkL
 rw [if_pos (by omega)]
theorem rkL_len {n : Int} {R : List Int} {i : Int} (h : R.length ≤ 500) : (rkL n R i).length ≤ 500 := by
 unfold rkL
 split
 ·refine Nat.le_trans (List.length_filter_le _ _) ?_
  rw [rngI, List.length_map, List.length_range]; exact h
 exact (by decide : 1 ≤ 500)
theorem rkL_rng {n : Int} {R : List Int} {i e : Int} (h : e ∈ rkL n R i) : e = -1 ∨ (0 ≤ e ∧ e < R.length) := by
 unfold rkL at h
 split at h
 ·exact .inr (plcP_mem.1 h).1
 exact .inl (List.mem_singleton.1 h)
def cntT (P : Int → Prop) [DecidablePred P] (xs : List Int) (q : Nat) : Nat := ((xs.take q).filter fun x => decide (P x)).length
section
variable {P : Int → Prop} [DecidablePred P] {xs : List Int} {q : Nat}
theorem cntT_le : cntT P xs q ≤ q := by
 unfold cntT
 refine Nat.le_trans (List.length_filter_le _ _) ?_
 rw [List.length_take]; omega
theorem cntT_yes (h : q < xs.length) (hp : P (gi xs (q : Int))) : cntT P xs (q + 1) = cntT P xs q + 1 := by
 unfold cntT
 rw [take_snoc h, List.filter_append, List.length_append]
 simp [hp]
theorem cntT_no (h : q < xs.length) (hp : ¬ P (gi xs (q : Int))) : cntT P xs (q + 1) = cntT P xs q := by
 unfold cntT
 rw [take_snoc h, List.filter_append, List.length_append]
 simp [hp]
end
def btwP (B : List (List Int)) (e f x : Int) : Prop := (e < 0 ∨ e ∈ gl B x) ∧ (f < 0 ∨ x ∈ gl B f)
instance (B : List (List Int)) (e f : Int) : DecidablePred (btwP B e f) := fun x => by unfold btwP; infer_instance
theorem cnt_mid {R : List Int} {B : List (List Int)} {i e f : Int} : cntT (btwP B e f) (plcP R i) (plcP R i).length = (MidP R B i e f).length := by
 unfold cntT MidP plcP
 rw [List.take_length, List.filter_filter]
 congr 1
 refine List.filter_congr fun x _ => ?_
 rw [← Bool.decide_and]
 refine decide_eq_decide.2 ?_
 unfold btwP
 exact ⟨fun h => ⟨h.2, h.1⟩, fun h => ⟨h.2, h.1⟩⟩
set_option maxHeartbeats 4000000 in
theorem diamondFault_c (n : Int) (A D : Option Addr) (cA cD : Nat) (R : List Int) (rs : List SlV) (B : List (List Int)) (w : World) (hR : RdI w A R.length R) (hB : RowsI w D B.length rs B) (hP : PosP n R B) :
  Ret Tryz.prog 88 [.agg #[.int .i64 n, .slice A R.length cA, .slice D B.length cD]] w (fun v w' => ∃ A' n' c', v = .slice A' n' c' ∧ (A'.isNone = true ↔ DiaP n R B) ∧ St w w' []) := by
 have hn := hP.n1
 have hbg := hP.big
 have hle := hP.len
 have hrow := fun (e : Int) (h0 : 0 ≤ e) (h : e < (R.length : Int)) => (hP.at_ h0 h).1
 have hrl : ∀ e : Int, 0 ≤ e → e < R.length → (gl B e).length ≤ 500 := fun e h0 h => by
  have := nodup_le_int (N := R.length) (hrow e h0 h).nodup fun x hx => by have := ((hP.at_ h0 h).2.1 x hx).1; omega
  omega
 refine Ret.of_cd Tryz.func88 O Tryz.ntmps88 O (post1 O) (Gbo O (Ops.box3T (St.refl w) O O ?_))
 intro A1 w1 hS1
 have h1 : Rd w1 A1 3 (fun j => [Value.int .i64 n, .slice A R.length cA, .slice D B.length cD].getD j undef) := hS1.rd 0 O
 have hR := hS1.oldI hR
 have hB := hS1.oldRows hB
 have hS1 := hS1.none
 refine Gdo O (Ops.fld h1 O O O O inferInstance (Ops.ldf_i (j := 0) h1 (by exact congrArg Value.pointer O) O O O O (Gdc O ?_)))
 refine Cd.loop (α := Nat) (fun i => [(1, .pointer A1), (14, .int .i64 n), (15, .int .i64 (i : Int))]) (fun i w' => (i : Int) ≤ n ∧ (∀ i' e f : Int, 0 ≤ i' → i' < (i : Int) → e ∈ rkL n R (i' - 1) → f ∈ rkL n R (i' + 1) → (0 ≤ e → 0 ≤ f → e ∈ gl B f) → (MidP R B i' e f).length = 2) ∧ St w1 w' []) (fun i => n.toNat - i) 0 ⟨O, O, O, trivial⟩ ⟨by show ((0 : Nat) : Int) ≤ n; omega, fun i' e f h h' => by have h' : i' < ((0 : Nat) : Int) := h'; omega, St.refl _⟩ ?_
 rintro i e w2 ⟨hi, hdn, hst⟩
 have h1 := Rd.below h1 hst.below
 have hR := hst.oldI hR
 have hB := hst.oldRows hB
 have hS2 := hS1.later hst.below
 refine Gbc O ?_
 refine Cd.cond_p _ O (fun h2 => ?_) (fun h2 => ?_)
 ·have hmd := rkL_mid (R := R) (show 0 ≤ (i : Int) by omega) h2
  have hmdl := rkL_len (n := n) (i := (i : Int)) hbg
  have hlol := rkL_len (n := n) (i := (i : Int) - 1) hbg
  have hhil := rkL_len (n := n) (i := (i : Int) + 1) hbg
  have hmdm := fun x => plcP_mem (xs := R) (x := (i : Int)) (e := x)
  refine Gao O (Ops.call (ofRank_c A1 A D n R.length cA B.length cD R (i : Int) _ h1 hR (by omega) (by omega)) O O O ?_)
  rintro _ w3 ⟨A4, c4, rfl, hst4⟩
  have h4 := hst4.rdI 0 O
  refine Gdo O (Ops.add O O O (by omega) ?_)
  refine Ops.call (ofRank_c A1 A D n R.length cA B.length cD R ((i : Int) + 1) _ (Rd.below h1 hst4.below) (hst4.oldI hR) (by omega) (by omega)) O O O ?_
  rintro _ w4 ⟨A5, c5, rfl, hst5⟩
  have h5 := hst5.rdI 0 O
  have h4 := h4.later hst5.below
  refine Gdo O (Ops.sub O O O (by omega) ?_)
  refine Ops.call (ofRank_c A1 A D n R.length cA B.length cD R ((i : Int) - 1) _ (Rd.below h1 (hst4.below.trans (hst5.below.mono hst4.below.size))) (hst5.oldI (hst4.oldI hR)) (by omega) (by omega)) O O O ?_
  rintro _ w5 ⟨A6, c6, rfl, hst6⟩
  have h6 := hst6.rdI 0 O
  have h4 := h4.later hst6.below
  have h5 := h5.later hst6.below
  have hb5 := (hst4.below.trans (hst5.below.mono hst4.below.size))
  have hb5 := hb5.trans (hst6.below.mono hb5.size)
  have h1 := Rd.below h1 hb5
  have hB := hB.later hb5
  have hS5 := hS2.later hb5
  have hst5b := hst.later hb5
  clear hst4 hst5 hst6 hst hS2
  obtain ⟨ms, hms⟩ : ∃ ms, rkL n R (i : Int) = ms := ⟨_, rfl⟩
  obtain ⟨los, hlos⟩ : ∃ los, rkL n R ((i : Int) - 1) = los := ⟨_, rfl⟩
  obtain ⟨his, hhis⟩ : ∃ his, rkL n R ((i : Int) + 1) = his := ⟨_, rfl⟩
  rw [hms] at h4 hmdl hmd
  rw [hhis] at h5 hhil
  rw [hlos] at h6 hlol
  have hcn := fun e f => cnt_mid (R := R) (B := B) (i := (i : Int)) (e := e) (f := f)
  rw [← hmd] at hcn
  have hmm : ∀ x ∈ ms, (0 ≤ x ∧ x < R.length) := fun x hx => ((hmdm x).1 (hmd ▸ hx)).1
  have hlr : ∀ x ∈ los, x = -1 ∨ (0 ≤ x ∧ x < R.length) := fun x hx => rkL_rng (hlos ▸ hx)
  have hhr : ∀ x ∈ his, x = -1 ∨ (0 ≤ x ∧ x < R.length) := fun x hx => rkL_rng (hhis ▸ hx)
  rw [hms, hlos, hhis]
  refine Ops.len O O (Gdc O ?_)
  refine Cd.loop (α := Nat) (fun j => [(1, .pointer A1), (14, .int .i64 n), (15, .int .i64 (i : Int)), (3, .int .i64 (i : Int)), (4, .slice A4 ms.length c4), (5, .slice A5 his.length c5), (25, .slice A6 los.length c6), (26, .int .i64 (los.length : Int)), (27, .int .i64 (j : Int))]) (fun j w' => j ≤ los.length ∧ w' = w5 ∧ ∀ p : Nat, p < j → ∀ f ∈ his, (0 ≤ gi los (p : Int) → 0 ≤ f → gi los (p : Int) ∈ gl B f) → (MidP R B i (gi los (p : Int)) f).length = 2) (fun j => los.length - j) 0 ⟨O, O, O, O, O, O, O, O, O, trivial⟩ ⟨Nat.zero_le _, O, fun p h => absurd h (Nat.not_lt_zero _)⟩ ?_
  rintro j e w6 ⟨hj, rfl, hlo⟩
  refine Gbc O ?_
  refine Cd.cond_p _ O (fun h7 => ?_) (fun h7 => ?_)
  ·have hjl : j < los.length := by omega
   refine Gao O (Ops.idx h6.2 O O O (by omega) (by omega) (Ops.ld_int h6 O (by omega) O O ?_))
   refine Gdo O (Ops.len O O (Gdc O ?_))
   have her := hlr _ (gi_in hjl)
   generalize hee : gi los (j : Int) = ee at *
   refine Cd.loop (α := Nat) (fun k => [(1, .pointer A1), (14, .int .i64 n), (15, .int .i64 (i : Int)), (3, .int .i64 (i : Int)), (4, .slice A4 ms.length c4), (5, .slice A5 his.length c5), (25, .slice A6 los.length c6), (26, .int .i64 (los.length : Int)), (27, .int .i64 (j : Int)), (7, .int .i64 ee), (31, .slice A5 his.length c5), (32, .int .i64 (his.length : Int)), (33, .int .i64 (k : Int))]) (fun k w' => k ≤ his.length ∧ w' = w6 ∧ ∀ p : Nat, p < k → (0 ≤ ee → 0 ≤ gi his (p : Int) → ee ∈ gl B (gi his (p : Int))) → (MidP R B i ee (gi his (p : Int))).length = 2) (fun k => his.length - k) 0 ⟨O, O, O, O, O, O, O, O, O, O, O, O, O, trivial⟩ ⟨Nat.zero_le _, O, fun p h => absurd h (Nat.not_lt_zero _)⟩ ?_
   rintro k e w7 ⟨hk, rfl, hhi⟩
   refine Gbc O ?_
   refine Cd.cond_p _ O (fun h8 => ?_) (fun h8 => ?_)
   ·have hkl : k < his.length := by omega
    refine Gao O (Ops.idx h5.2 O O O (by omega) (by omega) (Ops.ld_int h5 O (by omega) O O (Gdo O ?_)))
    have hfr := hhr _ (gi_in hkl)
    generalize hff : gi his (k : Int) = ff at *
    have hstep : ((0 ≤ ee → 0 ≤ ff → ee ∈ gl B ff) → (MidP R B i ee ff).length = 2) → ∀ p : Nat, p < k + 1 → (0 ≤ ee → 0 ≤ gi his (p : Int) → ee ∈ gl B (gi his (p : Int))) → (MidP R B i ee (gi his (p : Int))).length = 2 := fun h p hp => by
     by_cases ep : p = k
     ·subst ep; rw [hff]; exact h
     exact hhi p (by omega)
    refine Ops.split_p 39 O (fun h9 => ?_) (fun h9 => ?_)
    ·refine Ops.g O O O (Gdo O (Ops.g O O O (Gdo O ?_)))
     refine Ops.split_p 43 O (fun h10 => ?_) (fun h10 => ?_)
     ·refine Ops.g O O O (Gdo O (Ops.g O O O (Gdo O (Ops.g O O O ?_))))
      refine Ops.call (isBelow_c A1 A D cA cD n R rs B ee ff _ h1 hB (by omega) (hrow ff h10 (by omega)) (by have := hrl ff h10 (by omega); omega)) O O O ?_
      rintro _ w8 ⟨rfl, rfl⟩
      refine Ops.g O O O ?_
      first | refine Ops.not_p rfl rfl ?_ | refine Ops.not rfl rfl ?_
      refine Gdc O ?_
      refine Cd.cond_p _ O (fun h11 => ?_) (fun h11 => ?_)
      ·refine Gao O (Ops.add O O O (by omega) (Gdn O (tQ ?_)))
       exact ⟨k + 1, by show his.length - (k + 1) < his.length - k; omega, ⟨O, O, O, O, O, O, O, O, O, O, O, O, O, trivial⟩, by omega, O, hstep fun h => absurd (h h9 h10) h11⟩
      have hpre : 0 ≤ ee → 0 ≤ ff → ee ∈ gl B ff := fun _ _ => Classical.not_not.1 h11
      refine Gao O (Ops.len O O (Gdc O ?_))
      refine Cd.loop (α := Nat) (fun q => [(1, .pointer A1), (14, .int .i64 n), (15, .int .i64 (i : Int)), (3, .int .i64 (i : Int)), (4, .slice A4 ms.length c4), (5, .slice A5 his.length c5), (25, .slice A6 los.length c6), (26, .int .i64 (los.length : Int)), (27, .int .i64 (j : Int)), (7, .int .i64 ee), (31, .slice A5 his.length c5), (32, .int .i64 (his.length : Int)), (33, .int .i64 (k : Int)), (9, .int .i64 ff), (10, .int .i64 ((cntT (btwP B ee ff) ms q : Nat) : Int)), (49, .slice A4 ms.length c4), (50, .int .i64 (ms.length : Int)), (51, .int .i64 (q : Int))]) (fun q w' => q ≤ ms.length ∧ w' = w8) (fun q => ms.length - q) 0 ⟨O, O, O, O, O, O, O, O, O, O, O, O, O, O, O, O, O, O, trivial⟩ ⟨Nat.zero_le _, O⟩ ?_
      rintro q e w9 ⟨hq, rfl⟩
      have hcl := cntT_le (P := btwP B ee ff) (xs := ms) (q := q)
      refine Gbc O ?_
      refine Cd.cond_p _ O (fun h12 => ?_) (fun h12 => ?_)
      ·have hqm : q < ms.length := by omega
       have hx := hmm _ (gi_in hqm)
       have hyes := cntT_yes (P := btwP B ee ff) hqm
       have hno := cntT_no (P := btwP B ee ff) hqm
       refine Gao O (Ops.idx h4.2 O O O (by omega) (by omega) (Ops.ld_int h4 O (by omega) O O (Gdo O ?_)))
       generalize hxx : gi ms (q : Int) = xx at *
       refine Ops.split_p 57 O (fun h13 => ?_) (fun h13 => ?_)
       ·refine Ops.k O O O O O (Ops.k O O O O O (Ops.k O O O O O (Gdo O (Ops.g O O O (Gdo O (Ops.g O O O (Gdo O (Ops.g O O O (Gdo O ?_)))))))))
        refine Ops.split_p 65 O (fun h14 => ?_) (fun h14 => ?_)
        ·refine Ops.k O O O O O (Ops.k O O O O O (Ops.k O O O O O (Ops.g O O O (Gdc O ?_))))
         refine Cd.cond_t O ?_
         refine Gao O (Ops.add O O O (by omega) (Gdo O (Ops.add O O O (by omega) (Gdn O (tQ ?_)))))
         exact ⟨q + 1, by show ms.length - (q + 1) < ms.length - q; omega, ⟨O, O, O, O, O, O, O, O, O, O, O, O, O, O, congrArg (fun m : Nat => Value.int .i64 (m : Int)) (hyes ⟨.inl h13, .inl h14⟩).symm, O, O, O, trivial⟩, by omega, O⟩
        refine Ops.g O O O (Gdo O (Ops.g O O O (Gdo O (Ops.g O O O ?_))))
        refine Ops.call (isBelow_c A1 A D cA cD n R rs B xx ff _ h1 hB (by omega) (hrow ff (by omega) (by omega)) (by have := hrl ff (by omega) (by omega); omega)) O O O ?_
        rintro _ w10 ⟨rfl, rfl⟩
        refine Ops.g O O O (Gdc O ?_)
        refine Cd.cond_p _ O (fun h15 => ?_) (fun h15 => ?_)
        ·refine Gao O (Ops.add O O O (by omega) (Gdo O (Ops.add O O O (by omega) (Gdn O (tQ ?_)))))
         exact ⟨q + 1, by show ms.length - (q + 1) < ms.length - q; omega, ⟨O, O, O, O, O, O, O, O, O, O, O, O, O, O, congrArg (fun m : Nat => Value.int .i64 (m : Int)) (hyes ⟨.inl h13, .inr h15⟩).symm, O, O, O, trivial⟩, by omega, O⟩
        refine Gao O (Ops.add O O O (by omega) (Gdn O (tQ ?_)))
        exact ⟨q + 1, by show ms.length - (q + 1) < ms.length - q; omega, ⟨O, O, O, O, O, O, O, O, O, O, O, O, O, O, congrArg (fun m : Nat => Value.int .i64 (m : Int)) (hno fun h => h.2.elim h14 h15).symm, O, O, O, trivial⟩, by omega, O⟩
       refine Ops.g O O O (Gdo O (Ops.g O O O (Gdo O (Ops.g O O O ?_))))
       refine Ops.call (isBelow_c A1 A D cA cD n R rs B ee xx _ h1 hB (by omega) (hrow xx (by omega) (by omega)) (by have := hrl xx (by omega) (by omega); omega)) O O O ?_
       rintro _ w10 ⟨rfl, rfl⟩
       refine Gdo O ?_
       refine Ops.split_p 62 O (fun h16 => ?_) (fun h16 => ?_)
       ·refine Ops.g O O O (Gdo O (Ops.g O O O (Gdo O (Ops.g O O O (Gdo O ?_)))))
        refine Ops.split_p 65 O (fun h14 => ?_) (fun h14 => ?_)
        ·refine Ops.k O O O O O (Ops.k O O O O O (Ops.k O O O O O (Ops.g O O O (Gdc O ?_))))
         refine Cd.cond_t O ?_
         refine Gao O (Ops.add O O O (by omega) (Gdo O (Ops.add O O O (by omega) (Gdn O (tQ ?_)))))
         exact ⟨q + 1, by show ms.length - (q + 1) < ms.length - q; omega, ⟨O, O, O, O, O, O, O, O, O, O, O, O, O, O, congrArg (fun m : Nat => Value.int .i64 (m : Int)) (hyes ⟨.inr h16, .inl h14⟩).symm, O, O, O, trivial⟩, by omega, O⟩
        refine Ops.g O O O (Gdo O (Ops.g O O O (Gdo O (Ops.g O O O ?_))))
        refine Ops.call (isBelow_c A1 A D cA cD n R rs B xx ff _ h1 hB (by omega) (hrow ff (by omega) (by omega)) (by have := hrl ff (by omega) (by omega); omega)) O O O ?_
        rintro _ w11 ⟨rfl, rfl⟩
        refine Ops.g O O O (Gdc O ?_)
        refine Cd.cond_p _ O (fun h15 => ?_) (fun h15 => ?_)
        ·refine Gao O (Ops.add O O O (by omega) (Gdo O (Ops.add O O O (by omega) (Gdn O (tQ ?_)))))
         exact ⟨q + 1, by show ms.length - (q + 1) < ms.length - q; omega, ⟨O, O, O, O, O, O, O, O, O, O, O, O, O, O, congrArg (fun m : Nat => Value.int .i64 (m : Int)) (hyes ⟨.inr h16, .inr h15⟩).symm, O, O, O, trivial⟩, by omega, O⟩
        refine Gao O (Ops.add O O O (by omega) (Gdn O (tQ ?_)))
        exact ⟨q + 1, by show ms.length - (q + 1) < ms.length - q; omega, ⟨O, O, O, O, O, O, O, O, O, O, O, O, O, O, congrArg (fun m : Nat => Value.int .i64 (m : Int)) (hno fun h => h.2.elim h14 h15).symm, O, O, O, trivial⟩, by omega, O⟩
       refine Ops.k O O O O O (Ops.k O O O O O (Ops.k O O O O O (Ops.skipu O O O O (Ops.skipu O O O O (Ops.skipu O O O O (Ops.k O O O O O (Gdc O ?_)))))))
       refine Cd.cond_f O ?_
       refine Gao O (Ops.add O O O (by omega) (Gdn O (tQ ?_)))
       exact ⟨q + 1, by show ms.length - (q + 1) < ms.length - q; omega, ⟨O, O, O, O, O, O, O, O, O, O, O, O, O, O, congrArg (fun m : Nat => Value.int .i64 (m : Int)) (hno fun h => h.1.elim h13 h16).symm, O, O, O, trivial⟩, by omega, O⟩
      have hqe : q = ms.length := by omega
      subst hqe
      have hce := hcn ee ff
      refine Gax O (thenQ_x (Gfc O ?_))
      refine Cd.cond_p _ O (fun h13 => ?_) (fun h13 => ?_)
      ·refine Gao O ?_
       refine Ops.bsL [(i : Int), ee, ff] hS5 O O (by decide) (by decide) O O ?_
       intro A9 w10 hS10
       refine Gdr O (thenQ_r (Qk_ret (thenQ_r (Qk_ret (thenQ_r (Qk_ret ?_))))))
       refine ret1_s O ?_
       refine ⟨A9, 3, 3, O, ⟨fun h => ?_, fun h => ?_⟩, hS10.none⟩
       ·rw [Rd.some_of (hS10.rdI 0 rfl).2 (by decide)] at h
        cases h
       have hbad := h (i : Int) ee ff (by omega) h2 ((rkL_lo (by omega) h2).1 (by rw [hlos, ← hee]; exact gi_in hjl)) ((rkL_hi (by omega) h2).1 (by rw [hhis, ← hff]; exact gi_in hkl)) hpre
       omega
      refine Gao O (Ops.add O O O (by omega) (Gdn O (tQ ?_)))
      exact ⟨k + 1, by show his.length - (k + 1) < his.length - k; omega, ⟨O, O, O, O, O, O, O, O, O, O, O, O, O, trivial⟩, by omega, O, hstep fun _ => by omega⟩
     have hpre : 0 ≤ ee → 0 ≤ ff → ee ∈ gl B ff := fun _ h => absurd h h10
     refine Ops.k O O O O O (Ops.k O O O O O (Ops.k O O O O O (Ops.k O O O O O (Gdc O ?_))))
     refine Cd.cond_f O ?_
     refine Gao O (Ops.len O O (Gdc O ?_))
     refine Cd.loop (α := Nat) (fun q => [(1, .pointer A1), (14, .int .i64 n), (15, .int .i64 (i : Int)), (3, .int .i64 (i : Int)), (4, .slice A4 ms.length c4), (5, .slice A5 his.length c5), (25, .slice A6 los.length c6), (26, .int .i64 (los.length : Int)), (27, .int .i64 (j : Int)), (7, .int .i64 ee), (31, .slice A5 his.length c5), (32, .int .i64 (his.length : Int)), (33, .int .i64 (k : Int)), (9, .int .i64 ff), (10, .int .i64 ((cntT (btwP B ee ff) ms q : Nat) : Int)), (49, .slice A4 ms.length c4), (50, .int .i64 (ms.length : Int)), (51, .int .i64 (q : Int))]) (fun q w' => q ≤ ms.length ∧ w' = w7) (fun q => ms.length - q) 0 ⟨O, O, O, O, O, O, O, O, O, O, O, O, O, O, O, O, O, O, trivial⟩ ⟨Nat.zero_le _, O⟩ ?_
     rintro q e w9 ⟨hq, rfl⟩
     have hcl := cntT_le (P := btwP B ee ff) (xs := ms) (q := q)
     refine Gbc O ?_
     refine Cd.cond_p _ O (fun h12 => ?_) (fun h12 => ?_)
     ·have hqm : q < ms.length := by omega
      have hx := hmm _ (gi_in hqm)
      have hyes := cntT_yes (P := btwP B ee ff) hqm
      have hno := cntT_no (P := btwP B ee ff) hqm
      refine Gao O (Ops.idx h4.2 O O O (by omega) (by omega) (Ops.ld_int h4 O (by omega) O O (Gdo O ?_)))
      generalize hxx : gi ms (q : Int) = xx at *
      refine Ops.split_p 57 O (fun h13 => ?_) (fun h13 => ?_)
      ·refine Ops.k O O O O O (Ops.k O O O O O (Ops.k O O O O O (Gdo O (Ops.g O O O (Gdo O (Ops.g O O O (Gdo O (Ops.g O O O (Gdo O ?_)))))))))
       refine Ops.split_p 65 O (fun h14 => ?_) (fun h14 => ?_)
       ·refine Ops.k O O O O O (Ops.k O O O O O (Ops.k O O O O O (Ops.g O O O (Gdc O ?_))))
        refine Cd.cond_t O ?_
        refine Gao O (Ops.add O O O (by omega) (Gdo O (Ops.add O O O (by omega) (Gdn O (tQ ?_)))))
        exact ⟨q + 1, by show ms.length - (q + 1) < ms.length - q; omega, ⟨O, O, O, O, O, O, O, O, O, O, O, O, O, O, congrArg (fun m : Nat => Value.int .i64 (m : Int)) (hyes ⟨.inl h13, .inl h14⟩).symm, O, O, O, trivial⟩, by omega, O⟩
       refine Ops.g O O O (Gdo O (Ops.g O O O (Gdo O (Ops.g O O O ?_))))
       refine Ops.call (isBelow_c A1 A D cA cD n R rs B xx ff _ h1 hB (by omega) (hrow ff (by omega) (by omega)) (by have := hrl ff (by omega) (by omega); omega)) O O O ?_
       rintro _ w10 ⟨rfl, rfl⟩
       refine Ops.g O O O (Gdc O ?_)
       refine Cd.cond_p _ O (fun h15 => ?_) (fun h15 => ?_)
       ·refine Gao O (Ops.add O O O (by omega) (Gdo O (Ops.add O O O (by omega) (Gdn O (tQ ?_)))))
        exact ⟨q + 1, by show ms.length - (q + 1) < ms.length - q; omega, ⟨O, O, O, O, O, O, O, O, O, O, O, O, O, O, congrArg (fun m : Nat => Value.int .i64 (m : Int)) (hyes ⟨.inl h13, .inr h15⟩).symm, O, O, O, trivial⟩, by omega, O⟩
       refine Gao O (Ops.add O O O (by omega) (Gdn O (tQ ?_)))
       exact ⟨q + 1, by show ms.length - (q + 1) < ms.length - q; omega, ⟨O, O, O, O, O, O, O, O, O, O, O, O, O, O, congrArg (fun m : Nat => Value.int .i64 (m : Int)) (hno fun h => h.2.elim h14 h15).symm, O, O, O, trivial⟩, by omega, O⟩
      refine Ops.g O O O (Gdo O (Ops.g O O O (Gdo O (Ops.g O O O ?_))))
      refine Ops.call (isBelow_c A1 A D cA cD n R rs B ee xx _ h1 hB (by omega) (hrow xx (by omega) (by omega)) (by have := hrl xx (by omega) (by omega); omega)) O O O ?_
      rintro _ w10 ⟨rfl, rfl⟩
      refine Gdo O ?_
      refine Ops.split_p 62 O (fun h16 => ?_) (fun h16 => ?_)
      ·refine Ops.g O O O (Gdo O (Ops.g O O O (Gdo O (Ops.g O O O (Gdo O ?_)))))
       refine Ops.split_p 65 O (fun h14 => ?_) (fun h14 => ?_)
       ·refine Ops.k O O O O O (Ops.k O O O O O (Ops.k O O O O O (Ops.g O O O (Gdc O ?_))))
        refine Cd.cond_t O ?_
        refine Gao O (Ops.add O O O (by omega) (Gdo O (Ops.add O O O (by omega) (Gdn O (tQ ?_)))))
        exact ⟨q + 1, by show ms.length - (q + 1) < ms.length - q; omega, ⟨O, O, O, O, O, O, O, O, O, O, O, O, O, O, congrArg (fun m : Nat => Value.int .i64 (m : Int)) (hyes ⟨.inr h16, .inl h14⟩).symm, O, O, O, trivial⟩, by omega, O⟩
       refine Ops.g O O O (Gdo O (Ops.g O O O (Gdo O (Ops.g O O O ?_))))
       refine Ops.call (isBelow_c A1 A D cA cD n R rs B xx ff _ h1 hB (by omega) (hrow ff (by omega) (by omega)) (by have := hrl ff (by omega) (by omega); omega)) O O O ?_
       rintro _ w11 ⟨rfl, rfl⟩
       refine Ops.g O O O (Gdc O ?_)
       refine Cd.cond_p _ O (fun h15 => ?_) (fun h15 => ?_)
       ·refine Gao O (Ops.add O O O (by omega) (Gdo O (Ops.add O O O (by omega) (Gdn O (tQ ?_)))))
        exact ⟨q + 1, by show ms.length - (q + 1) < ms.length - q; omega, ⟨O, O, O, O, O, O, O, O, O, O, O, O, O, O, congrArg (fun m : Nat => Value.int .i64 (m : Int)) (hyes ⟨.inr h16, .inr h15⟩).symm, O, O, O, trivial⟩, by omega, O⟩
       refine Gao O (Ops.add O O O (by omega) (Gdn O (tQ ?_)))
       exact ⟨q + 1, by show ms.length - (q + 1) < ms.length - q; omega, ⟨O, O, O, O, O, O, O, O, O, O, O, O, O, O, congrArg (fun m : Nat => Value.int .i64 (m : Int)) (hno fun h => h.2.elim h14 h15).symm, O, O, O, trivial⟩, by omega, O⟩
      refine Ops.k O O O O O (Ops.k O O O O O (Ops.k O O O O O (Ops.skipu O O O O (Ops.skipu O O O O (Ops.skipu O O O O (Ops.k O O O O O (Gdc O ?_)))))))
      refine Cd.cond_f O ?_
      refine Gao O (Ops.add O O O (by omega) (Gdn O (tQ ?_)))
      exact ⟨q + 1, by show ms.length - (q + 1) < ms.length - q; omega, ⟨O, O, O, O, O, O, O, O, O, O, O, O, O, O, congrArg (fun m : Nat => Value.int .i64 (m : Int)) (hno fun h => h.1.elim h13 h16).symm, O, O, O, trivial⟩, by omega, O⟩
     have hqe : q = ms.length := by omega
     subst hqe
     have hce := hcn ee ff
     refine Gax O (thenQ_x (Gfc O ?_))
     refine Cd.cond_p _ O (fun h13 => ?_) (fun h13 => ?_)
     ·refine Gao O ?_
      refine Ops.bsL [(i : Int), ee, ff] hS5 O O (by decide) (by decide) O O ?_
      intro A9 w10 hS10
      refine Gdr O (thenQ_r (Qk_ret (thenQ_r (Qk_ret (thenQ_r (Qk_ret ?_))))))
      refine ret1_s O ?_
      refine ⟨A9, 3, 3, O, ⟨fun h => ?_, fun h => ?_⟩, hS10.none⟩
      ·rw [Rd.some_of (hS10.rdI 0 rfl).2 (by decide)] at h
       cases h
      have hbad := h (i : Int) ee ff (by omega) h2 ((rkL_lo (by omega) h2).1 (by rw [hlos, ← hee]; exact gi_in hjl)) ((rkL_hi (by omega) h2).1 (by rw [hhis, ← hff]; exact gi_in hkl)) hpre
      omega
     refine Gao O (Ops.add O O O (by omega) (Gdn O (tQ ?_)))
     exact ⟨k + 1, by show his.length - (k + 1) < his.length - k; omega, ⟨O, O, O, O, O, O, O, O, O, O, O, O, O, trivial⟩, by omega, O, hstep fun _ => by omega⟩
    have hpre : 0 ≤ ee → 0 ≤ ff → ee ∈ gl B ff := fun h _ => absurd h h9
    refine Ops.k O O O O O (Ops.k O O O O O (Gdo O (Ops.k O O O O O (Ops.k O O O O O (Ops.k O O O O O (Ops.k O O O O O (Gdc O ?_)))))))
    refine Cd.cond_f O ?_
    refine Gao O (Ops.len O O (Gdc O ?_))
    refine Cd.loop (α := Nat) (fun q => [(1, .pointer A1), (14, .int .i64 n), (15, .int .i64 (i : Int)), (3, .int .i64 (i : Int)), (4, .slice A4 ms.length c4), (5, .slice A5 his.length c5), (25, .slice A6 los.length c6), (26, .int .i64 (los.length : Int)), (27, .int .i64 (j : Int)), (7, .int .i64 ee), (31, .slice A5 his.length c5), (32, .int .i64 (his.length : Int)), (33, .int .i64 (k : Int)), (9, .int .i64 ff), (10, .int .i64 ((cntT (btwP B ee ff) ms q : Nat) : Int)), (49, .slice A4 ms.length c4), (50, .int .i64 (ms.length : Int)), (51, .int .i64 (q : Int))]) (fun q w' => q ≤ ms.length ∧ w' = w7) (fun q => ms.length - q) 0 ⟨O, O, O, O, O, O, O, O, O, O, O, O, O, O, O, O, O, O, trivial⟩ ⟨Nat.zero_le _, O⟩ ?_
    rintro q e w9 ⟨hq, rfl⟩
    have hcl := cntT_le (P := btwP B ee ff) (xs := ms) (q := q)
    refine Gbc O ?_
    refine Cd.cond_p _ O (fun h12 => ?_) (fun h12 => ?_)
    ·have hqm : q < ms.length := by omega
     have hx := hmm _ (gi_in hqm)
     have hyes := cntT_yes (P := btwP B ee ff) hqm
     have hno := cntT_no (P := btwP B ee ff) hqm
     refine Gao O (Ops.idx h4.2 O O O (by omega) (by omega) (Ops.ld_int h4 O (by omega) O O (Gdo O ?_)))
     generalize hxx : gi ms (q : Int) = xx at *
     refine Ops.split_p 57 O (fun h13 => ?_) (fun h13 => ?_)
     ·refine Ops.k O O O O O (Ops.k O O O O O (Ops.k O O O O O (Gdo O (Ops.g O O O (Gdo O (Ops.g O O O (Gdo O (Ops.g O O O (Gdo O ?_)))))))))
      refine Ops.split_p 65 O (fun h14 => ?_) (fun h14 => ?_)
      ·refine Ops.k O O O O O (Ops.k O O O O O (Ops.k O O O O O (Ops.g O O O (Gdc O ?_))))
       refine Cd.cond_t O ?_
       refine Gao O (Ops.add O O O (by omega) (Gdo O (Ops.add O O O (by omega) (Gdn O (tQ ?_)))))
       exact ⟨q + 1, by show ms.length - (q + 1) < ms.length - q; omega, ⟨O, O, O, O, O, O, O, O, O, O, O, O, O, O, congrArg (fun m : Nat => Value.int .i64 (m : Int)) (hyes ⟨.inl h13, .inl h14⟩).symm, O, O, O, trivial⟩, by omega, O⟩
      refine Ops.g O O O (Gdo O (Ops.g O O O (Gdo O (Ops.g O O O ?_))))
      refine Ops.call (isBelow_c A1 A D cA cD n R rs B xx ff _ h1 hB (by omega) (hrow ff (by omega) (by omega)) (by have := hrl ff (by omega) (by omega); omega)) O O O ?_
      rintro _ w10 ⟨rfl, rfl⟩
      refine Ops.g O O O (Gdc O ?_)
      refine Cd.cond_p _ O (fun h15 => ?_) (fun h15 => ?_)
      ·refine Gao O (Ops.add O O O (by omega) (Gdo O (Ops.add O O O (by omega) (Gdn O (tQ ?_)))))
       exact ⟨q + 1, by show ms.length - (q + 1) < ms.length - q; omega, ⟨O, O, O, O, O, O, O, O, O, O, O, O, O, O, congrArg (fun m : Nat => Value.int .i64 (m : Int)) (hyes ⟨.inl h13, .inr h15⟩).symm, O, O, O, trivial⟩, by omega, O⟩
      refine Gao O (Ops.add O O O (by omega) (Gdn O (tQ ?_)))
      exact ⟨q + 1, by show ms.length - (q + 1) < ms.length - q; omega, ⟨O, O, O, O, O, O, O, O, O, O, O, O, O, O, congrArg (fun m : Nat => Value.int .i64 (m : Int)) (hno fun h => h.2.elim h14 h15).symm, O, O, O, trivial⟩, by omega, O⟩
     refine Ops.g O O O (Gdo O (Ops.g O O O (Gdo O (Ops.g O O O ?_))))
     refine Ops.call (isBelow_c A1 A D cA cD n R rs B ee xx _ h1 hB (by omega) (hrow xx (by omega) (by omega)) (by have := hrl xx (by omega) (by omega); omega)) O O O ?_
     rintro _ w10 ⟨rfl, rfl⟩
     refine Gdo O ?_
     refine Ops.split_p 62 O (fun h16 => ?_) (fun h16 => ?_)
     ·refine Ops.g O O O (Gdo O (Ops.g O O O (Gdo O (Ops.g O O O (Gdo O ?_)))))
      refine Ops.split_p 65 O (fun h14 => ?_) (fun h14 => ?_)
      ·refine Ops.k O O O O O (Ops.k O O O O O (Ops.k O O O O O (Ops.g O O O (Gdc O ?_))))
       refine Cd.cond_t O ?_
       refine Gao O (Ops.add O O O (by omega) (Gdo O (Ops.add O O O (by omega) (Gdn O (tQ ?_)))))
       exact ⟨q + 1, by show ms.length - (q + 1) < ms.length - q; omega, ⟨O, O, O, O, O, O, O, O, O, O, O, O, O, O, congrArg (fun m : Nat => Value.int .i64 (m : Int)) (hyes ⟨.inr h16, .inl h14⟩).symm, O, O, O, trivial⟩, by omega, O⟩
      refine Ops.g O O O (Gdo O (Ops.g O O O (Gdo O (Ops.g O O O ?_))))
      refine Ops.call (isBelow_c A1 A D cA cD n R rs B xx ff _ h1 hB (by omega) (hrow ff (by omega) (by omega)) (by have := hrl ff (by omega) (by omega); omega)) O O O ?_
      rintro _ w11 ⟨rfl, rfl⟩
      refine Ops.g O O O (Gdc O ?_)
      refine Cd.cond_p _ O (fun h15 => ?_) (fun h15 => ?_)
      ·refine Gao O (Ops.add O O O (by omega) (Gdo O (Ops.add O O O (by omega) (Gdn O (tQ ?_)))))
       exact ⟨q + 1, by show ms.length - (q + 1) < ms.length - q; omega, ⟨O, O, O, O, O, O, O, O, O, O, O, O, O, O, congrArg (fun m : Nat => Value.int .i64 (m : Int)) (hyes ⟨.inr h16, .inr h15⟩).symm, O, O, O, trivial⟩, by omega, O⟩
      refine Gao O (Ops.add O O O (by omega) (Gdn O (tQ ?_)))
      exact ⟨q + 1, by show ms.length - (q + 1) < ms.length - q; omega, ⟨O, O, O, O, O, O, O, O, O, O, O, O, O, O, congrArg (fun m : Nat => Value.int .i64 (m : Int)) (hno fun h => h.2.elim h14 h15).symm, O, O, O, trivial⟩, by omega, O⟩
     refine Ops.k O O O O O (Ops.k O O O O O (Ops.k O O O O O (Ops.skipu O O O O (Ops.skipu O O O O (Ops.skipu O O O O (Ops.k O O O O O (Gdc O ?_)))))))
     refine Cd.cond_f O ?_
     refine Gao O (Ops.add O O O (by omega) (Gdn O (tQ ?_)))
     exact ⟨q + 1, by show ms.length - (q + 1) < ms.length - q; omega, ⟨O, O, O, O, O, O, O, O, O, O, O, O, O, O, congrArg (fun m : Nat => Value.int .i64 (m : Int)) (hno fun h => h.1.elim h13 h16).symm, O, O, O, trivial⟩, by omega, O⟩
    have hqe : q = ms.length := by omega
    subst hqe
    have hce := hcn ee ff
    refine Gax O (thenQ_x (Gfc O ?_))
    refine Cd.cond_p _ O (fun h13 => ?_) (fun h13 => ?_)
    ·refine Gao O ?_
     refine Ops.bsL [(i : Int), ee, ff] hS5 O O (by decide) (by decide) O O ?_
     intro A9 w10 hS10
     refine Gdr O (thenQ_r (Qk_ret (thenQ_r (Qk_ret (thenQ_r (Qk_ret ?_))))))
     refine ret1_s O ?_
     refine ⟨A9, 3, 3, O, ⟨fun h => ?_, fun h => ?_⟩, hS10.none⟩
     ·rw [Rd.some_of (hS10.rdI 0 rfl).2 (by decide)] at h
      cases h
     have hbad := h (i : Int) ee ff (by omega) h2 ((rkL_lo (by omega) h2).1 (by rw [hlos, ← hee]; exact gi_in hjl)) ((rkL_hi (by omega) h2).1 (by rw [hhis, ← hff]; exact gi_in hkl)) hpre
     omega
    refine Gao O (Ops.add O O O (by omega) (Gdn O (tQ ?_)))
    exact ⟨k + 1, by show his.length - (k + 1) < his.length - k; omega, ⟨O, O, O, O, O, O, O, O, O, O, O, O, O, trivial⟩, by omega, O, hstep fun _ => by omega⟩
   refine Gax O (thenQ_x (Gfo O (Ops.add O O O (by omega) (Gdn O (tQ ?_)))))
   exact ⟨j + 1, by show los.length - (j + 1) < los.length - j; omega, ⟨O, O, O, O, O, O, O, O, O, trivial⟩, by omega, O, fun p hp f hf => by
    by_cases ep : p = j
    ·subst ep
     rw [hee]
     obtain ⟨q, hq, e9⟩ := List.mem_iff_getElem.1 hf
     rw [← gi_mem hq] at e9
     have := hhi q (by omega)
     rwa [e9] at this
    exact hlo p (by omega) f hf⟩
  refine Gax O (thenQ_x (Gfo O (Ops.add O O O (by omega) (Gdn O (tQ ?_)))))
  exact ⟨i + 1, by show n.toNat - (i + 1) < n.toNat - i; omega, ⟨O, O, O, trivial⟩, by show ((i + 1 : Nat) : Int) ≤ n; omega, fun i' e f h0 h' he hf hpre => by
   by_cases ei : i' = (i : Int)
   ·subst ei
    rw [hlos] at he; rw [hhis] at hf
    obtain ⟨q, hq, e9⟩ := List.mem_iff_getElem.1 he
    rw [← gi_mem hq] at e9
    have := hlo q (by omega) f hf
    rw [e9] at this
    exact this hpre
   exact hdn i' e f h0 (by have h' : i' < ((i + 1 : Nat) : Int) := h'; omega) he hf hpre, hst5b⟩
 refine Gax O (thenQ_x (Gfr O ?_))
 refine ret1_s O ?_
 exact ⟨none, 0, 0, O, ⟨fun _ i' e f h0 h3 h4 h5 h6 => hdn i' e f h0 (by omega) ((rkL_lo h0 h3).2 h4) ((rkL_hi h0 h3).2 h5) h6, fun _ => O⟩, hS2⟩
theorem flgP_fit {n : Nat} {R : List Int} {B : List (List Int)} (hn : 1 ≤ n) (hb : R.length ≤ 500) : ∀ x ∈ flgP n R B, x.length = n ∧ ∀ e ∈ x, 0 ≤ e ∧ e < (R.length : Int) := fun x hx => by
 obtain ⟨h1, h2, _⟩ := (flgP_mem hn).1 hx
 refine ⟨h1, fun e he => ?_⟩
 obtain ⟨k, hk, rfl⟩ := List.mem_iff_getElem.1 he
 rw [← gi_mem hk]
 exact (h2 k (by omega)).1
theorem bool_dec (b : Bool) : b = decide (b = true) := by cases b <;> rfl
theorem isPolytope_c (n : Nat) (A D : Option Addr) (cA cD : Nat) (R : List Int) (rs : List SlV) (B : List (List Int)) (Af : Option Addr) (cf : Nat) (rsF : List SlV) (w : World) (hT : Tab w) (hR : RdI w A R.length R) (hB : RowsI w D B.length rs B) (hP : PosP n R B) (hF : RowsI w Af (flgP n R B).length rsF (flgP n R B)) (hf4 : (flgP n R B).length ≤ 400) :
  Ret Tryz.prog 82 [.agg #[.int .i64 n, .slice A R.length cA, .slice D B.length cD], .slice Af (flgP n R B).length cf] w (fun v w' => ∃ b : Bool, v = .bool b ∧ (b = true ↔ PlyP n R B) ∧ St w w' []) := by
 have hn := hP.n1
 have hbg := hP.big
 have hfit := flgP_fit (n := n) (R := R) (B := B) (by omega) hbg
 have hfit2 : ∀ x ∈ flgP n R B, x.length = n ∧ ∀ e ∈ x, 0 ≤ e ∧ e ≤ 1000000 := fun x hx => ⟨(hfit x hx).1, fun e he => by have := (hfit x hx).2 e he; omega⟩
 have hnd : (flgP n R B).Nodup := (flgP_SL n R B).nodup
 refine Ret.of_cd Tryz.func82 O Tryz.ntmps82 O (post1 O) (Gbo O (Ops.box3T (St.refl w) O O ?_))
 intro A1 w1 hS1
 have h1 : Rd w1 A1 3 (fun j => [Value.int .i64 n, .slice A R.length cA, .slice D B.length cD].getD j undef) := hS1.rd 0 O
 have hR := hS1.oldI hR
 have hB := hS1.oldRows hB
 have hF := hS1.oldRows hF
 have hT := hT.later hS1.below
 have hS1 := hS1.none
 refine Gdo O (Ops.len O O (Gdo O ?_))
 refine Ops.split_p 8 O (fun h2 => ?_) (fun h2 => ?_)
 ·have hne : flgP n R B ≠ [] := fun h => by rw [h] at h2; exact absurd h2 (by decide)
  refine Ops.g O O O (Ops.ld_agg 2 h1 O O O ?_)
  refine Ops.g O O O (Gdo O (Ops.g O O O ?_))
  refine Ops.call (isPure_c n A D cA R.length B.length cD Af (flgP n R B).length cf rsF (flgP n R B) _ hF hbg (fun l hl => ⟨by have := (hfit l hl).1; omega, (hfit l hl).2⟩) (by omega)) O O O ?_
  rintro _ w2 ⟨b, rfl, hb, hst⟩
  have h1 := Rd.below h1 hst.below
  have hR := hst.oldI hR
  have hB := hst.oldRows hB
  have hF := hst.oldRows hF
  have hT := hT.later hst.below
  have hS1 := hS1.later hst.below
  have hpu : b = true ↔ PurP n R B := hb
  clear hst hb
  rw [bool_dec b]
  refine Gdo O ?_
  refine Ops.split_p 13 O (fun h3 => ?_) (fun h3 => ?_)
  ·refine Ops.g O O O (Ops.ld_agg 2 h1 O O O (Ops.g O O O (Ops.call (diamondFault_c n A D cA cD R rs B _ hR hB hP) O O O ?_)))
   rintro _ w3 ⟨A9, n9, c9, rfl, hd, hst⟩
   have hF := hst.oldRows hF
   have hT := hT.later hst.below
   have hS1 := hS1.later hst.below
   clear hst
   refine Ops.g O O O (Ops.eqNil O O O ?_)
   rw [bool_dec A9.isNone]
   refine Gdo O ?_
   refine Ops.split_p 18 O (fun h4 => ?_) (fun h4 => ?_)
   ·refine Ops.g O O O (Gdo O (Ops.g O O O ?_))
    refine Ops.call (connectionFault_c Af (flgP n R B).length cf rsF (flgP n R B) n _ hT hF (by omega) (by omega) hfit2 hnd) O O O ?_
    rintro _ w4 ⟨A8, n8, c8, rfl, hc, hst⟩
    have hS1 := hS1.later hst.below
    refine Ops.g O O O (Ops.eqNil O O O (Gdr O (ret1_b O ?_)))
    exact ⟨A8.isNone, O, ⟨fun h => ⟨hne, hpu.1 h3, hd.1 h4, hc.1 h⟩, fun h => hc.2 h.2.2.2⟩, hS1⟩
   refine Ops.k O O O O O (Ops.k O O O O O (Ops.k O O O O O (Gdr O ?_)))
   refine ret1_b O ?_
   exact ⟨false, rfl, ⟨fun h => (by cases h), fun h => absurd (hd.2 h.2.2.1) h4⟩, hS1⟩
  refine Ops.k O O O O O (Ops.k O O O O O (Ops.k O O O O O (Gdo O (Ops.k O O O O O (Ops.k O O O O O (Ops.k O O O O O (Gdr O ?_)))))))
  refine ret1_b O ?_
  exact ⟨false, rfl, ⟨fun h => (by cases h), fun h => absurd (hpu.2 h.2.1) h3⟩, hS1⟩
 refine Ops.k O O O O O (Ops.k O O O O O (Ops.k O O O O O (Gdo O (Ops.k O O O O O (Ops.k O O O O O (Ops.k O O O O O (Gdo O (Ops.k O O O O O (Ops.k O O O O O (Ops.k O O O O O (Gdr O ?_)))))))))))
 refine ret1_b O ?_
 exact ⟨false, rfl, ⟨fun h => (by cases h), fun h => absurd (List.length_pos_iff.2 h.1) (by omega)⟩, hS1⟩
/-
 The program's test of polytopality, and all faces, walked. Conditions: the library's table of powers of ten holds what the program's text lays there.
-/
noncomputable def flM (M : List (List Int)) : List (List Int) := flgP M.length (fpR M M.length) (fpB M)
noncomputable def ptC (M : List (List Int)) : Int := if 500 < offP M M.length ∨ 400 < (flM M).length then 3 else 0
def GoodP (M : List (List Int)) : Prop := offP M M.length ≤ 500 ∧ (flM M).length = (gl M 0).length ∧ PlyP M.length (fpR M M.length) (fpB M)
theorem GoodP.code {M : List (List Int)} (hM : Mani M) (h : GoodP M) : ptC M = 0 := by
 have := hM.2.1
 unfold ptC
 rw [if_neg (by have := h.1; have := h.2.1; omega)]
theorem posP_of {M : List (List Int)} (hM : Mani M) (h : offP M M.length ≤ 500) : PosP (M.length : Int) (fpR M M.length) (fpB M) := fp_pos hM h
theorem isPolytopal_c (A : Option Addr) (n c : Nat) (rs : List SlV) (M : List (List Int)) (w : World) (hT : Tab w) (hR : RowsI w A n rs M) (hM : Mani M) :
  Ret Tryz.prog 94 [.agg #[.slice A n c]] w (fun v w' => ∃ b : Bool, v = .tuple #[.bool b, .int .i64 (ptC M)] ∧ (b = true ↔ GoodP M) ∧ St w w' []) := by
 have hl := hR.len
 have h5 := hM.1
 have h4 := hM.2.1
 have hRl := fpR_len M M.length
 have hBl := fpB_len M
 have hr0 := hR.rowLen (k := 0) (by omega) (by omega)
 refine Ret.of_cd Tryz.func94 O Tryz.ntmps94 O (post2 O) (Gbo O (Ops.box1 (St.refl w) O O ?_))
 intro A1 w1 hS1
 refine Gdo O (Ops.ld_agg 0 (hS1.rd 0 O) O O O (Ops.call (facePoset_c A n c rs M _ (hS1.oldRows hR) hM) O O O ?_))
 rintro _ w2 (⟨hbig, rfl, hst⟩ | ⟨hbig, AR, cR, AD, cD, rsD, rfl, hrD, hst⟩)
 ·have hS2 := hS1.later hst.below
  refine Gdo O (Ops.newP hS2 O ?_)
  intro A4 w3 hS3
  refine Ops.st_agg 3 0 hS3 O O O O O O O ?_
  intro w4 hS4
  refine Gdo O ?_
  first | refine Ops.not_p rfl rfl ?_ | refine Ops.not rfl rfl ?_
  refine Gdc O (Cd.cond_t O (Gar O (ret2_bi O O ?_)))
  unfold ptC
  rw [if_pos (.inl hbig)]
  exact ⟨false, rfl, ⟨fun h => (by cases h), fun h => by have := h.1; omega⟩, hS4.none⟩
 have hP := posP_of hM hbig
 have hS2 := hS1.call hst
 clear hst hS1
 refine Gdo O (Ops.newP hS2 O ?_)
 intro A4 w3 hS3
 refine Ops.st_agg 3 0 hS3 O O O O O O O ?_
 intro w4 hS4
 have hS4 : St w w4 (poB A4 (M.length : Int) AR (offP M M.length) cR AD (offP M M.length) cD :: (CkI 2 AR (offP M M.length) cR (fpR M M.length) :: ((mat 32 2 AD (offP M M.length) cD rsD (fpB M) ++ []) ++ [Bx 24 1 A1 [.slice A n c]]))) := hS4
 have hR4 : RdI w4 AR (fpR M M.length).length (fpR M M.length) := by rw [hRl]; exact hS4.rdI 1 O
 have hB4 : RowsI w4 AD (fpB M).length rsD (fpB M) := by
  rw [hBl]
  have h9 := hS4.sub (show (mat 32 2 AD (offP M M.length) cD rsD (fpB M)).Sublist _ from List.Sublist.cons _ (List.Sublist.cons _ (by rw [List.append_nil]; exact List.sublist_append_left _ _)))
  exact h9.rowsI1 hBl
 have hb4 := hS4.rd 0 O
 have hb1 : Rd w4 A1 1 (fun _ => .slice A n c) := by
  have h9 := hS4.sub (show List.Sublist [Bx 24 1 A1 [.slice A n c]] _ from List.Sublist.cons _ (List.Sublist.cons _ (List.sublist_append_right _ _)))
  exact Rd.one (h9.rd 0 O)
 refine Gdo O ?_
 first | refine Ops.not_p rfl rfl ?_ | refine Ops.not rfl rfl ?_
 refine Gdc O (Cd.cond_f O (Gao O (Ops.ld_agg 2 hb4 O O O ?_)))
 refine Ops.call (flagsOf_c M.length AR AD cR cD (fpR M M.length) rsD (fpB M) _ hR4 hB4 hP) O (by rw [hRl, hBl]; rfl) O ?_
 rintro _ w5 ⟨Af, cf, rsf, rfl, hrf, hst⟩
 have hS5 := hS4.later hst.below
 have hR5 := hR4.later hst.below
 have hB5 := hB4.later hst.below
 have hb5 := Rd.below hb4 hst.below
 have hb1 := Rd.below hb1 hst.below
 by_cases hfl : (flgP M.length (fpR M M.length) (fpB M)).length ≤ 400
 ·
  have hL : flgL M.length (fpR M M.length) (fpB M) = flgP M.length (fpR M M.length) (fpB M) := by unfold flgL; rw [if_pos hfl]
  have hK : flgK M.length (fpR M M.length) (fpB M) = 0 := by unfold flgK; rw [if_pos hfl]
  have hpt : ptC M = 0 := by unfold ptC; rw [if_neg (by show ¬ (500 < offP M M.length ∨ 400 < (flgP M.length (fpR M M.length) (fpB M)).length); omega)]
  rw [hL] at hrf hst ⊢
  rw [hK, hpt]
  have hF5 : RowsI w5 Af (flgP M.length (fpR M M.length) (fpB M)).length rsf (flgP M.length (fpR M M.length) (fpB M)) := by
   rw [List.append_nil] at hst
   exact hst.rowsI1 O
  refine Gdo O ?_
  refine Ops.split_p 22 O (fun _ => ?_) (fun h => absurd O h)
  refine Ops.g O O O (Gdo O (Ops.g O O O ?_))
  refine Ops.call (sizeR_c _ _ _ _) O O O ?_
  rintro _ w5 ⟨rfl, rfl⟩
  refine Ops.g O O O (Ops.call (flags_c A1 A n c rs M _ _ hb1 O (hS5.oldRows hR) (by omega)) O O O ?_)
  rintro _ w5 ⟨rfl, rfl⟩
  refine Ops.g O O O (Gdo O ?_)
  refine Ops.split_p 28 O (fun h6 => ?_) (fun h6 => ?_)
  ·refine Ops.g O O O (Ops.ld_agg 2 hb5 O O O ?_)
   refine Ops.g O O O (Gdo O (Ops.g O O O ?_))
   refine Ops.call (isPolytope_c M.length AR AD cR cD (fpR M M.length) rsD (fpB M) Af cf rsf _ (hT.later hS5.below) hR5 hB5 hP hF5 hfl) O (by rw [hRl, hBl]; rfl) O ?_
   rintro _ w6 ⟨b, rfl, hb, hst2⟩
   refine Gdr O (ret2_bi O O ?_)
   refine ⟨b, O, hb.trans ⟨fun h => ⟨hbig, ?_, h⟩, fun h => h.2.2⟩, (hS5.later hst2.below).none⟩
   show (flgP M.length (fpR M M.length) (fpB M)).length = _
   omega
  refine Ops.k O O O O O (Ops.k O O O O O (Ops.k O O O O O (Gdr O ?_)))
  refine ret2_bi O O ?_
  refine ⟨false, rfl, ⟨fun h => (by cases h), fun h => ?_⟩, hS5.none⟩
  have h9 : (flgP M.length (fpR M M.length) (fpB M)).length = (gl M 0).length := h.2.1
  omega
 have hL : flgL M.length (fpR M M.length) (fpB M) = [] := by unfold flgL; rw [if_neg hfl]
 have hK : flgK M.length (fpR M M.length) (fpB M) = 3 := by unfold flgK; rw [if_neg hfl]
 have hpt : ptC M = 3 := by unfold ptC; rw [if_pos (.inr (by show 400 < (flgP M.length (fpR M M.length) (fpB M)).length; omega))]
 rw [hL] at hrf hst ⊢
 rw [hK, hpt]
 refine Gdo O ?_
 refine Ops.split_p 22 O (fun h => absurd h (by decide)) (fun _ => ?_)
 refine Ops.k O O O O O (Ops.k O O O O O (Ops.k O O O O O (Ops.k O O O O O (Gdo O (Ops.k O O O O O (Ops.k O O O O O (Ops.k O O O O O (Gdr O ?_))))))))
 refine ret2_bi O O ?_
 refine ⟨false, rfl, ⟨fun h => (by cases h), fun h => ?_⟩, hS5.none⟩
 have h9 : (flgP M.length (fpR M M.length) (fpB M)).length = (gl M 0).length := h.2.1
 omega
/-
 All faces of a polytopal maniplex, walked in the program. Conditions: the library's table of powers of ten holds what the program's text lays there.
-/
section
variable {P : Program} {N : Nat} {ops : Array Oper} {K : Env → World → Prop} {rest : List Oper} {e : Env} {w0 w w' : World} {ks : List Ck} {d : Nat} {ty : TypeId} {pos : String} {af : Array Edge}
theorem Ops.bldQ {t : TypeId} {f0 f1 : Field} {z0 z1 z2 z3 y0 y1 : Value} {b b0 b1 : Nat} [Und P t (.struct #[f0, f1])] [Inf P t (.agg #[z0, z1, z2, z3]) 4 b] {x0 x1 : Operand} {v0 u0 u1 u2 : Value} (hI0 : Inf P f0.type y0 1 b0) (hI1 : Inf P f1.type y1 3 b1) (ho : f0.offset = 0) (ho1 : f1.offset = 1) (h0 : ev e x0 = v0) (h1 : ev e x1 = .agg #[u0, u1, u2]) (c0 : v0.oneCell' = true) (hb : Nat.blt d N = true) (hK : Ops P N ops K rest (upd e d (.agg #[v0, u0, u1, u2])) w) : Ops P N ops K (⟨some d, .build t #[(0, x0), (1, x1)], ty, pos, af, none⟩ :: rest) e w := by
 obtain ⟨inf, hi, hz0, hs, hby⟩ := Inf.get P t
 obtain ⟨inf0, hi0, _, hs0, _⟩ := hI0.get P f0.type
 obtain ⟨inf1, hi1, _, hs1, _⟩ := hI1.get P f1.type
 have e0 : v0.cells = #[v0] := by cases v0 <;> simp [Value.oneCell'] at c0 <;> rfl
 have e1 : (Value.agg #[u0, u1, u2]).cells = #[u0, u1, u2] := O
 have ez : (Value.agg #[z0, z1, z2, z3]).cells = #[z0, z1, z2, z3] := O
 refine .val (w' := w) ?_ hb hK
 simp [execOp, Instr.build, run_underlying (Und.out (P := P) (t := t)), sizeOf, typeInfo, zeroValue, hi, hz0, hi0, hs0, hi1, hs1, ho, ho1, h0, h1, e0, e1, ez, Instr.fill]
theorem Ops.bldQ0 {t : TypeId} {f0 f1 : Field} {z0 z1 z2 z3 y0 y1 : Value} {b b0 b1 : Nat} [Und P t (.struct #[f0, f1])] [Inf P t (.agg #[z0, z1, z2, z3]) 4 b] (hI0 : Inf P f0.type y0 1 b0) (hI1 : Inf P f1.type y1 3 b1) (hb : Nat.blt d N = true) (hK : Ops P N ops K rest (upd e d (.agg #[z0, z1, z2, z3])) w) : Ops P N ops K (⟨some d, .build t #[], ty, pos, af, none⟩ :: rest) e w := by
 obtain ⟨inf, hi, hz0, hs, hby⟩ := Inf.get P t
 obtain ⟨inf0, hi0, _, hs0, _⟩ := hI0.get P f0.type
 obtain ⟨inf1, hi1, _, hs1, _⟩ := hI1.get P f1.type
 have ez : (Value.agg #[z0, z1, z2, z3]).cells = #[z0, z1, z2, z3] := O
 refine .val (w' := w) ?_ hb hK
 simp [execOp, Instr.build, run_underlying (Und.out (P := P) (t := t)), sizeOf, typeInfo, zeroValue, hi, hz0, hi0, hs0, hi1, hs1, ez, Instr.fill]
theorem Ops.newQ {el : TypeId} {v0 v1 v2 v3 : Value} {s b : Nat} [Inf P el (.agg #[v0, v1, v2, v3]) s b] (hS : St w0 w ks) (hb : Nat.blt d N = true) (hK : ∀ A w', St w0 w' (Bx el 4 A [v0, v1, v2, v3] :: ks) → Ops P N ops K rest (upd e d (.pointer A)) w') (hM : isM [v0, v1, v2, v3] = false := by rfl) : Ops P N ops K (⟨some d, .alloc el, ty, pos, af, none⟩ :: rest) e w := .new (el := el) (z := .agg #[v0, v1, v2, v3]) (s := s) (b := b) hS hb rfl hK hM
theorem Ops.boxQ {el : TypeId} {x : Operand} {v0 v1 v2 v3 : Value} (hS : St w0 w ks) (hx : ev e x = .agg #[v0, v1, v2, v3]) (hb : Nat.blt d N = true) (hK : ∀ A w', St w0 w' (Bx el 4 A [v0, v1, v2, v3] :: ks) → Ops P N ops K rest (upd e d (.pointer A)) w') (hM : isM [v0, v1, v2, v3] = false := by rfl) : Ops P N ops K (⟨some d, .box el x, ty, pos, af, none⟩ :: rest) e w :=
 .box_agg hS hx hb rfl hK hM
end
open Classical in
noncomputable def gdC (M : List (List Int)) : Int := if Mani M then (if ptC M = 0 then (if GoodP M then 0 else 5) else 3) else 1
theorem gdC_no {M : List (List Int)} (h : ¬ Mani M) : gdC M = 1 := by unfold gdC; rw [if_neg h]
theorem gdC_lim {M : List (List Int)} (h : Mani M) (h2 : ptC M ≠ 0) : gdC M = 3 := by unfold gdC; rw [if_pos h, if_neg h2]
theorem gdC_bad {M : List (List Int)} (h : Mani M) (h2 : ptC M = 0) (h3 : ¬ GoodP M) : gdC M = 5 := by unfold gdC; rw [if_pos h, if_pos h2, if_neg h3]
theorem gdC_good {M : List (List Int)} (h : Mani M) (h3 : GoodP M) : gdC M = 0 := by unfold gdC; rw [if_pos h, if_pos (h3.code h), if_pos h3]
theorem gdC_0 {M : List (List Int)} (h : gdC M = 0) : Mani M ∧ GoodP M := by
 unfold gdC at h
 split at h
 ·rename_i h1
  split at h
  ·split at h
   ·rename_i h3; exact ⟨h1, h3⟩
   cases h
  cases h
 cases h
theorem ptC_3 {M : List (List Int)} (h : ptC M ≠ 0) : ptC M = 3 := by
 unfold ptC at h ⊢
 split
 ·rfl
 rename_i h2; rw [if_neg h2] at h; exact absurd rfl h
def AnsFc (M : List (List Int)) (w : World) (v : Value) (w' : World) : Prop := (gdC M ≠ 0 ∧ v = .tuple #[.agg #[.slice none 0 0, .int .i64 0, .slice none 0 0, .slice none 0 0], .int .i64 (gdC M)] ∧ St w w' []) ∨ (gdC M = 0 ∧ ∃ A8 c8 AR c AD d rs, v = .tuple #[.agg #[.slice A8 (offP M M.length + 2) c8, .int .i64 (M.length : Int), .slice AR (offP M M.length) c, .slice AD (offP M M.length) d], .int .i64 0] ∧ rs.length = offP M M.length ∧ St w w' (CkI 2 A8 (offP M M.length + 2) c8 (fcR M.length (fpR M M.length)) :: CkI 2 AR (offP M M.length) c (fpR M M.length) :: (mat 32 2 AD (offP M M.length) d rs (fpB M) ++ [])))
set_option maxHeartbeats 2000000 in
theorem facesOf_c (A : Option Addr) (n c : Nat) (rs : List SlV) (M : List (List Int)) (w : World) (hT : Tab w) (hR : RowsI w A n rs M) (hn : n ≤ c) (hc : c ≤ 9223372036854775807) :
  Ret Tryz.prog 114 [.agg #[.slice A n c]] w (AnsFc M w) := by
 refine Ret.of_cd Tryz.func114 O Tryz.ntmps114 O (postc2 O O) (Gbo O (Ops.box1 (St.refl w) O O ?_))
 intro A1 w1 hS1
 refine Ops.newQ hS1 O ?_
 intro A2 w2 hS2
 have hS2 : St w w2 [Bx 100 4 A2 [.slice none 0 0, .int .i64 0, .slice none 0 0, .slice none 0 0], Bx 24 1 A1 [.slice A n c]] := hS2
 refine Gdo O (Ops.ld_agg 0 (hS2.rd 1 O) O O O (Ops.call (isManiplex_c A n c rs M _ (hS2.oldRows hR) hn hc) O O O ?_))
 rintro _ w3 ⟨rfl, hst⟩
 have hS3 := hS2.later hst.below
 clear hst hS2 hS1
 first | refine Ops.not_p rfl rfl ?_ | refine Ops.not rfl rfl ?_
 refine Gdc O ?_
 refine Cd.cond_p _ O (fun h1 => ?_) (fun h1 => ?_)
 ·refine Gao O (Ops.bldQ0 (by exact inferInstance) (by exact inferInstance) O (Ops.st_agg 4 0 hS3 O O O O O O O ?_))
  intro w4 hS4
  refine Gdr O (retc2_r O (hS4.rd 0 O) O ?_)
  exact .inl ⟨by rw [gdC_no h1]; decide, by rw [gdC_no h1]; rfl, hS4.none⟩
 have hM : Mani M := Classical.not_not.1 h1
 have hRl := fpR_len M M.length
 have hBl := fpB_len M
 refine Gao O (Ops.ld_agg 0 (hS3.rd 1 O) O O O (Ops.call (isPolytopal_c A n c rs M _ (hT.later hS3.below) (hS3.oldRows hR) hM) O O O ?_))
 rintro _ w4 ⟨b, rfl, hb, hst⟩
 have hS4 := hS3.later hst.below
 clear hst hS3
 refine Gdc O ?_
 refine Cd.cond_p _ O (fun h2 => ?_) (fun h2 => ?_)
 ·refine Gao O (Ops.bldQ0 (by exact inferInstance) (by exact inferInstance) O (Gdo O (Ops.st_agg 4 0 hS4 O O O O O O O ?_)))
  intro w5 hS5
  refine Gdr O (retc2_r O (hS5.rd 0 O) O ?_)
  exact .inl ⟨by rw [gdC_lim hM h2]; decide, by rw [gdC_lim hM h2, ptC_3 h2]; rfl, hS5.none⟩
 have h2 : ptC M = 0 := Classical.not_not.1 h2
 rw [bool_dec b]
 refine Gao O ?_
 first | refine Ops.not_p rfl rfl ?_ | refine Ops.not rfl rfl ?_
 refine Gdc O ?_
 refine Cd.cond_p _ O (fun h3 => ?_) (fun h3 => ?_)
 ·have hng : ¬ GoodP M := fun h => h3 (hb.2 h)
  refine Gao O (Ops.bldQ0 (by exact inferInstance) (by exact inferInstance) O (Ops.st_agg 4 0 hS4 O O O O O O O ?_))
  intro w5 hS5
  refine Gdr O (retc2_r O (hS5.rd 0 O) O ?_)
  exact .inl ⟨by rw [gdC_bad hM h2 hng]; decide, by rw [gdC_bad hM h2 hng]; rfl, hS5.none⟩
 have hg : GoodP M := hb.1 (Classical.not_not.1 h3)
 have hbig := hg.1
 have h5 := hM.1
 refine Gao O (Ops.ld_agg 0 (hS4.rd 1 O) O O O (Ops.call (facePoset_c A n c rs M _ (hS4.oldRows hR) hM) O O O ?_))
 rintro _ w5 (⟨h9, _⟩ | ⟨_, AR, cR, AD, cD, rsD, rfl, hrD, hst⟩)
 ·omega
 have hS5 := hS4.call hst
 clear hst hS4
 refine Gdo O (Ops.newP hS5 O ?_)
 intro A6 w6 hS6
 refine Ops.st_agg 3 0 hS6 O O O O O O O ?_
 intro w7 hS7
 obtain ⟨N, hN⟩ : ∃ N, offP M M.length = N := ⟨_, rfl⟩
 unfold AnsFc
 rw [hN] at hRl hBl hrD hS7 hbig ⊢
 have hS7 : St w w7 (poB A6 (M.length : Int) AR N cR AD N cD :: (CkI 2 AR N cR (fpR M M.length) :: ((mat 32 2 AD N cD rsD (fpB M) ++ []) ++ [Bx 100 4 A2 [.slice none 0 0, .int .i64 0, .slice none 0 0, .slice none 0 0], Bx 24 1 A1 [.slice A n c]]))) := hS7
 refine Gdo O (Ops.bs1I (i := -1) hS7 O O O ?_)
 intro A9 w8 hS8
 refine Ops.fld (hS8.rd 1 O) O O O O inferInstance (Ops.ldf_s (hS8.rd 1 O) O O O O O (Ops.appI 0 hS8 O (hS8.rdI 2 O) O O O (by omega) (by omega) O ?_))
 intro A8 c8 w9 hS9
 have hS9 : St w w9 (CkI 2 A8 (1 + N) c8 ([-1] ++ fpR M M.length) :: poB A6 (M.length : Int) AR N cR AD N cD :: (CkI 2 AR N cR (fpR M M.length) :: ((mat 32 2 AD N cD rsD (fpB M) ++ []) ++ [Bx 100 4 A2 [.slice none 0 0, .int .i64 0, .slice none 0 0, .slice none 0 0], Bx 24 1 A1 [.slice A n c]]))) := hS9
 obtain ⟨KK, hKK⟩ : ∃ KK : List Ck, KK = CkI 2 AR N cR (fpR M M.length) :: (mat 32 2 AD N cD rsD (fpB M) ++ []) := ⟨_, rfl⟩
 have hS9 : St w w9 (CkI 2 A8 (1 + N) c8 ([-1] ++ fpR M M.length) :: poB A6 (M.length : Int) AR N cR AD N cD :: Bx 100 4 A2 [.slice none 0 0, .int .i64 0, .slice none 0 0, .slice none 0 0] :: KK) := by
  have h10 := hS9.perm (show List.Perm _ (Bx 24 1 A1 [.slice A n c] :: (CkI 2 A8 (1 + N) c8 ([-1] ++ fpR M M.length) :: poB A6 (M.length : Int) AR N cR AD N cD :: Bx 100 4 A2 [.slice none 0 0, .int .i64 0, .slice none 0 0, .slice none 0 0] :: KK)) from by
   rw [hKK]
   classical
   refine List.perm_iff_count.2 fun z => ?_
   simp only [List.count_append, List.count_cons, List.count_nil]
   omega)
  exact h10.tail
 clear hS8 hS7 hS6 hS5
 refine Gdc O ?_
 refine Cd.drawP [4, 7] [yS (A8) (1 + N) (c8), yP (ptrAt (A6) 0), yI ((M.length : Int)), .pr (fun v w' => ∃ A9, v = .slice A9 1 1 ∧ St w w' (CkI 2 A9 1 1 [(M.length : Int)] :: CkI 2 A8 (1 + N) c8 ([-1] ++ fpR M M.length) :: poB A6 (M.length : Int) AR N cR AD N cD :: Bx 100 4 A2 [.slice none 0 0, .int .i64 0, .slice none 0 0, .slice none 0 0] :: KK)), .pr (fun v w' => ∃ AZ cZ, v = .slice AZ (1 + N + 1) cZ ∧ St w w' (CkI 2 AZ (1 + N + 1) cZ (([-1] ++ fpR M M.length) ++ [(M.length : Int)]) :: poB A6 (M.length : Int) AR N cR AD N cD :: Bx 100 4 A2 [.slice none 0 0, .int .i64 0, .slice none 0 0, .slice none 0 0] :: KK)), .ex (.agg #[.int .i64 (M.length : Int), .slice AR N cR, .slice AD N cD]), .pr (fun v w' => ∃ AZ cZ, v = .agg #[.slice AZ (1 + N + 1) cZ, .int .i64 (M.length : Int), .slice AR N cR, .slice AD N cD] ∧ St w w' (CkI 2 AZ (1 + N + 1) cZ (([-1] ++ fpR M M.length) ++ [(M.length : Int)]) :: poB A6 (M.length : Int) AR N cR AD N cD :: Bx 100 4 A2 [.slice none 0 0, .int .i64 0, .slice none 0 0, .slice none 0 0] :: KK)), .pr (fun _ w' => ∃ AZ cZ, St w w' (CkI 2 AZ (1 + N + 1) cZ (([-1] ++ fpR M M.length) ++ [(M.length : Int)]) :: poB A6 (M.length : Int) AR N cR AD N cD :: Bx 100 4 A2 [.slice AZ (1 + N + 1) cZ, .int .i64 (M.length : Int), .slice AR N cR, .slice AD N cD] :: KK)), yI ((0 : Int))] (by kernel_rfl) (by kernel_rfl) (ly (ly (ly (List.forall_mem_cons.2 ⟨Ye.lasts_pr (fun v w w' h hb => by obtain ⟨A9, hv, hT⟩ := h; exact ⟨A9, hv, hT.later hb⟩), (List.forall_mem_cons.2 ⟨Ye.lasts_pr (fun v w w' h hb => by obtain ⟨AZ, cZ, hv, hT⟩ := h; exact ⟨AZ, cZ, hv, hT.later hb⟩), (ly (List.forall_mem_cons.2 ⟨Ye.lasts_pr (fun v w w' h hb => by obtain ⟨AZ, cZ, hv, hT⟩ := h; exact ⟨AZ, cZ, hv, hT.later hb⟩), (List.forall_mem_cons.2 ⟨Ye.lasts_pr (fun v w w' h hb => by obtain ⟨AZ, cZ, hT⟩ := h; exact ⟨AZ, cZ, hT.later hb⟩), (ly (fun _ h => by cases h))⟩)⟩))⟩)⟩)))) ?_ ?_
 ·refine ⟨DrP O, cP fun _ _ hb _ _ _ => Ops.fld ((hS9.rd 1 O).below hb) O O O O inferInstance (AzP O O), cP fun _ _ hb _ _ _ => Ops.ldf_i ((hS9.rd 1 O).below hb) O O O O O (AzP O O), ?_, ?_, ?_, ?_, ?_, DrP O, trivial⟩
  ·refine cP fun e1 w1 hb hp hun hq => ?_
   refine Ops.bs1I (St.refl _) O O O ?_
   intro A9 w9 hst
   refine Ops.n ?_
   exact AfterP.dn O hst.below ⟨A9, O, (hS9.later hb).call hst⟩
  ·refine cPT fun e1 w1 hb hp hun hq => ?_
   obtain ⟨A9, h39, hT⟩ := (hp 3 _ _ (by kernel_rfl) rfl rfl (by kernel_rfl))
   refine Ops.appI 1 hT O (hT.rdI 0 O) O (by exact h39) O (by omega) (by omega) O ?_
   intro AZ cZ wZ hZ
   refine Ops.n ?_
   exact AfterU.dn O ⟨AZ, cZ, O, hZ.tail⟩
  ·intro e1 w1 cc hlo hhi hb0 hp hun hq; show Ops _ _ _ _ _ _ _
   have hX : Rd w1 A6 3 (fun q => [Value.int .i64 (M.length : Int), .slice AR N cR, .slice AD N cD].getD q undef) := by { have hhi := le_of_hi hhi (b := 1) (by kernel_rfl); rcases (show cc = 0 ∨ cc = 1 by omega) with h | h; { exact (hS9.later (hb0 h)).rd 1 rfl }; { subst h; obtain ⟨AZ, cZ, _, hT⟩ := hq 4 _ _ (by kernel_rfl) (by kernel_rfl) (by kernel_rfl) rfl rfl (by kernel_rfl); exact hT.rd 1 rfl } }
   refine Ops.ld_agg 2 hX O O O (Ops.n (p0_ O (by exact O)))
  ·refine dP 1 fun e1 w1 hp hun hq => ?_
   have hph := hp 4 _ _ (by kernel_rfl) O O (by kernel_rfl)
   obtain ⟨AZ, cZ, h40, hT⟩ := (hp 4 _ _ (by kernel_rfl) rfl rfl (by kernel_rfl))
   refine Ops.bldQ (v0 := .slice AZ (1 + N + 1) cZ) (by exact inferInstance) (by exact inferInstance) O O (by exact h40) O O O (Ops.n ?_)
   exact AfterP.dn O (Below.refl _ _) ⟨AZ, cZ, O, hT⟩
  refine dPT 1 fun e1 w1 hp hun hq => ?_
  have hph := hp 4 _ _ (by kernel_rfl) O O (by kernel_rfl)
  obtain ⟨AY, cY, h42, hT⟩ := (hp 6 _ _ (by kernel_rfl) rfl rfl (by kernel_rfl))
  refine Ops.st_agg 4 2 hT O O (by exact h42) O O O O ?_
  intro w11 hT11
  refine Ops.n ?_
  exact AfterU.st O ⟨AY, cY, hT11⟩
 intro u w10 _ hu _ _
 obtain ⟨AZ, cZ, hT⟩ := hu 7 _ rfl (by kernel_rfl)
 refine Ger O (retc2_r O (hT.rd 2 O) O ?_)
 refine .inr ⟨gdC_good hM hg, AZ, cZ, AR, cR, AD, cD, rsD, ?_, hrD, ?_⟩
 ·rw [show N + 2 = 1 + N + 1 by omega]; rfl
 rw [show N + 2 = 1 + N + 1 by omega, ← hKK]
 exact hT.sub (((List.Sublist.refl _).cons _).cons _ |>.cons_cons _)
/-
 The reference's flags, face poset, test of purity, walked.
-/
theorem eq_4 {a b c d b' c' d' : Value} (h1 : b = b') (h2 : c = c') (h3 : d = d') : [a, b, c, d] = [a, b', c', d'] := by rw [h1, h2, h3]
set_option maxHeartbeats 1000000 in
theorem l03Flags_c (n : Nat) (A D : Option Addr) (cA cD : Nat) (R : List Int) (rs : List SlV) (B : List (List Int)) (w : World) (hR : RdI w A R.length R) (hB : RowsI w D B.length rs B) (hP : PosP n R B) :
  Ret Tryz.prog 142 [.agg #[.int .i64 n, .slice A R.length cA, .slice D B.length cD]] w (fun v w' => ∃ A' c' rs', v = .tuple #[.slice A' (cap (flgP n R B)).length c', .bool (decide ((flgP n R B).length ≤ 400))] ∧ rs'.length = (cap (flgP n R B)).length ∧ St w w' (mat 32 2 A' (cap (flgP n R B)).length c' rs' (cap (flgP n R B)) ++ [])) := by
 have hn := hP.n1
 have hle := hP.len
 have hall := exS_all (n := n) (R := R) (B := B) (by omega)
 have hcf := cap_few' (l := flgP n R B)
 obtain ⟨N, hN⟩ : ∃ N, R.length = N := ⟨_, rfl⟩
 have hal := fun (w : World) hR hB => l03Alive_c n A D cA cD R rs B w hR hB hP
 have hex := fun (w : World) La hR hB Aa hLa => l03Extend_c w n A D cA cD R rs B N hN hR hB hP Aa La hLa
 rw [hle] at hB hal
 rw [hN] at hR hB hal
 rw [hle, hN]
 refine Ret.of_cd Tryz.func142 O Tryz.ntmps142 O (post2 O) (Gbo O (Ops.box3T (St.refl w) O O ?_))
 intro A1 wB hS1
 have h1 : Rd wB A1 3 (fun j => [Value.int .i64 (n : Int), .slice A N cA, .slice D N cD].getD j undef) := hS1.rd 0 O
 have hR := hS1.oldI hR; have hB := hS1.oldRows hB
 have hS1 := hS1.none
 refine Gdc O ?_
 refine Cd.drawP [5] [.ex (.agg #[.int .i64 (n : Int), .slice A N cA, .slice D N cD]), .ex (.agg #[.int .i64 (n : Int), .slice A N cA, .slice D N cD]), .pr (fun v w' => ∃ A7 L, v = .slice A7 N N ∧ MkB N L (fun x => alvP n R B (x : Int)) ∧ St wB w' [CkB 4 A7 N N L]), .pr (fun v w' => ∃ A8, v = .slice A8 0 0 ∧ St wB w' [CkI 2 A8 0 0 []]), .pr (fun v w' => ∃ A9, v = .slice A9 0 0 ∧ St wB w' [CkR 32 A9 0 0 []]), .pr (fun v w' => ∃ A' c' rs', v = .slice A' (cap (flgP n R B)).length c' ∧ rs'.length = (cap (flgP n R B)).length ∧ St wB w' (mat 32 2 A' (cap (flgP n R B)).length c' rs' (cap (flgP n R B)) ++ [])), .pr (fun v w' => ∃ A' c' rs', v = .slice A' (cap (flgP n R B)).length c' ∧ rs'.length = (cap (flgP n R B)).length ∧ St wB w' (mat 32 2 A' (cap (flgP n R B)).length c' rs' (cap (flgP n R B)) ++ []))] (by kernel_rfl) (by kernel_rfl) (ly (ly (List.forall_mem_cons.2 ⟨Ye.lasts_pr (fun v w w' h hb => by obtain ⟨A7, L, hv, hL, hT⟩ := h; exact ⟨A7, L, hv, hL, hT.later hb⟩), (List.forall_mem_cons.2 ⟨Ye.lasts_pr (fun v w w' h hb => by obtain ⟨A8, hv, hT⟩ := h; exact ⟨A8, hv, hT.later hb⟩), (List.forall_mem_cons.2 ⟨Ye.lasts_pr (fun v w w' h hb => by obtain ⟨A9, hv, hT⟩ := h; exact ⟨A9, hv, hT.later hb⟩), (List.forall_mem_cons.2 ⟨Ye.lasts_pr (fun v w w' h hb => by obtain ⟨A', c', rs', hv, hr', hT⟩ := h; exact ⟨A', c', rs', hv, hr', hT.later hb⟩), (List.forall_mem_cons.2 ⟨Ye.lasts_pr (fun v w w' h hb => by obtain ⟨A', c', rs', hv, hr', hT⟩ := h; exact ⟨A', c', rs', hv, hr', hT.later hb⟩), (fun _ h => by cases h)⟩)⟩)⟩)⟩)⟩))) ?_ ?_
 ·refine ⟨cP fun _ _ hb _ _ _ => Ops.ld_agg 2 (Rd.below h1 hb) O O O (AzP O O), cP fun _ _ hb _ _ _ => Ops.ld_agg 2 (Rd.below h1 hb) O O O (AzP O O), ?_, ?_, ?_, ?_, ?_, trivial⟩
  ·refine cP fun e1 w1 hb hp hun hq => ?_
   refine Ops.call (hal _ (hR.later hb) (hB.later hb)) O O O ?_
   rintro _ w9 ⟨A7, L, rfl, hL, hst⟩
   refine Ops.n ?_
   exact AfterP.dn O hst.below ⟨A7, L, O, hL, by have := ((St.refl wB).later hb).call hst; rwa [List.append_nil] at this⟩
  ·refine cP fun e1 w1 hb hp hun hq => ?_
   refine Ops.bs0 (St.refl _) O ?_
   intro A8 w9 hst
   refine Ops.n ?_
   exact AfterP.dn O hst.below ⟨A8, O, by have := ((St.refl wB).later hb).call hst; rwa [List.append_nil] at this⟩
  ·refine cP fun e1 w1 hb hp hun hq => ?_
   refine Ops.bs0 (St.refl _) O ?_
   intro A9 w9 hst
   refine Ops.n ?_
   exact AfterP.dn O hst.below ⟨A9, O, by have := ((St.refl wB).later hb).call hst; rwa [List.append_nil] at this⟩
  ·refine cPT fun e1 w1 hb hp hun hq => ?_
   obtain ⟨A7, L, h7, hL, hT7⟩ := (hp 2 _ _ (by kernel_rfl) rfl rfl (by kernel_rfl))
   obtain ⟨A8, h8, hT8⟩ := (hp 3 _ _ (by kernel_rfl) rfl rfl (by kernel_rfl))
   obtain ⟨A9, h9, hT9⟩ := (hp 4 _ _ (by kernel_rfl) rfl rfl (by kernel_rfl))
   have hM1 := hT9.merge hT7 (fun k hk => by obtain rfl := List.mem_singleton.1 hk; rfl) (fun k hk => by obtain rfl := List.mem_singleton.1 hk; exact isM_B _) (fun k hk k' hk' => by obtain rfl := List.mem_singleton.1 hk; obtain rfl := List.mem_singleton.1 hk'; exact (by decide : ¬ (32 = 4)))
   have hM2 := hT8.merge hM1 (fun k hk => by obtain rfl := List.mem_singleton.1 hk; rfl) (fun k hk => by rcases List.mem_cons.1 hk with rfl | hk; { rfl }; { obtain rfl := List.mem_singleton.1 hk; exact isM_B _ }) (fun k hk k' hk' => by obtain rfl := List.mem_singleton.1 hk; rcases List.mem_cons.1 hk' with rfl | hk'; { exact (by decide : ¬ (2 = 32)) }; { obtain rfl := List.mem_singleton.1 hk'; exact (by decide : ¬ (2 = 4)) })
   refine Ops.call (hex wB L hR hB A7 hL n 0 [] A8 0 [CkB 4 A7 N N L] _ A9 0 [] [] (by omega) rfl (fun x hx => by cases hx) (List.mem_singleton.2 rfl) rfl (Nat.zero_le _) hM2) rfl (by exact eq_4 h7 h8 h9) rfl ?_
   rintro _ w9 ⟨A', c', rs', rfl, hr', hT'⟩
   rw [List.nil_append, hall] at hr' hT' ⊢
   refine Ops.n ?_
   exact AfterU.dn O ⟨A', c', rs', O, hr', hT'.sub ((List.Sublist.refl _).append (List.nil_sublist _))⟩
  refine dP 1 fun e1 w1 hp hun hq => ?_
  have hph := hp 5 _ _ (by kernel_rfl) O O (by kernel_rfl)
  obtain ⟨A', c', rs', h10, hr', hT⟩ := (hp 5 _ _ (by kernel_rfl) rfl rfl (by kernel_rfl))
  refine Ops.ms O (by exact h10) O (Ops.n ?_)
  exact AfterP.dn O (Below.refl _ _) ⟨A', c', rs', O, hr', hT⟩
 intro u w2 _ hu _ _
 obtain ⟨A', c', rs', hv, hr', hT⟩ := hu 6 _ rfl (by kernel_rfl)
 refine post_ext (F := [(4, .slice A' (cap (flgP n R B)).length c')]) ⟨hv, trivial⟩ ?_
 refine Geo O (Ops.len O O (Gdr O ?_))
 refine ret2_sb O O ?_
 refine ⟨A', c', rs', ?_, hr', (by rw [List.append_nil] at hT; exact hS1.none.call hT)⟩
 show Value.tuple #[_, Value.bool (decide _)] = _
 rw [show decide ((((cap (flgP n R B)).length : Nat) : Int) ≤ 400) = decide ((flgP n R B).length ≤ 400) from decide_eq_decide.2 (by omega)]
/-
 The reference's tests of purity and of diamonds, walked.
-/
def dfN (a b : List Int) (i : Nat) : Nat := ((List.range i).filter fun k : Nat => decide (gi a (k : Int) ≠ gi b (k : Int))).length
theorem dfN_next (a b : List Int) (i : Nat) : dfN a b (i + 1) = if gi a (i : Int) ≠ gi b (i : Int) then dfN a b i + 1 else dfN a b i := by
 unfold dfN
 rw [List.range_succ, List.filter_append, List.length_append]
 by_cases c : gi a (i : Int) ≠ gi b (i : Int)
 ·rw [if_pos c]; simp [c]
 rw [if_neg c]; simp [c]
theorem dfN_le (a b : List Int) (i : Nat) : dfN a b i ≤ i := by
 refine Nat.le_trans (List.length_filter_le _ _) ?_
 rw [List.length_range]; exact Nat.le_refl _
theorem l03Differ_c (A A2 : Option Addr) (n c m c2 : Nat) (a b : List Int) (w : World) (hA : RdI w A n a) (hB : RdI w A2 m b) (hm : m = n) (hn : n ≤ 1000) :
  Ret Tryz.prog 219 [.slice A n c, .slice A2 m c2] w (fun v w' => v = .int .i64 ((dfN a b n : Nat) : Int) ∧ St w w' []) := by
 have ha := hA.1
 have hb := hB.1
 refine Ret.of_cd Tryz.func219 O Tryz.ntmps219 O (post1 O) (Gbc O ?_)
 refine Cd.loop (α := Nat) (fun i => [(0, .slice A n c), (1, .slice A2 m c2), (5, .int .i64 ((dfN a b i : Nat) : Int)), (6, .int .i64 (i : Int))]) (fun i w' => i ≤ n ∧ St w w' []) (fun i => n - i) 0 ⟨O, O, O, O, trivial⟩ ⟨Nat.zero_le _, St.refl w⟩ ?_
 rintro i e w2 ⟨hi, hS⟩
 have hdl := dfN_le a b i
 have hdn := dfN_next a b i
 have hA2 := hS.oldI hA
 have hB2 := hS.oldI hB
 refine Gbo O (Ops.len O O (Gdc O ?_))
 refine Cd.cond_p _ O (fun h2 => ?_) (fun h2 => ?_)
 ·refine Gac O ?_
  refine Cd.draw [xS (A) (n) (c), xI ((i : Int)), xP (ptrAt (A) ((i : Int)).toNat), xI (gi (a) ((i : Int))), xS (A2) (m) (c2), xI ((i : Int)), xP (ptrAt (A2) ((i : Int)).toNat), xI (gi (b) ((i : Int))), xB (decide (¬ (gi (a) ((i : Int))) = (gi (b) ((i : Int)))))] (by kernel_rfl) (by kernel_rfl) O (exL O) ?_ ?_
  ·exact ⟨Dr O, Dr O, fun _ _ hb _ _ => Ops.idx (hA2.later hb).2 O O O (by omega) (by omega) (Az O), fun _ _ hb _ _ => Ops.ld_int (hA2.later hb) O (by omega) O O (Az O), Dr O, Dr O, fun _ _ hb _ _ => Ops.idx (hB2.later hb).2 O O O (by omega) (by omega) (Az O), fun _ _ hb _ _ => Ops.ld_int (hB2.later hb) O (by omega) O O (Az O), Dr O, trivial⟩
  intro u w3 hb3 _
  have hS3 := hS.later hb3
  refine Gec O ?_
  refine Cd.cond_p _ O (fun h3 => ?_) (fun h3 => ?_)
  ·rw [if_pos h3] at hdn
   refine Gao O (Ops.add O O O (by omega) (Gdo O (Ops.add O O O (by omega) (Gdn O (tQ ?_)))))
   exact ⟨i + 1, by show n - (i + 1) < n - i; omega, ⟨O, O, congrArg (fun m : Nat => Value.int .i64 (m : Int)) hdn.symm, O, trivial⟩, by omega, hS3⟩
  rw [if_neg h3] at hdn
  refine Gao O (Ops.add O O O (by omega) (Gdn O (tQ ?_)))
  exact ⟨i + 1, by show n - (i + 1) < n - i; omega, ⟨O, O, congrArg (fun m : Nat => Value.int .i64 (m : Int)) hdn.symm, O, trivial⟩, by omega, hS3⟩
 obtain rfl : i = n := by omega
 refine Gax O (thenQ_x (Gfr O ?_))
 refine ret1_i O ?_
 exact ⟨O, hS⟩
/-
 The reference's lists of flags beside one another, walked.
-/
section
variable {n : Nat} {fl : List (List Int)} {a b k i : Nat}
end
/-
 The reference's lists of flags beside one another, walked: the function.
-/
/-
 Bits of small numbers: shifts by a number, the lowest bit. Conditions: as the rules name them.
-/
section
variable {P : Program} {N : Nat} {ops : Array Oper} {K : Env → World → Prop} {rest : List Oper} {e : Env} {w : World} {d : Nat} {ty : TypeId} {pos : String} {af : Array Edge} {x y : Operand} {xt yt : TypeId}
end
/-
 The reference's parts of flags, walked.
-/
/-
 The reference's test of strong connection, walked.
-/
/-
 The reference's test of diamonds, walked.
-/
instance (R : List Int) (i e : Int) : Decidable (LoP R i e) := by unfold LoP; infer_instance
instance (n : Int) (R : List Int) (i e : Int) : Decidable (HiP n R i e) := by unfold HiP; infer_instance
/-
 The reference's test of polytopes and of polytopality, walked.
-/
end Go.Proofs.YtopgfgdgfjddpaaGreatDoor.Vc
/-
 The library's stable sort of structs of three numbers, walked: two sorted ranges joined; all.
-/
namespace Go.Proofs.YtopgfgdgfjddpaaGreatDoor.Vc.TS
open Go.RowKit
theorem cut_rng {a m b : Nat} (h1 : a < m) (h2 : m < b) {c : Nat} (hc : lo0 a m b ≤ c) (hc2 : c < hi0 a m b) : a ≤ c ∧ c < m ∧ m ≤ (a + b) / 2 + m - 1 - c ∧ (a + b) / 2 + m - 1 - c < b := by
 unfold lo0 at hc
 unfold hi0 at hc2
 by_cases h : (a + b) / 2 < m
 ·rw [if_pos h] at hc hc2; omega
 rw [if_neg h] at hc hc2; omega
theorem lo_hi {a m b : Nat} (h1 : a < m) (h2 : m < b) : lo0 a m b ≤ hi0 a m b := by
 unfold lo0 hi0
 split <;> omega
theorem symMerge_c {w0 : World} {ks : List Ck} {t : TypeId} {A : Option Addr} {n c : Nat} (hn : n ≤ 4000000000000) : ∀ (f a m b : Nat), b - a ≤ f → a < m → m < b → b ≤ n → ∀ (ds : List TV) (w : World), (∀ s ∈ ds, OkT s) → (∀ x y, a ≤ x → x < m → m ≤ y → y < b → ixT (gs ds x) < ixT (gs ds y)) → SR kT ds a m → SR kT ds m b → St w0 w (CkT t A n c ds :: ks) →
    Ret Tryz.prog 254 [.slice A n c, .int .i64 (a : Int), .int .i64 (m : Int), .int .i64 (b : Int), .func (.func 175) #[] #[]] w (fun v w' => v = .tuple #[] ∧ ∃ ds', RP ds ds' a b ∧ SR kT ds' a b ∧ St w0 w' (CkT t A n c ds' :: ks)) := by
  intro f
  induction f with
  | zero => intro a m b h1 h2 h3; omega
  | succ f ih =>
    intro a m b hf ham hmb hbn ds w hc hsep hA hB hS
    have hln : ds.length = n := (hS.rdT 0 O).1
    have hcap := gs_capd hc
    have hcmp := fun x y h1 h2 h3 h4 => cmp_lt (hcap y) (hcap x) (hsep x y h1 h2 h3 h4)
    refine Ret.of_cd Tryz.func254 O Tryz.ntmps254 O (post0 O) ?_
    refine Gbo O (Ops.sub O O O (by omega) (Gdc O ?_))
    refine Cd.cond_p _ O (fun h1 => ?_) (fun h1 => ?_)
    · have hm : m = a + 1 := by omega
      refine Gac O ?_
      refine Cd.loop (α := Nat × Nat) (fun z => [(0, .slice A n c), (1, .int .i64 (a : Int)), (2, .int .i64 (m : Int)), (3, .int .i64 (b : Int)), (4, .func (.func 175) #[] #[]), (10, .int .i64 (z.1 : Int)), (11, .int .i64 (z.2 : Int))])
        (fun z w' => (m ≤ z.1 ∧ z.1 ≤ z.2 ∧ z.2 ≤ b) ∧ (∀ x, m ≤ x → x < z.1 → kT (gs ds x) < kT (gs ds a)) ∧ (∀ x, z.2 ≤ x → x < b → kT (gs ds a) ≤ kT (gs ds x)) ∧ St w0 w' (CkT t A n c ds :: ks)) (fun z => z.2 - z.1) (m, b) ⟨rfl, rfl, rfl, rfl, rfl, rfl, rfl, trivial⟩ ⟨⟨Nat.le_refl _, by show m ≤ b; omega, Nat.le_refl _⟩, fun x h h' => by omega, fun x h h' => by omega, hS⟩ ?_
      rintro ⟨i, j⟩ e w1 ⟨⟨hi0, hij, hjb⟩, hL, hR, hS1⟩
      dsimp only at hi0 hij hjb hL hR hS1 ⊢
      refine Gbc O ?_
      refine Cd.cond_p _ O (fun h2 => ?_) (fun h2 => ?_)
      · refine Gao O (Ops.add O O O (by omega) ?_)
        refine Ops.convK O O (wrap_u64_in _ (by omega)) (Ops.shr1 O O O (by omega) (Ops.convK O O (IntWalk.i64_in _ (by omega)) (Gdc O ?_)))
        obtain ⟨h, hh⟩ : ∃ h : Nat, h = (i + j) / 2 := ⟨_, rfl⟩
        rw [show ((i : Int) + (j : Int)) / 2 = (h : Int) by omega]
        have hR1 := hS1.rdT 0 O
        have g1 : tg ds (h : Int) = gs ds h := O
        have g2 : tg ds (a : Int) = gs ds a := O
        refine Cd.draw [.ex (.func (.func 175) #[] #[]), xS (A) (n) (c), xI ((h : Int)), xP (ptrAt (A) (((h : Int)).toNat * 3)), .ex ((tg (ds) ((h : Int))).v), xS (A) (n) (c), xI ((a : Int)), xP (ptrAt (A) (((a : Int)).toNat * 3)), .ex ((tg (ds) ((a : Int))).v), xI (cmpV (gs ds h) (gs ds a)), xB (decide ((cmpV (gs ds h) (gs ds a)) < ((0 : Int))))] (by kernel_rfl) (by kernel_rfl) O (exL O) ?_ ?_
        · refine ⟨Dr O, Dr O, Dr O, fun _ _ hb _ _ => Ops.idxT (hR1.later hb) O O O (by omega) (by omega) (Az O), fun _ _ hb _ _ => Ops.ld_tv (hR1.later hb) O (by omega) O (Az O), Dr O, Dr O, fun _ _ hb _ _ => Ops.idxT (hR1.later hb) O O O (by omega) (by omega) (Az O), fun _ _ hb _ _ => Ops.ld_tv (hR1.later hb) O (by omega) O (Az O), ?_, Dr O, trivial⟩
          · intro e1 w1 hb hp hun
            refine Ops.call (cmpG_c (gs ds h) (gs ds a) _) O O O ?_
            rintro _ w9 ⟨rfl, hst9⟩
            refine Ops.n ?_
            exact After.dn hst9.below (by exact O)
        intro u w2 hb2 _
        have hS2 := hS1.later hb2
        refine Gec O ?_
        refine Cd.cond_p _ O (fun h3 => ?_) (fun h3 => ?_)
        · refine Gao O (Ops.add O O O (by omega) (Gdn O (tQ ?_)))
          refine ⟨(h + 1, j), by show j - (h + 1) < j - i; omega, ⟨O, O, O, O, O, O, O, trivial⟩, ⟨by show m ≤ h + 1; omega, by show h + 1 ≤ j; omega, hjb⟩, fun x hx1 hx2 => ?_, hR, hS2⟩
          have hx2 : x < h + 1 := hx2
          have k1 : kT (gs ds x) ≤ kT (gs ds h) := hB.le hx1 (by omega) (by omega)
          have k2 : kT (gs ds h) < kT (gs ds a) := (hcmp a h (Nat.le_refl _) ham (by omega) (by omega)).1 h3
          omega
        · refine Gan O (tQ ?_)
          refine ⟨(i, h), by show h - i < j - i; omega, ⟨O, O, O, O, O, O, O, trivial⟩, ⟨hi0, by show i ≤ h; omega, by show h ≤ b; omega⟩, hL, fun x hx1 hx2 => ?_, hS2⟩
          have hx1 : h ≤ x := hx1
          have k1 : kT (gs ds h) ≤ kT (gs ds x) := hB.le (by omega) hx1 hx2
          have k2 : kT (gs ds a) ≤ kT (gs ds h) := Int.not_lt.1 fun h' => h3 ((hcmp a h (Nat.le_refl _) ham (by omega) (by omega)).2 h')
          omega
      · have hije : i = j := by omega
        subst hije
        refine Gax O (thenQ_x (Gfc O ?_))
        refine Cd.loop (α := Nat × List TV) (fun z => [(0, .slice A n c), (4, .func (.func 175) #[] #[]), (10, .int .i64 (i : Int)), (13, .int .i64 (z.1 : Int))]) (fun z w' => (a ≤ z.1 ∧ z.1 ≤ i - 1) ∧ RP ds z.2 a b ∧ MovU ds z.2 a z.1 ∧ St w0 w' (CkT t A n c z.2 :: ks)) (fun z => i - z.1) (a, ds) ⟨O, O, O, O, trivial⟩ ⟨⟨Nat.le_refl _, by show a ≤ i - 1; omega⟩, RP.refl _ _ _, MovU.start _ _, hS1⟩ ?_
        rintro ⟨k, cu⟩ e w2 ⟨⟨hk1, hk2⟩, hp, hmv, hS2⟩
        dsimp only at hk1 hk2 hp hmv hS2 ⊢
        have hcl : cu.length = n := (hS2.rdT 0 O).1
        refine Gbo O (Ops.sub O O O (by omega) (Gdc O ?_))
        refine Cd.cond_p _ O (fun h3 => ?_) (fun h3 => ?_)
        · have hR3 := hS2.rdT 0 O
          have ek : ((k : Int) + 1).toNat = k + 1 := by omega
          have g1 : tg cu (k : Int) = gs cu k := O
          have g2 : tg cu ((k : Int) + 1) = gs cu (k + 1) := by unfold tg gs; rw [ek]
          refine Gac O ?_
          refine Cd.drawP [15, 17] [yS (A) (n) (c), yI ((k : Int)), yS (A) (n) (c), yI ((k : Int)), yI (((k : Int)) + ((1 : Int))), yS (A) (n) (c), yI ((k : Int)), yI (((k : Int)) + ((1 : Int))), yP (ptrAt (A) ((((k : Int)) + ((1 : Int))).toNat * 3)), .ex ((tg (cu) (((k : Int)) + ((1 : Int)))).v), yS (A) (n) (c), yI ((k : Int)), yP (ptrAt (A) (((k : Int)).toNat * 3)), .ex ((tg (cu) ((k : Int))).v), yP (ptrAt (A) (((k : Int)).toNat * 3)), .pr (fun _ w' => St w0 w' (CkT t A n c (cu.set k (gs cu (k + 1))) :: ks)), yP (ptrAt (A) ((((k : Int)) + ((1 : Int))).toNat * 3)), .pr (fun _ w' => St w0 w' (CkT t A n c (swp cu k (k + 1)) :: ks))] (by kernel_rfl) (by kernel_rfl) (ly (ly (ly (ly (ly (ly (ly (ly (ly (ly (ly (ly (ly (ly (ly (List.forall_mem_cons.2 ⟨Ye.lasts_pr (fun v w w' h hb => h.later hb), (ly (List.forall_mem_cons.2 ⟨Ye.lasts_pr (fun v w w' h hb => h.later hb), (fun _ h => by cases h)⟩))⟩)))))))))))))))) ?_ ?_
          · refine ⟨DrP O, DrP O, DrP O, DrP O, aP fun _ _ => Ops.add O O O (by omega) (AzP O O), DrP O, DrP O, aP fun _ _ => Ops.add O O O (by omega) (AzP O O), cP fun _ _ hb _ _ _ => Ops.idxT (hR3.later hb) O O O (by omega) (by omega) (AzP O O), cP fun _ _ hb _ _ _ => Ops.ld_tv (hR3.later hb) O (by omega) O (AzP O O), DrP O, DrP O, cP fun _ _ hb _ _ _ => Ops.idxT (hR3.later hb) O O O (by omega) (by omega) (AzP O O), cP fun _ _ hb _ _ _ => Ops.ld_tv (hR3.later hb) O (by omega) O (AzP O O), cP fun _ _ hb _ _ _ => Ops.idxT (hR3.later hb) O O O (by omega) (by omega) (AzP O O), ?_, ?_, ?_, trivial⟩
            · refine cPT fun e1 w1 hb hp hun hq => ?_
              refine Ops.st_tv 0 (hS2.later hb) O O O (by omega) ?_
              intro w6 hS6
              refine Ops.n ?_
              exact AfterU.st O (st_gs (i := (k : Int)) O g2 hS6)
            · refine dP 1 fun e1 w1 hp hun hq => ?_
              have hph := hp 15 _ _ (by kernel_rfl) O O (by kernel_rfl)
              have hR6 := hph.rdT 0 O
              have hl6 : (cu.set k (gs cu (k + 1))).length = n := by rw [List.length_set]; exact hcl
              refine Ops.idxT (hR6) O O O (by omega) (by omega) (Ops.n (p0_ O (by exact O)))
            · refine dPT 1 fun e1 w1 hp hun hq => ?_
              have hph := hp 15 _ _ (by kernel_rfl) O O (by kernel_rfl)
              have hR6 := hph.rdT 0 O
              have hl6 : (cu.set k (gs cu (k + 1))).length = n := by rw [List.length_set]; exact hcl
              refine Ops.st_tv 0 hph O O O (by omega) ?_
              intro w7 hS7
              refine Ops.n ?_
              exact AfterU.st O (st_gs ek g1 hS7)
          intro u w5 _ hu _ _
          have hS5 := hu 17 _ O (by kernel_rfl)
          refine Geo O (Ops.add O O O (by omega) (Gdn O (tQ ?_)))
          exact ⟨(k + 1, swp cu k (k + 1)), by show i - (k + 1) < i - k; omega, ⟨O, O, O, O, trivial⟩, ⟨by show a ≤ k + 1; omega, by show k + 1 ≤ i - 1; omega⟩, hp.trans (swp_RP (by omega) (by omega) hk1 (by omega) (by omega) (by omega)) (Nat.le_refl _) (Nat.le_refl _), hmv.next hk1 (by omega), hS5⟩
        · have hke : k = i - 1 := by omega
          subst hke
          refine Gax O (thenQ_x (Gfr O ?_))
          refine ret0_r ?_
          exact ⟨O, cu, hp, hmv.sorted (hm ▸ hB) (by omega) hjb (fun x h4 h5 => Int.le_of_lt (hL x (by omega) h5)) hR, hS2⟩
    refine Gao O (Ops.sub O O O (by omega) (Gdc O ?_))
    refine Cd.cond_p _ O (fun h2 => ?_) (fun h2 => ?_)
    · have hb1 : b = m + 1 := by omega
      refine Gac O ?_
      refine Cd.loop (α := Nat × Nat) (fun z => [(0, .slice A n c), (1, .int .i64 (a : Int)), (2, .int .i64 (m : Int)), (3, .int .i64 (b : Int)), (4, .func (.func 175) #[] #[]), (14, .int .i64 (z.1 : Int)), (15, .int .i64 (z.2 : Int))])
        (fun z w' => (a ≤ z.1 ∧ z.1 ≤ z.2 ∧ z.2 ≤ m) ∧ (∀ x, a ≤ x → x < z.1 → kT (gs ds x) ≤ kT (gs ds m)) ∧ (∀ x, z.2 ≤ x → x < m → kT (gs ds m) ≤ kT (gs ds x)) ∧ St w0 w' (CkT t A n c ds :: ks)) (fun z => z.2 - z.1) (a, m) ⟨rfl, rfl, rfl, rfl, rfl, rfl, rfl, trivial⟩ ⟨⟨Nat.le_refl _, by show a ≤ m; omega, Nat.le_refl _⟩, fun x h h' => by omega, fun x h h' => by omega, hS⟩ ?_
      rintro ⟨i, j⟩ e w1 ⟨⟨hi0, hij, hjb⟩, hL, hR, hS1⟩
      dsimp only at hi0 hij hjb hL hR hS1 ⊢
      refine Gbc O ?_
      refine Cd.cond_p _ O (fun h3 => ?_) (fun h3 => ?_)
      · refine Gao O (Ops.add O O O (by omega) ?_)
        refine Ops.convK O O (wrap_u64_in _ (by omega)) (Ops.shr1 O O O (by omega) (Ops.convK O O (IntWalk.i64_in _ (by omega)) (Gdc O ?_)))
        obtain ⟨h, hh⟩ : ∃ h : Nat, h = (i + j) / 2 := ⟨_, rfl⟩
        rw [show ((i : Int) + (j : Int)) / 2 = (h : Int) by omega]
        have hR1 := hS1.rdT 0 O
        have g1 : tg ds (h : Int) = gs ds h := O
        have g2 : tg ds (m : Int) = gs ds m := O
        refine Cd.draw [.ex (.func (.func 175) #[] #[]), xS (A) (n) (c), xI ((m : Int)), xP (ptrAt (A) (((m : Int)).toNat * 3)), .ex ((tg (ds) ((m : Int))).v), xS (A) (n) (c), xI ((h : Int)), xP (ptrAt (A) (((h : Int)).toNat * 3)), .ex ((tg (ds) ((h : Int))).v), xI (cmpV (gs ds m) (gs ds h)), xB (decide ((cmpV (gs ds m) (gs ds h)) < ((0 : Int)))), xB (decide (¬ ((cmpV (gs ds m) (gs ds h)) < ((0 : Int)))))] (by kernel_rfl) (by kernel_rfl) O (exL O) ?_ ?_
        · refine ⟨Dr O, Dr O, Dr O, fun _ _ hb _ _ => Ops.idxT (hR1.later hb) O O O (by omega) (by omega) (Az O), fun _ _ hb _ _ => Ops.ld_tv (hR1.later hb) O (by omega) O (Az O), Dr O, Dr O, fun _ _ hb _ _ => Ops.idxT (hR1.later hb) O O O (by omega) (by omega) (Az O), fun _ _ hb _ _ => Ops.ld_tv (hR1.later hb) O (by omega) O (Az O), ?_, Dr O, fun _ _ _ _ _ => Ops.not_p O O (Az O), trivial⟩
          · intro e1 w1 hb hp hun
            refine Ops.call (cmpG_c (gs ds m) (gs ds h) _) O O O ?_
            rintro _ w9 ⟨rfl, hst9⟩
            refine Ops.n ?_
            exact After.dn hst9.below (by exact O)
        intro u w2 hb2 _
        have hS2 := hS1.later hb2
        refine Gec O ?_
        refine Cd.cond_p _ O (fun h4 => ?_) (fun h4 => ?_)
        · refine Gao O (Ops.add O O O (by omega) (Gdn O (tQ ?_)))
          refine ⟨(h + 1, j), by show j - (h + 1) < j - i; omega, ⟨O, O, O, O, O, O, O, trivial⟩, ⟨by show a ≤ h + 1; omega, by show h + 1 ≤ j; omega, hjb⟩, fun x hx1 hx2 => ?_, hR, hS2⟩
          have hx2 : x < h + 1 := hx2
          have k1 : kT (gs ds x) ≤ kT (gs ds h) := hA.le hx1 (by omega) (by omega)
          have k2 : kT (gs ds h) ≤ kT (gs ds m) := Int.not_lt.1 fun h' => h4 ((hcmp h m (by omega) (by omega) (Nat.le_refl _) hmb).2 h')
          omega
        · refine Gan O (tQ ?_)
          refine ⟨(i, h), by show h - i < j - i; omega, ⟨O, O, O, O, O, O, O, trivial⟩, ⟨hi0, by show i ≤ h; omega, by show h ≤ m; omega⟩, hL, fun x hx1 hx2 => ?_, hS2⟩
          have hx1 : h ≤ x := hx1
          have k1 : kT (gs ds h) ≤ kT (gs ds x) := hA.le (by omega) hx1 hx2
          have k2 : kT (gs ds m) ≤ kT (gs ds h) := Int.le_of_lt ((hcmp h m (by omega) (by omega) (Nat.le_refl _) hmb).1 (Classical.not_not.1 h4))
          omega
      · have hije : i = j := by omega
        subst hije
        refine Gax O (thenQ_x (Gfc O ?_))
        refine Cd.loop (α := Nat × List TV) (fun z => [(0, .slice A n c), (4, .func (.func 175) #[] #[]), (14, .int .i64 (i : Int)), (17, .int .i64 (z.1 : Int))]) (fun z w' => (i ≤ z.1 ∧ z.1 ≤ m) ∧ RP ds z.2 a b ∧ MovD ds z.2 m z.1 ∧ St w0 w' (CkT t A n c z.2 :: ks)) (fun z => z.1) (m, ds) ⟨O, O, O, O, trivial⟩ ⟨⟨hjb, Nat.le_refl _⟩, RP.refl _ _ _, MovD.start _ _, hS1⟩ ?_
        rintro ⟨k, cu⟩ e w2 ⟨⟨hk1, hk2⟩, hp, hmv, hS2⟩
        dsimp only at hk1 hk2 hp hmv hS2 ⊢
        have hcl : cu.length = n := (hS2.rdT 0 O).1
        refine Gbc O ?_
        refine Cd.cond_p _ O (fun h4 => ?_) (fun h4 => ?_)
        · have hR3 := hS2.rdT 0 O
          have ek : ((k : Int) - 1).toNat = k - 1 := by omega
          have g1 : tg cu (k : Int) = gs cu k := O
          have g2 : tg cu ((k : Int) - 1) = gs cu (k - 1) := by unfold tg gs; rw [ek]
          refine Gac O ?_
          refine Cd.drawP [15, 17] [yS (A) (n) (c), yI ((k : Int)), yS (A) (n) (c), yI ((k : Int)), yI (((k : Int)) - ((1 : Int))), yS (A) (n) (c), yI ((k : Int)), yI (((k : Int)) - ((1 : Int))), yP (ptrAt (A) ((((k : Int)) - ((1 : Int))).toNat * 3)), .ex ((tg (cu) (((k : Int)) - ((1 : Int)))).v), yS (A) (n) (c), yI ((k : Int)), yP (ptrAt (A) (((k : Int)).toNat * 3)), .ex ((tg (cu) ((k : Int))).v), yP (ptrAt (A) (((k : Int)).toNat * 3)), .pr (fun _ w' => St w0 w' (CkT t A n c (cu.set k (gs cu (k - 1))) :: ks)), yP (ptrAt (A) ((((k : Int)) - ((1 : Int))).toNat * 3)), .pr (fun _ w' => St w0 w' (CkT t A n c (swp cu k (k - 1)) :: ks))] (by kernel_rfl) (by kernel_rfl) (ly (ly (ly (ly (ly (ly (ly (ly (ly (ly (ly (ly (ly (ly (ly (List.forall_mem_cons.2 ⟨Ye.lasts_pr (fun v w w' h hb => h.later hb), (ly (List.forall_mem_cons.2 ⟨Ye.lasts_pr (fun v w w' h hb => h.later hb), (fun _ h => by cases h)⟩))⟩)))))))))))))))) ?_ ?_
          · refine ⟨DrP O, DrP O, DrP O, DrP O, aP fun _ _ => Ops.sub O O O (by omega) (AzP O O), DrP O, DrP O, aP fun _ _ => Ops.sub O O O (by omega) (AzP O O), cP fun _ _ hb _ _ _ => Ops.idxT (hR3.later hb) O O O (by omega) (by omega) (AzP O O), cP fun _ _ hb _ _ _ => Ops.ld_tv (hR3.later hb) O (by omega) O (AzP O O), DrP O, DrP O, cP fun _ _ hb _ _ _ => Ops.idxT (hR3.later hb) O O O (by omega) (by omega) (AzP O O), cP fun _ _ hb _ _ _ => Ops.ld_tv (hR3.later hb) O (by omega) O (AzP O O), cP fun _ _ hb _ _ _ => Ops.idxT (hR3.later hb) O O O (by omega) (by omega) (AzP O O), ?_, ?_, ?_, trivial⟩
            · refine cPT fun e1 w1 hb hp hun hq => ?_
              refine Ops.st_tv 0 (hS2.later hb) O O O (by omega) ?_
              intro w6 hS6
              refine Ops.n ?_
              exact AfterU.st O (st_gs (i := (k : Int)) O g2 hS6)
            · refine dP 1 fun e1 w1 hp hun hq => ?_
              have hph := hp 15 _ _ (by kernel_rfl) O O (by kernel_rfl)
              have hR6 := hph.rdT 0 O
              have hl6 : (cu.set k (gs cu (k - 1))).length = n := by rw [List.length_set]; exact hcl
              refine Ops.idxT (hR6) O O O (by omega) (by omega) (Ops.n (p0_ O (by exact O)))
            · refine dPT 1 fun e1 w1 hp hun hq => ?_
              have hph := hp 15 _ _ (by kernel_rfl) O O (by kernel_rfl)
              have hR6 := hph.rdT 0 O
              have hl6 : (cu.set k (gs cu (k - 1))).length = n := by rw [List.length_set]; exact hcl
              refine Ops.st_tv 0 hph O O O (by omega) ?_
              intro w7 hS7
              refine Ops.n ?_
              exact AfterU.st O (st_gs ek g1 hS7)
          intro u w5 _ hu _ _
          have hS5 := hu 17 _ O (by kernel_rfl)
          refine Geo O (Ops.sub O O O (by omega) (Gdn O (tQ ?_)))
          exact ⟨(k - 1, swp cu k (k - 1)), by show k - 1 < k; omega, ⟨O, O, O, by show Value.int .i64 _ = .int .i64 _; congr 1; omega, trivial⟩, ⟨by show i ≤ k - 1; omega, by show k - 1 ≤ m; omega⟩, hp.trans (swp_RP (by omega) (by omega) (by omega) (by omega) (by omega) (by omega)) (Nat.le_refl _) (Nat.le_refl _), hmv.next (by omega) hk2 (by omega), hS5⟩
        · have hke : k = i := by omega
          subst hke
          refine Gax O (thenQ_x (Gfr O ?_))
          refine ret0_r ?_
          exact ⟨O, cu, hp, hb1 ▸ hmv.sorted hA hi0 hjb hL hR, hS2⟩
    have h1 : a + 1 < m := by omega
    have h2 : m + 1 < b := by omega
    refine Gao O (Ops.add O O O (by omega) ?_)
    refine Ops.convK O O (wrap_u64_in _ (by omega)) (Ops.shr1 O O O (by omega) (Ops.convK O O (IntWalk.i64_in _ (by omega)) ?_))
    obtain ⟨mid, hmid⟩ : ∃ h : Nat, h = (a + b) / 2 := ⟨_, rfl⟩
    rw [show ((a : Int) + (b : Int)) / 2 = (mid : Int) by omega]
    have hm2 : 2 * mid ≤ a + b ∧ a + b ≤ 2 * mid + 1 := by omega
    have hlh := lo_hi ham hmb
    have hh0 : hi0 a m b ≤ m := by unfold hi0; split <;> omega
    have hrng := fun c => cut_rng ham hmb (c := c)
    rw [← hmid] at hrng
    refine Gdo O (Ops.add O O O (by omega) (Gdj 2 O ?_))
    refine Cd.join (α := Unit) (fun _ => [(0, .slice A n c), (1, .int .i64 (a : Int)), (2, .int .i64 (m : Int)), (3, .int .i64 (b : Int)), (4, .func (.func 175) #[] #[]), (18, .int .i64 (mid : Int)), (19, .int .i64 ((mid : Int) + (m : Int))), (20, .int .i64 ((lo0 a m b : Nat) : Int)), (21, .int .i64 ((hi0 a m b : Nat) : Int))]) (fun _ w' => w' = w) ?_ ?_
    · refine Gbc O ?_
      refine Cd.cond_p _ O (fun h3 => ?_) (fun h3 => ?_)
      · have e1 : lo0 a m b = mid + m - b := by unfold lo0; rw [if_pos (by omega), ← hmid]
        have e2 : hi0 a m b = mid := by unfold hi0; rw [if_pos (by omega), ← hmid]
        rw [e1, e2]
        refine Gao O (Ops.sub O O O (by omega) (Gdn O (tQ ?_)))
        exact ⟨(), ⟨O, O, O, O, O, O, O, by show Value.int .i64 ((mid : Int) + (m : Int) - (b : Int)) = .int .i64 ((mid + m - b : Nat) : Int); congr 1; omega, O, trivial⟩, O⟩
      · have e1 : lo0 a m b = a := by unfold lo0; rw [if_neg (by omega)]
        have e2 : hi0 a m b = m := by unfold hi0; rw [if_neg (by omega)]
        rw [e1, e2]
        refine Gan O (tQ ?_)
        exact ⟨(), ⟨O, O, O, O, O, O, O, O, O, trivial⟩, O⟩
    rintro _ e w1 rfl
    refine Gao O (Ops.sub O O O (by omega) (Gdc O ?_))
    refine Cd.loop (α := Nat × Nat) (fun z => [(0, .slice A n c), (1, .int .i64 (a : Int)), (2, .int .i64 (m : Int)), (3, .int .i64 (b : Int)), (4, .func (.func 175) #[] #[]), (18, .int .i64 (mid : Int)), (19, .int .i64 ((mid : Int) + (m : Int))), (20, .int .i64 (z.1 : Int)), (21, .int .i64 (z.2 : Int)), (22, .int .i64 ((mid : Int) + (m : Int) - 1))])
      (fun z w' => (lo0 a m b ≤ z.1 ∧ z.1 ≤ z.2 ∧ z.2 ≤ hi0 a m b) ∧ (∀ x, lo0 a m b ≤ x → x < z.1 → kT (gs ds x) ≤ kT (gs ds (mid + m - 1 - x))) ∧ (∀ x, z.2 ≤ x → x < hi0 a m b → kT (gs ds (mid + m - 1 - x)) < kT (gs ds x)) ∧ St w0 w' (CkT t A n c ds :: ks)) (fun z => z.2 - z.1) (lo0 a m b, hi0 a m b) ⟨rfl, rfl, rfl, rfl, rfl, rfl, rfl, rfl, rfl, rfl, trivial⟩ ⟨⟨Nat.le_refl _, hlh, Nat.le_refl _⟩, fun x h h' => by omega, fun x h h' => by omega, hS⟩ ?_
    rintro ⟨i, j⟩ e w2 ⟨⟨hi0', hij, hjb⟩, hL, hR, hS1⟩
    dsimp only at hi0' hij hjb hL hR hS1 ⊢
    refine Gbc O ?_
    refine Cd.cond_p _ O (fun h3 => ?_) (fun h3 => ?_)
    · refine Gao O (Ops.add O O O (by omega) ?_)
      refine Ops.convK O O (wrap_u64_in _ (by omega)) (Ops.shr1 O O O (by omega) (Ops.convK O O (IntWalk.i64_in _ (by omega)) (Gdc O ?_)))
      obtain ⟨h, hh⟩ : ∃ h : Nat, h = (i + j) / 2 := ⟨_, rfl⟩
      rw [show ((i : Int) + (j : Int)) / 2 = (h : Int) by omega]
      have hr1 := hrng h (by omega) (by omega)
      have hR1 := hS1.rdT 0 O
      have ep : ((mid : Int) + (m : Int) - 1 - (h : Int)).toNat = mid + m - 1 - h := by omega
      have g1 : tg ds (h : Int) = gs ds h := O
      have g2 : tg ds ((mid : Int) + (m : Int) - 1 - (h : Int)) = gs ds (mid + m - 1 - h) := by unfold tg gs; rw [ep]
      refine Cd.draw [.ex (.func (.func 175) #[] #[]), xS (A) (n) (c), xI (((mid : Int) + (m : Int) - 1)), xI ((h : Int)), xI ((((mid : Int) + (m : Int) - 1)) - ((h : Int))), xP (ptrAt (A) (((((mid : Int) + (m : Int) - 1)) - ((h : Int))).toNat * 3)), .ex ((tg (ds) ((((mid : Int) + (m : Int) - 1)) - ((h : Int)))).v), xS (A) (n) (c), xI ((h : Int)), xP (ptrAt (A) (((h : Int)).toNat * 3)), .ex ((tg (ds) ((h : Int))).v), xI (cmpV (gs ds (mid + m - 1 - h)) (gs ds h)), xB (decide ((cmpV (gs ds (mid + m - 1 - h)) (gs ds h)) < ((0 : Int)))), xB (decide (¬ ((cmpV (gs ds (mid + m - 1 - h)) (gs ds h)) < ((0 : Int)))))] (by kernel_rfl) (by kernel_rfl) O (exL O) ?_ ?_
      · refine ⟨Dr O, Dr O, Dr O, Dr O, fun _ _ _ _ _ => Ops.sub O O O (by omega) (Az O), fun _ _ hb _ _ => Ops.idxT (hR1.later hb) O O O (by omega) (by omega) (Az O), fun _ _ hb _ _ => Ops.ld_tv (hR1.later hb) O (by omega) O (Az O), Dr O, Dr O, fun _ _ hb _ _ => Ops.idxT (hR1.later hb) O O O (by omega) (by omega) (Az O), fun _ _ hb _ _ => Ops.ld_tv (hR1.later hb) O (by omega) O (Az O), ?_, Dr O, fun _ _ _ _ _ => Ops.not_p O O (Az O), trivial⟩
        · intro e1 w1 hb hp hun
          refine Ops.call (cmpG_c (gs ds (mid + m - 1 - h)) (gs ds h) _) O (by rw [← g2]; rfl) O ?_
          rintro _ w9 ⟨rfl, hst9⟩
          refine Ops.n ?_
          exact After.dn hst9.below (by exact O)
      intro u w3 hb3 _
      have hS2 := hS1.later hb3
      refine Gec O ?_
      refine Cd.cond_p _ O (fun h4 => ?_) (fun h4 => ?_)
      · refine Gao O (Ops.add O O O (by omega) (Gdn O (tQ ?_)))
        refine ⟨(h + 1, j), by show j - (h + 1) < j - i; omega, ⟨O, O, O, O, O, O, O, O, O, O, trivial⟩, ⟨by show lo0 a m b ≤ h + 1; omega, by show h + 1 ≤ j; omega, hjb⟩, fun x hx1 hx2 => ?_, hR, hS2⟩
        have hx2 : x < h + 1 := hx2
        have hr2 := hrng x hx1 (by omega)
        have k1 : kT (gs ds x) ≤ kT (gs ds h) := hA.le (by omega) (by omega) (by omega)
        have k2 : kT (gs ds h) ≤ kT (gs ds (mid + m - 1 - h)) := Int.not_lt.1 fun h' => h4 ((hcmp h (mid + m - 1 - h) hr1.1 hr1.2.1 hr1.2.2.1 hr1.2.2.2).2 h')
        have k3 : kT (gs ds (mid + m - 1 - h)) ≤ kT (gs ds (mid + m - 1 - x)) := hB.le (by omega) (by omega) (by omega)
        omega
      · refine Gan O (tQ ?_)
        refine ⟨(i, h), by show h - i < j - i; omega, ⟨O, O, O, O, O, O, O, O, O, O, trivial⟩, ⟨hi0', by show i ≤ h; omega, by show h ≤ hi0 a m b; omega⟩, hL, fun x hx1 hx2 => ?_, hS2⟩
        have hx1 : h ≤ x := hx1
        have hr2 := hrng x (by omega) hx2
        have k1 : kT (gs ds h) ≤ kT (gs ds x) := hA.le (by omega) (by omega) (by omega)
        have k2 : kT (gs ds (mid + m - 1 - h)) < kT (gs ds h) := (hcmp h (mid + m - 1 - h) hr1.1 hr1.2.1 hr1.2.2.1 hr1.2.2.2).1 (Classical.not_not.1 h4)
        have k3 : kT (gs ds (mid + m - 1 - x)) ≤ kT (gs ds (mid + m - 1 - h)) := hB.le (by omega) (by omega) (by omega)
        omega
    have hije : i = j := by omega
    subst hije
    have hcut : CutI kT ds a m b i := ⟨hi0', hjb, by rw [← hmid]; exact hL, by rw [← hmid]; exact hR⟩
    -- the rotation
    have hrot := fun l1 => cut_all (l1 := l1) h1 h2 hA hB hcut
    rw [← hmid] at hrot
    have b1 : a ≤ i := by have := hi0'; unfold lo0 at this; split at this <;> omega
    have b2 : i ≤ mid := by have := hjb; unfold hi0 at this; split at this <;> omega
    have b3 : i ≤ m := by have := hjb; unfold hi0 at this; split at this <;> omega
    have b4 : mid + m - i ≤ b := by have := hi0'; unfold lo0 at this; split at this <;> omega
    refine Gax O (thenQ_x (Gfo O (Ops.sub O O O (by omega) (Gdj 0 O ?_))))
    refine Cd.join (α := List TV) (fun _ => [(0, .slice A n c), (1, .int .i64 (a : Int)), (3, .int .i64 (b : Int)), (4, .func (.func 175) #[] #[]), (18, .int .i64 (mid : Int)), (20, .int .i64 (i : Int)), (24, .int .i64 ((mid + m - i : Nat) : Int))]) (fun l1 w' => RotI ds l1 i m (mid + m - i) ∧ RP ds l1 a b ∧ St w0 w' (CkT t A n c l1 :: ks)) ?_ ?_
    · have e24 : ((mid : Int) + (m : Int) - (i : Int)) = ((mid + m - i : Nat) : Int) := by omega
      rw [e24]
      refine Gbo O ?_
      refine Ops.split_p 181 O (fun h4 => ?_) (fun h4 => ?_)
      · refine Ops.g O O O (Gdo O (Ops.g O O O (Gdo O (Ops.g O O O (Gdc O ?_)))))
        refine Cd.cond_p _ O (fun h5 => ?_) (fun h5 => ?_)
        · obtain ⟨P, X, Y, S, hds, lP, lX, lY⟩ : ∃ P X Y S : List TV, ds = P ++ (X ++ (Y ++ S)) ∧ P.length = i ∧ X.length = m - i ∧ Y.length = mid - i := by
            refine ⟨ds.take i, (ds.drop i).take (m - i), (ds.drop m).take (mid - i), (ds.drop m).drop (mid - i), ?_, by simp; omega, by simp; omega, by simp; omega⟩
            rw [List.take_append_drop, show ds.drop m = (ds.drop i).drop (m - i) by rw [List.drop_drop]; congr 1; omega, List.take_append_drop, List.take_append_drop]
          have hrotI : RotI ds (P ++ (Y ++ (X ++ S))) i m (mid + m - i) := by
            have := RotI.of P X Y S
            rw [← hds, lP, lX, lY] at this
            rwa [show i + (m - i) = m by omega, show m + (mid - i) = mid + m - i by omega] at this
          rw [hds] at hS1
          refine Gao O (Ops.call (rotate_c (P := P) (X := X) (Y := Y) (S := S) i m (mid + m - i) lP (by omega) (by omega) (by omega) (by omega) hn hS1) O O O ?_)
          rintro _ w4 ⟨rfl, hS4⟩
          refine Gdn O (tQ ?_)
          exact ⟨P ++ (Y ++ (X ++ S)), ⟨O, O, O, O, O, O, O, trivial⟩, hrotI, ⟨by rw [hds]; exact rot_perm P X Y S, fun x hx => hrotI.out x (by omega)⟩, hS4⟩
        · refine Gan O (tQ ?_)
          exact ⟨ds, ⟨O, O, O, O, O, O, O, trivial⟩, RotI.same ds (by omega) (by omega) (by omega), RP.refl _ _ _, hS1⟩
      · refine Ops.k O O O O O (Ops.k O O O O O (Ops.k O O O O O (Gdc O ?_)))
        refine Cd.cond_f O ?_
        refine Gan O (tQ ?_)
        exact ⟨ds, ⟨O, O, O, O, O, O, O, trivial⟩, RotI.same ds (by omega) (by omega) (by omega), RP.refl _ _ _, hS1⟩
    rintro l1 e w4 ⟨hr, hp1, hS4⟩
    obtain ⟨_, s1, s2, s3, s4, hx⟩ := hrot l1 hr
    have hl1 := hp1.len
    refine Cd.join (α := List TV) (fun _ => [(0, .slice A n c), (3, .int .i64 (b : Int)), (4, .func (.func 175) #[] #[]), (18, .int .i64 (mid : Int)), (24, .int .i64 ((mid + m - i : Nat) : Int))]) (fun l2 w' => RP l1 l2 a mid ∧ SR kT l2 a mid ∧ St w0 w' (CkT t A n c l2 :: ks)) ?_ ?_
    · refine Gbo O ?_
      refine Ops.split_p 195 O (fun h4 => ?_) (fun h4 => ?_)
      · refine Ops.g O O O (Gdo O (Ops.g O O O (Gdo O (Ops.g O O O (Gdc O ?_)))))
        refine Cd.cond_p _ O (fun h5 => ?_) (fun h5 => ?_)
        · refine Gao O ?_
          refine Ops.call (ih a i mid (by omega) (by omega) (by omega) (by omega) l1 _ (hp1.cap hc) (fun x y q1 q2 q3 q4 => by { rw [hr.out x (.inl q2), hr.left y q3 (by omega)]; exact hsep x (y + (m - i)) q1 (by omega) (by omega) (by omega) }) s1 s2 hS4) O O O ?_
          rintro _ w5 ⟨rfl, l2, hp2, hs2, hS5⟩
          refine Gdn O (tQ ?_)
          exact ⟨l2, ⟨O, O, O, O, O, trivial⟩, hp2, hs2, hS5⟩
        · have hie : i = mid := by omega
          refine Gan O (tQ ?_)
          exact ⟨l1, ⟨O, O, O, O, O, trivial⟩, RP.refl _ _ _, hie ▸ s1, hS4⟩
      · have hie : a = i := by omega
        refine Ops.k O O O O O (Ops.k O O O O O (Ops.k O O O O O (Gdc O ?_)))
        refine Cd.cond_f O ?_
        refine Gan O (tQ ?_)
        exact ⟨l1, ⟨O, O, O, O, O, trivial⟩, RP.refl _ _ _, hie ▸ s2, hS4⟩
    rintro l2 e w5 ⟨hp2, hs2, hS5⟩
    have hl2 := hp2.len
    have t3 : SR kT l2 mid (mid + m - i) := s3.congr fun x h h' => hp2.out x (.inr h)
    have t4 : SR kT l2 (mid + m - i) b := s4.congr fun x h h' => hp2.out x (.inr (by omega))
    have hfin : ∀ l3, RP l2 l3 mid b → SR kT l3 mid b → RP ds l3 a b ∧ SR kT l3 a b := fun l3 hp3 hs3 =>
      ⟨(hp1.trans hp2 (Nat.le_refl _) (by omega)).trans hp3 (by omega) (Nat.le_refl _), cut_join (by omega) (by omega) (by omega) hx hp2 hs2 hp3 hs3⟩
    refine Gao O ?_
    refine Ops.split_p 209 O (fun h4 => ?_) (fun h4 => ?_)
    · refine Ops.g O O O (Gdo O (Ops.g O O O (Gdo O (Ops.g O O O (Gdc O ?_)))))
      refine Cd.cond_p _ O (fun h5 => ?_) (fun h5 => ?_)
      · refine Gao O ?_
        refine Ops.call (ih mid (mid + m - i) b (by omega) (by omega) (by omega) hbn l2 _ (hp2.cap (hp1.cap hc)) (fun x y q1 q2 q3 q4 => by { rw [hp2.out x (.inr q1), hp2.out y (.inr (by omega)), hr.right x (by omega) q2, hr.out y (.inr q3)]; exact hsep (x - (mid + m - i - m)) y (by omega) (by omega) (by omega) q4 }) t3 t4 hS5) O O O ?_
        rintro _ w6 ⟨rfl, l3, hp3, hs3, hS6⟩
        have := hfin l3 hp3 hs3
        refine Gdn O (ret0_n ?_)
        exact ⟨O, l3, this.1, this.2, hS6⟩
      · have hie : mid + m - i = b := by omega
        have := hfin l2 (RP.refl _ _ _) (hie ▸ t3)
        refine Gan O (ret0_n ?_)
        exact ⟨O, l2, this.1, this.2, hS5⟩
    · have hie : mid = mid + m - i := by omega
      have := hfin l2 (RP.refl _ _ _) (hie ▸ t4)
      refine Ops.k O O O O O (Ops.k O O O O O (Ops.k O O O O O (Gdc O ?_)))
      refine Cd.cond_f O (Gan O (ret0_n ?_))
      exact ⟨O, l2, this.1, this.2, hS5⟩
def CutT (l : List TV) (n p : Nat) : Prop := ∀ x y, x < p → p ≤ y → y < n → ixT (gs l x) < ixT (gs l y)
theorem CutT.out {l l' : List TV} {n p a b : Nat} (h : CutT l n p) (hp : RP l l' a b) (hb : b ≤ l.length) (hn : b ≤ n) (hs : p ≤ a ∨ b ≤ p) : CutT l' n p := fun x y hx hy hyn => by
 have fx : ∃ x', gs l' x = gs l x' ∧ x' < p := by
  by_cases e : a ≤ x ∧ x < b
  ·obtain ⟨j, h1, h2, h3⟩ := hp.from hb e.1 e.2
   exact ⟨j, h3, by omega⟩
  exact ⟨x, hp.out x (by omega), hx⟩
 have fy : ∃ y', gs l' y = gs l y' ∧ p ≤ y' ∧ y' < n := by
  by_cases e : a ≤ y ∧ y < b
  ·obtain ⟨j, h1, h2, h3⟩ := hp.from hb e.1 e.2
   exact ⟨j, h3, by omega, by omega⟩
  exact ⟨y, hp.out y (by omega), hy, hyn⟩
 obtain ⟨x', e1, h1⟩ := fx
 obtain ⟨y', e2, h2, h3⟩ := fy
 rw [e1, e2]
 exact h x' y' h1 h2 h3
theorem mul_side {a p k : Nat} (ha : a = k * p) (hq : (k + 1) * p = a + p) (j : Nat) : j * p ≤ a ∨ a + p ≤ j * p := by
 rcases Nat.lt_or_ge k j with h | h
 ·right; rw [← hq]; exact Nat.mul_le_mul_right p h
 left; rw [ha]; exact Nat.mul_le_mul_right p h
theorem mul_end {a p k n : Nat} (ha : a = k * p) (hq : (k + 1) * p = a + p) (hn : n ≤ a + p) (j : Nat) : j * p ≤ a ∨ n ≤ j * p := by
 rcases mul_side ha hq j with h | h
 ·exact .inl h
 exact .inr (by omega)
theorem stable_c {w0 w : World} {ks : List Ck} {t : TypeId} {A : Option Addr} {n c : Nat} {ds : List TV} (hn : n ≤ 1000000000000) (hc : ∀ s ∈ ds, OkT s) (hord : ∀ x y, x < y → y < n → ixT (gs ds x) < ixT (gs ds y)) (hS : St w0 w (CkT t A n c ds :: ks)) :
  Ret Tryz.prog 220 [.slice A n c, .int .i64 (n : Int), .func (.func 175) #[] #[]] w (fun v w' => v = .tuple #[] ∧ ∃ ds', ds'.Perm ds ∧ SR kT ds' 0 n ∧ St w0 w' (CkT t A n c ds' :: ks)) := by
 have hln : ds.length = n := (hS.rdT 0 O).1
 refine Ret.of_cd Tryz.func220 O Tryz.ntmps220 O (post0 O) (Gbc O ?_)
 refine Cd.loop (α := Nat × List TV) (fun z => [(0, .slice A n c), (1, .int .i64 (n : Int)), (2, .func (.func 175) #[] #[]), (6, .int .i64 20), (7, .int .i64 ((z.1 * 20 : Nat) : Int)), (8, .int .i64 ((z.1 * 20 + 20 : Nat) : Int))]) (fun z w' => z.1 * 20 ≤ n ∧ z.2.Perm ds ∧ (∀ x, z.1 * 20 ≤ x → gs z.2 x = gs ds x) ∧ (∀ k, CutT z.2 n (k * 20)) ∧ Blks kT z.2 n 20 0 (z.1 * 20) ∧ St w0 w' (CkT t A n c z.2 :: ks)) (fun z => n - z.1 * 20) (0, ds) ⟨O, O, O, O, O, O, trivial⟩ ⟨by omega, List.Perm.refl _, fun _ _ => O, fun k x y h1 h2 h3 => hord x y (Nat.lt_of_lt_of_le h1 h2) h3, fun k h h' => by omega, hS⟩ ?_
 rintro ⟨k, cu⟩ e w1 ⟨hk, hp, hun, hcut, hB, hS1⟩
 dsimp only at hk hp hun hcut hB hS1 ⊢
 have hcul : cu.length = n := by rw [hp.length_eq]; exact hln
 have hcc : ∀ s ∈ cu, OkT s := fun s hs => hc s (hp.mem_iff.1 hs)
 have sep : ∀ (j : Nat), j * 20 < k * 20 → min (j * 20 + 20) n ≤ k * 20 := fun j hj => by omega
 refine Gbc O ?_
 refine Cd.cond_p _ O (fun h1 => ?_) (fun h1 => ?_)
 ·refine Gao O ?_
  refine Ops.call (insertion_c (k * 20) (k * 20 + 20) (by omega) hk (by omega) hcc (fun x y h2 h3 h4 => by rw [hun x h2, hun y (by omega)]; exact hord x y h3 (by omega)) hS1) O O O ?_
  rintro _ w2 ⟨rfl, cu2, hp2, hs2, hS2⟩
  refine Gdo O (Ops.add O O O (by omega) (Gdn O (tQ ?_)))
  refine ⟨(k + 1, cu2), by show n - (k + 1) * 20 < n - k * 20; omega, ⟨O, O, O, O, by show Value.int .i64 ((k * 20 + 20 : Nat) : Int) = .int .i64 (((k + 1) * 20 : Nat) : Int); congr 1; omega, by show Value.int .i64 (((k * 20 + 20 : Nat) : Int) + 20) = .int .i64 (((k + 1) * 20 + 20 : Nat) : Int); congr 1; omega, trivial⟩, by show (k + 1) * 20 ≤ n; omega, hp2.perm.trans hp, fun x hx => by { have hx : (k + 1) * 20 ≤ x := hx; rw [hp2.out x (.inr (by omega)), hun x (by omega)] }, fun j => (hcut j).out hp2 (by omega) (by omega) (by omega), fun j hj hj2 => ?_, hS2⟩
  have hj2 : j * 20 < (k + 1) * 20 := hj2
  by_cases e : j = k
  ·subst e
   rw [Nat.min_eq_left (by omega)]
   exact hs2
  exact (hB j hj (by omega)).congr fun x h h' => hp2.out x (.inl (by omega))
 refine Gax O (thenQ_x (Gfo O ?_))
 refine Ops.call (insertion_c (k * 20) n (Nat.le_refl _) hk (by omega) hcc (fun x y h2 h3 h4 => by rw [hun x h2, hun y (by omega)]; exact hord x y h3 h4) hS1) O O O ?_
 rintro _ w2 ⟨rfl, cu2, hp2, hs2, hS2⟩
 have hB2 : Blks kT cu2 n 20 0 n := fun j hj hj2 => by
  by_cases e : j = k
  ·subst e
   rw [Nat.min_eq_right (by omega)]
   exact hs2
  exact (hB j hj (by omega)).congr fun x h h' => hp2.out x (.inl (by omega))
 refine Gdc O ?_
 refine Cd.loop (α := Nat × List TV) (fun z => [(0, .slice A n c), (1, .int .i64 (n : Int)), (2, .func (.func 175) #[] #[]), (6, .int .i64 (z.1 : Int))]) (fun z w' => (0 < z.1 ∧ z.1 ≤ 2 * n + 20) ∧ z.2.Perm ds ∧ (∀ k, CutT z.2 n (k * z.1)) ∧ Blks kT z.2 n z.1 0 n ∧ St w0 w' (CkT t A n c z.2 :: ks)) (fun z => 2 * n + 20 - z.1) (20, cu2) ⟨O, O, O, O, trivial⟩ ⟨⟨by show 0 < 20; omega, by show 20 ≤ 2 * n + 20; omega⟩, hp2.perm.trans hp, fun j => (hcut j).out hp2 (by omega) (Nat.le_refl _) (by show j * 20 ≤ k * 20 ∨ n ≤ j * 20; omega), hB2, hS2⟩ ?_
 rintro ⟨s, c3⟩ e w3 ⟨⟨hs0, hsn⟩, hp3, hcut3, hB3, hS3⟩
 dsimp only at hs0 hsn hp3 hcut3 hB3 hS3 ⊢
 refine Gbc O ?_
 refine Cd.cond_p _ O (fun h2 => ?_) (fun h2 => ?_)
 ·refine Gao O (Ops.mul O O O (by omega) (Gdc O ?_))
  obtain ⟨p, hp⟩ : ∃ p : Nat, p = 2 * s := ⟨_, rfl⟩
  have hcp : ((2 : Int) * (s : Int)) = (p : Int) := by omega
  rw [hcp]
  refine Cd.loop (α := Nat × Nat × List TV) (fun z => [(0, .slice A n c), (1, .int .i64 (n : Int)), (2, .func (.func 175) #[] #[]), (6, .int .i64 (s : Int)), (7, .int .i64 (z.2.1 : Int)), (8, .int .i64 ((z.2.1 + p : Nat) : Int))]) (fun z w' => z.2.1 = z.1 * p ∧ z.2.1 ≤ n ∧ z.2.2.Perm ds ∧ (∀ k, CutT z.2.2 n (k * p)) ∧ (∀ k, z.2.1 ≤ k * s → CutT z.2.2 n (k * s)) ∧ Blks kT z.2.2 n p 0 z.2.1 ∧ Blks kT z.2.2 n s z.2.1 n ∧ St w0 w' (CkT t A n c z.2.2 :: ks)) (fun z => n - z.2.1) (0, 0, c3) ⟨O, O, O, O, O, by show Value.int .i64 (p : Int) = .int .i64 ((0 + p : Nat) : Int); rw [Nat.zero_add], trivial⟩ ⟨(Nat.zero_mul p).symm, Nat.zero_le _, hp3, fun k => by { have := hcut3 (2 * k); rwa [show 2 * k * s = k * p by rw [hp, Nat.mul_comm 2 k, Nat.mul_assoc]] at this }, fun k _ => hcut3 k, fun k h h' => absurd h' (Nat.not_lt_zero _), hB3, hS3⟩ ?_
  rintro ⟨k, a, c4⟩ e w4 ⟨ha, han, hp4, hcp4, hcs4, hBp, hBs, hS4⟩
  dsimp only at ha han hp4 hcp4 hcs4 hBp hBs hS4 ⊢
  have hc4l : c4.length = n := by rw [hp4.length_eq]; exact hln
  have hcc4 : ∀ s ∈ c4, OkT s := fun s hs => hc s (hp4.mem_iff.1 hs)
  have q1 : 2 * k * s = a := by rw [ha, hp, Nat.mul_comm 2 k, Nat.mul_assoc]
  have q2 : (2 * k + 1) * s = a + s := by rw [Nat.succ_mul, q1]
  have q3 : (k + 1) * p = a + p := by rw [Nat.succ_mul, ha]
  have hA1 : a < n → SR kT c4 a (min (a + s) n) := fun h => by
   have := hBs (2 * k) (by rw [q1]; exact Nat.le_refl _) (by rw [q1]; exact h)
   rwa [q1] at this
  have hA2 : a + s < n → SR kT c4 (a + s) (min (a + s + s) n) := fun h => by
   have := hBs (2 * k + 1) (by rw [q2]; omega) (by rw [q2]; exact h)
   rwa [q2] at this
  refine Gbc O ?_
  refine Cd.cond_p _ O (fun h3 => ?_) (fun h3 => ?_)
  ·have hap : a + p ≤ n := by omega
   have m1 := hA1 (by omega)
   have m2 := hA2 (by omega)
   rw [Nat.min_eq_left (by omega)] at m1 m2
   rw [show a + s + s = a + p by omega] at m2
   refine Gao O (Ops.add O O O (by omega) (Gdo O ?_))
   refine Ops.call (symMerge_c (by omega) p a (a + s) (a + p) (by omega) (by omega) (by omega) hap c4 _ hcc4 (fun x y h4 h5 h6 h7 => by { have h8 := hcs4 (2 * k + 1) (by rw [q2]; omega); rw [q2] at h8; exact h8 x y h5 h6 (by omega) }) m1 m2 hS4) O O O ?_
   rintro _ w5 ⟨rfl, c5, hp5, hs5, hS5⟩
   refine Gdo O (Ops.mul O O O (by omega) (Ops.add O O O (by omega) (Gdn O (tQ ?_))))
   refine ⟨(k + 1, a + p, c5), by show n - (a + p) < n - a; omega, ⟨O, O, O, O, O, by show Value.int .i64 (((a + p : Nat) : Int) + (2 : Int) * (s : Int)) = .int .i64 ((a + p + p : Nat) : Int); congr 1; omega, trivial⟩, q3.symm, hap, hp5.perm.trans hp4, fun j => (hcp4 j).out hp5 (by omega) hap (mul_side ha q3 j), fun j hj => (hcs4 j (by have hj : a + p ≤ j * s := hj; omega)).out hp5 (by omega) hap (.inr hj), fun j hj hj2 => ?_, fun j hj hj2 => ?_, hS5⟩
   ·have hj2 : j * p < a + p := hj2
    by_cases e : j = k
    ·subst e
     rw [← ha, Nat.min_eq_left hap]; exact hs5
    have hjk : j < k + 1 := by rw [← q3] at hj2; exact Nat.lt_of_mul_lt_mul_right hj2
    have h6 : j * p < k * p := Nat.mul_lt_mul_of_pos_right (by omega) (by omega)
    have h7 := mul_gap h6
    exact (hBp j (Nat.zero_le _) (by rw [ha]; exact h6)).congr fun x h h' => hp5.out x (.inl (by omega))
   have hj : a + p ≤ j * s := hj
   exact (hBs j (by omega) hj2).congr fun x h h' => hp5.out x (.inr (by omega))
  have hap : n < a + p := by omega
  have key : ∀ c5 : List TV, RP c4 c5 a n → SR kT c5 a n → Blks kT c5 n p 0 n := fun c5 hp5 hs5 j hj hj2 => by
   by_cases e : j = k
   ·subst e
    rw [← ha, Nat.min_eq_right (by omega)]; exact hs5
   have hjk : j < k + 1 := by
    have : j * p < (k + 1) * p := by rw [q3]; omega
    exact Nat.lt_of_mul_lt_mul_right this
   have h6 : j * p < k * p := Nat.mul_lt_mul_of_pos_right (by omega) (by omega)
   have h7 := mul_gap h6
   exact (hBp j (Nat.zero_le _) (by rw [ha]; exact h6)).congr fun x h h' => hp5.out x (.inl (by omega))
  refine Gax O (thenQ_x (Gfo O (Ops.add O O O (by omega) (Gdc O ?_))))
  refine Cd.cond_p _ O (fun h4 => ?_) (fun h4 => ?_)
  ·have m1 := hA1 (by omega)
   have m2 := hA2 (by omega)
   rw [Nat.min_eq_left (by omega)] at m1
   rw [Nat.min_eq_right (by omega)] at m2
   refine Gao O ?_
   refine Ops.call (symMerge_c (by omega) n a (a + s) n (by omega) (by omega) (by omega) (Nat.le_refl _) c4 _ hcc4 (fun x y h4 h5 h6 h7 => by { have h8 := hcs4 (2 * k + 1) (by rw [q2]; omega); rw [q2] at h8; exact h8 x y h5 h6 h7 }) m1 m2 hS4) O O O ?_
   rintro _ w5 ⟨rfl, c5, hp5, hs5, hS5⟩
   refine Gdo O (Ops.mul O O O (by omega) (Gdn O (tQ ?_)))
   exact ⟨(p, c5), by show 2 * n + 20 - p < 2 * n + 20 - s; omega, ⟨O, O, O, by show Value.int .i64 ((s : Int) * 2) = .int .i64 (p : Int); congr 1; omega, trivial⟩, ⟨by show 0 < p; omega, by show p ≤ 2 * n + 20; omega⟩, hp5.perm.trans hp4, fun j => (hcp4 j).out hp5 (by omega) (Nat.le_refl _) (mul_end ha q3 (by omega) j), key c5 hp5 hs5, hS5⟩
  have hs4 : SR kT c4 a n := by
   by_cases h5 : a < n
   ·have := hA1 h5
    rwa [Nat.min_eq_right (by omega)] at this
   exact SR.one _ _ (by omega)
  refine Gao O (Ops.mul O O O (by omega) (Gdn O (tQ ?_)))
  exact ⟨(p, c4), by show 2 * n + 20 - p < 2 * n + 20 - s; omega, ⟨O, O, O, by show Value.int .i64 ((s : Int) * 2) = .int .i64 (p : Int); congr 1; omega, trivial⟩, ⟨by show 0 < p; omega, by show p ≤ 2 * n + 20; omega⟩, hp4, hcp4, key c4 (RP.refl _ _ _) hs4, hS4⟩
 refine Gax O (thenQ_x (Gfn O ?_))
 refine ret0_n ?_
 exact ⟨O, c3, hp3, hB3.done (by omega), hS3⟩
theorem sortStable_c {w0 w : World} {ks : List Ck} {t : TypeId} {A : Option Addr} {n c : Nat} {ds : List TV} (hn : n ≤ 1000000000000) (hc : ∀ s ∈ ds, OkT s) (hord : ∀ x y, x < y → y < n → ixT (gs ds x) < ixT (gs ds y)) (hS : St w0 w (CkT t A n c ds :: ks)) :
  Ret Tryz.prog 174 [.slice A n c, .func (.func 175) #[] #[]] w (fun v w' => v = .tuple #[] ∧ ∃ ds', ds'.Perm ds ∧ SR kT ds' 0 n ∧ St w0 w' (CkT t A n c ds' :: ks)) := by
 refine Ret.of_cd Tryz.func174 O Tryz.ntmps174 O (post0 O) ?_
 refine Gbo O (Ops.len O O (Gdo O ?_))
 refine Ops.call (stable_c hn hc hord hS) O O O ?_
 rintro _ w1 ⟨rfl, ds', h1, h2, h3⟩
 refine Gdn O (ret0_n ?_)
 exact ⟨O, ds', h1, h2, h3⟩
end Go.Proofs.YtopgfgdgfjddpaaGreatDoor.Vc.TS
/-
 Faces under faces, walked in the program.
-/
namespace Go.Proofs.YtopgfgdgfjddpaaGreatDoor.Vc
open Go.RowKit
structure FcR (w : World) (A8 : Option Addr) (X : List Int) (N : Nat) (AD : Option Addr) (rs : List SlV) (B : List (List Int)) : Prop where
 len : X.length = N + 2
 big : N ≤ 500
 rk : RdI w A8 (N + 2) X
 bl : RowsI w AD N rs B
 bln : B.length = N
 sa : ∀ e : Int, 0 ≤ e → e < (N : Int) → SA (gl B e) ∧ (gl B e).length ≤ 500
theorem FcR.later {w w' : World} {A8 : Option Addr} {X : List Int} {N : Nat} {AD : Option Addr} {rs : List SlV} {B : List (List Int)} (h : FcR w A8 X N AD rs B) (hb : Below w.heap.size w w') : FcR w' A8 X N AD rs B := ⟨h.len, h.big, h.rk.later hb, h.bl.later hb, h.bln, h.sa⟩
abbrev fcV (A8 : Option Addr) (m c8 : Nat) (q : Int) (AR : Option Addr) (r cR : Nat) (AD : Option Addr) (N cD : Nat) : List Value := [.slice A8 m c8, .int .i64 q, .slice AR r cR, .slice AD N cD]
theorem isUnder_c (P A8 : Option Addr) (c8 : Nat) (q : Int) (AR : Option Addr) (r cR : Nat) (AD : Option Addr) (N cD : Nat) (X : List Int) (rs : List SlV) (B : List (List Int)) (a b : Int) (w : World) (hP : Rd w P 4 (fun j => (fcV A8 (N + 2) c8 q AR r cR AD N cD).getD j undef)) (hF : FcR w A8 X N AD rs B) (ha : 0 ≤ a ∧ a < (N : Int) + 2) (hb : 0 ≤ b ∧ b < (N : Int) + 2) :
  Ret Tryz.prog 177 [.pointer P, .int .i64 a, .int .i64 b] w (fun v w' => v = .bool (decide (UndP N B a b)) ∧ w' = w) := by
 have hbig := hF.big
 have hbln := hF.bln
 have hsa := hF.sa (b - 1)
 have hPo : Rd w (ptrAt P 1) 3 (fun j => [Value.int .i64 q, .slice AR r cR, .slice AD N cD].getD j undef) := (hP.behind (o := 1) (m := 3) (by omega)).congr fun j hj => by
  rcases (show j = 0 ∨ j = 1 ∨ j = 2 by omega) with rfl | rfl | rfl <;> rfl
 have yes : UndP N B a b → Value.bool true = .bool (decide (UndP N B a b)) := fun h => congrArg Value.bool (decide_eq_true h).symm
 have no : ¬ UndP N B a b → Value.bool false = .bool (decide (UndP N B a b)) := fun h => congrArg Value.bool (decide_eq_false h).symm
 refine Ret.of_cd Tryz.func177 O Tryz.ntmps177 O (post1 O) (Gbo O ?_)
 refine Ops.split_p 10 O (fun h1 => ?_) (fun h1 => ?_)
 ·refine Ops.k O O O O O (Ops.k O O O O O (Gdo O (Ops.k O O O O O (Ops.k O O O O O (Ops.k O O O O O (Ops.k O O O O O (Ops.k O O O O O (Ops.k O O O O O (Ops.k O O O O O (Ops.k O O O O O (Gdo O ?_)))))))))))
  refine Ops.k O O O O O (Ops.k O O O O O (Ops.k O O O O O (Ops.k O O O O O (Ops.k O O O O O (Ops.k O O O O O (Ops.k O O O O O (Ops.k O O O O O (Ops.k O O O O O (Ops.skipu O O O O (Ops.skipu O O O O (Ops.k O O O O O ?_)))))))))))
  refine Ops.k O O O O O (Ops.skipu O O O O (Ops.skipu O O O O (Ops.skipu O O O O (Ops.skipu O O O O (Ops.skipu O O O O (Ops.skipu O O O O (Ops.skipu O O O O (Ops.skipu O O O O (Ops.k O O O O O (Gdr O ?_))))))))))
  refine ret1_b O ?_
  exact ⟨yes (.inl h1), O⟩
 refine Ops.g O O O (Gdo O (Ops.g O O O (Gdo O ?_)))
 refine Ops.split_p 14 O (fun h2 => ?_) (fun h2 => ?_)
 ·refine Ops.k O O O O O (Ops.k O O O O O (Ops.k O O O O O (Ops.k O O O O O (Ops.k O O O O O (Ops.k O O O O O (Ops.k O O O O O (Ops.k O O O O O (Gdo O (Ops.k O O O O O (Ops.k O O O O O (Ops.k O O O O O ?_)))))))))))
  refine Ops.k O O O O O (Ops.k O O O O O (Ops.k O O O O O (Ops.k O O O O O (Ops.k O O O O O (Ops.k O O O O O (Ops.skipu O O O O (Ops.skipu O O O O (Ops.k O O O O O (Ops.k O O O O O (Ops.skipu O O O O (Ops.skipu O O O O ?_)))))))))))
  refine Ops.skipu O O O O (Ops.skipu O O O O (Ops.skipu O O O O (Ops.skipu O O O O (Ops.skipu O O O O (Ops.skipu O O O O (Ops.k O O O O O (Gdr O ?_)))))))
  refine ret1_b O ?_
  exact ⟨yes (.inr (.inl h2)), O⟩
 refine Ops.g O O O (Gdo O (Ops.g O O O (Gdo O (Ops.g O O O ?_))))
 refine Ops.nilp hP (by decide) O O ?_
 refine Ops.g O O O (Ops.fld hP O O O O inferInstance (Ops.g O O O (Ops.ldf_s (j := 0) hP (by exact congrArg Value.pointer O) O O O O ?_)))
 refine Ops.g O O O (Ops.len O O (Ops.g O O O (Ops.sub O O O (by omega) (Ops.g O O O (Gdo O ?_)))))
 refine Ops.split_p 24 O (fun h3 => ?_) (fun h3 => ?_)
 ·refine Ops.k O O O O O (Ops.k O O O O O (Ops.k O O O O O (Ops.k O O O O O (Ops.k O O O O O (Ops.k O O O O O (Ops.k O O O O O (Ops.k O O O O O (Ops.k O O O O O (Ops.skipu O O O O (Ops.skipu O O O O (Ops.k O O O O O ?_)))))))))))
  refine Ops.k O O O O O (Ops.skipu O O O O (Ops.skipu O O O O (Ops.skipu O O O O (Ops.skipu O O O O (Ops.skipu O O O O (Ops.skipu O O O O (Ops.skipu O O O O (Ops.skipu O O O O (Ops.k O O O O O (Gdr O ?_))))))))))
  refine ret1_b O ?_
  exact ⟨yes (.inr (.inr (.inl (by omega)))), O⟩
 refine Ops.g O O O (Gdo O (Ops.g O O O (Gdo O (Ops.g O O O ?_))))
 refine Ops.nilp hP (by decide) O O ?_
 refine Ops.g O O O (Ops.fld hP O O O O inferInstance (Ops.g O O O (Ops.ldf_s (j := 0) hP (by exact congrArg Value.pointer O) O O O O ?_)))
 refine Ops.g O O O (Ops.len O O (Ops.g O O O (Ops.sub O O O (by omega) (Ops.g O O O (Gdo O (Ops.g O O O (Gdo O ?_)))))))
 refine Ops.split_p 33 O (fun h4 => ?_) (fun h4 => ?_)
 ·refine Ops.g O O O (Gdo O (Ops.g O O O (Gdo O (Ops.g O O O (Gdo O (Ops.g O O O (Gdo O ?_)))))))
  refine Ops.split_p 37 O (fun h5 => ?_) (fun h5 => ?_)
  ·refine Ops.g O O O (Gdo O (Ops.g O O O ?_))
   refine Ops.nilp hP (by decide) O O ?_
   refine Ops.g O O O (Ops.fld hP O O O O inferInstance ?_)
   refine Ops.g O O O (Gdo O (Ops.g O O O (Ops.sub O O O (by omega) (Ops.g O O O (Gdo O (Ops.g O O O (Ops.sub O O O (by omega) (Ops.g O O O ?_))))))))
   refine Ops.call (isBelowN_c (ptrAt P 1) AR AD cR r cD q N rs B (a - 1) (b - 1) _ hPo hF.bl hbln (by omega) (hsa (by omega) (by omega)).1 (by have := (hsa (by omega) (by omega)).2; omega)) O O O ?_
   rintro _ _ ⟨rfl, rfl⟩
   refine Ops.g O O O (Gdr O ?_)
   refine ret1_b O ?_
   refine ⟨congrArg Value.bool (decide_eq_decide.2 ⟨fun h => .inr (.inr (.inr ⟨by omega, by omega, by omega, by omega, h⟩)), fun h => ?_⟩), O⟩
   rcases h with h | h | h | h
   ·exact absurd h h1
   ·exact absurd h h2
   ·omega
   exact h.2.2.2.2
  refine Ops.k O O O O O (Ops.k O O O O O (Ops.k O O O O O (Ops.k O O O O O (Ops.k O O O O O (Ops.k O O O O O (Ops.k O O O O O (Ops.k O O O O O (Ops.g O O O (Gdr O ?_)))))))))
  refine ret1_b O ?_
  refine ⟨no fun h => ?_, O⟩
  rcases h with h | h | h | h
  ·exact h1 h
  ·exact h2 h
  ·omega
  omega
 refine Ops.k O O O O O (Ops.k O O O O O (Ops.g O O O (Gdo O (Ops.g O O O (Gdo O (Ops.k O O O O O (Ops.k O O O O O (Ops.k O O O O O (Ops.k O O O O O (Ops.k O O O O O (Ops.k O O O O O ?_)))))))))))
 refine Ops.k O O O O O (Ops.k O O O O O (Ops.g O O O (Gdr O ?_)))
 refine ret1_b O ?_
 refine ⟨no fun h => ?_, O⟩
 rcases h with h | h | h | h
 ·exact h1 h
 ·exact h2 h
 ·omega
 omega
/-
 The product of the faces of two polytopes, walked in the program.
-/
def AnsPr (k : Nat) (RL : List Int) (BL : List (List Int)) (w : World) (v : Value) (w' : World) : Prop := ((5 < k ∨ 500 < RL.length) ∧ v = .tuple #[.agg #[.int .i64 0, .slice none 0 0, .slice none 0 0], .int .i64 3] ∧ St w w' []) ∨ ((k ≤ 5 ∧ RL.length ≤ 500) ∧ ∃ AR c AD d rs, v = .tuple #[.agg #[.int .i64 (k : Int), .slice AR RL.length c, .slice AD RL.length d], .int .i64 0] ∧ rs.length = RL.length ∧ BL.length = RL.length ∧ St w w' (CkI 2 AR RL.length c RL :: (mat 32 2 AD RL.length d rs BL ++ [])))
abbrev fcB (A : Option Addr) (vs : List Value) : Ck := Bx 100 4 A vs
theorem St.nilT {w0 w : World} {ks : List Ck} (t : TypeId) (h : St w0 w ks) : St w0 w (CkT t Option.none 0 0 [] :: ks) := h.nil t
theorem filter_lt {P : Int → Prop} [DecidablePred P] {n i : Nat} (h : i ≤ n) : ((rngI n).filter fun f => decide (f < (i : Int) ∧ P f)) = (rngI i).filter fun f => decide (P f) := by
 refine SA.eq (List.Pairwise.filter _ (rngI_SA _)) (List.Pairwise.filter _ (rngI_SA _)) fun y => ?_
 rw [List.mem_filter, List.mem_filter, rngI_mem, rngI_mem, decide_eq_true_eq, decide_eq_true_eq]
 exact ⟨fun h => ⟨by omega, h.2.2⟩, fun h => ⟨by omega, by omega, h.2⟩⟩
section
variable (N1 N2 : Nat) (B1 B2 : List (List Int)) (L : List (Int × Int))
def beP (i e : Nat) : List Int := (rngI e).filter fun f => decide (UndP N1 B1 (gp L f).1 (gp L (i : Int)).1 ∧ UndP N2 B2 (gp L f).2 (gp L (i : Int)).2)
theorem beP_next (i e : Nat) : beP N1 N2 B1 B2 L i (e + 1) = if UndP N1 B1 (gp L (e : Int)).1 (gp L (i : Int)).1 ∧ UndP N2 B2 (gp L (e : Int)).2 (gp L (i : Int)).2 then beP N1 N2 B1 B2 L i e ++ [(e : Int)] else beP N1 N2 B1 B2 L i e := by
 unfold beP
 rw [rngI_snoc, List.filter_append]
 by_cases c : UndP N1 B1 (gp L (e : Int)).1 (gp L (i : Int)).1 ∧ UndP N2 B2 (gp L (e : Int)).2 (gp L (i : Int)).2
 ·rw [if_pos c]; simp [c.1, c.2]
 rw [if_neg c]
 rw [List.filter_cons_of_neg (by simpa using c), List.filter_nil, List.append_nil]
theorem beP_all {i : Nat} (h : i ≤ L.length) : beP N1 N2 B1 B2 L i i = prBe (UndP N1 B1) (UndP N2 B2) L (i : Int) := by
 unfold beP prBe
 exact (filter_lt (P := fun f => UndP N1 B1 (gp L f).1 (gp L (i : Int)).1 ∧ UndP N2 B2 (gp L f).2 (gp L (i : Int)).2) h).symm
theorem beP_len (i e : Nat) : (beP N1 N2 B1 B2 L i e).length ≤ e := by
 refine Nat.le_trans (List.length_filter_le _ _) ?_
 rw [rngI, List.length_map, List.length_range]; exact Nat.le_refl _
def prBt (i : Nat) : List (List Int) := (rngI i).map (prBe (UndP N1 B1) (UndP N2 B2) L)
theorem prBt_next (i : Nat) : prBt N1 N2 B1 B2 L (i + 1) = prBt N1 N2 B1 B2 L i ++ [prBe (UndP N1 B1) (UndP N2 B2) L (i : Int)] := by
 unfold prBt
 rw [rngI_snoc, List.map_append]; rfl
theorem prBt_len (i : Nat) : (prBt N1 N2 B1 B2 L i).length = i := by simp [prBt, rngI]
end
abbrev pgK (Ap : Option Addr) (n cp : Nat) (ds : List TV) (A10 A6 A4 A3 : Option Addr) (k : Int) (v4 v3 : List Value) : List Ck :=
 [CkT 153 Ap n cp ds, poB A10 k none 0 0 none 0 0, poB A6 0 none 0 0 none 0 0, fcB A4 v4, fcB A3 v3]
abbrev pdK (AR : Option Addr) (i cR : Nat) (rl : List Int) (A10 : Option Addr) (k : Int) (AD : Option Addr) (cD : Nat) (Ap : Option Addr) (n cp : Nat) (ds : List TV) (A6 A4 A3 : Option Addr) (v4 v3 : List Value) (rsD : List SlV) (B : List (List Int)) : List Ck :=
 CkI 2 AR i cR rl :: poB A10 k AR i cR AD i cD :: CkT 153 Ap n cp ds :: poB A6 0 none 0 0 none 0 0 :: fcB A4 v4 :: fcB A3 v3 :: (mat 32 2 AD i cD rsD B ++ [])
theorem perm_i {α : Type} (q1 q2 q3 q4 q5 q6 q7 : α) : [q1, q2, q3, q4, q5, q6, q7].Perm [q1, q4, q3, q5, q6, q7, q2] := by
 classical
 refine List.perm_iff_count.2 fun z => ?_
 simp only [List.count_cons, List.count_nil]
 omega
theorem perm_h {α : Type} (b d : α) (q1 q2 q3 q4 q5 q6 q7 : α) (X : List α) : (b :: d :: q1 :: q2 :: q3 :: q4 :: q5 :: q6 :: q7 :: (X ++ [])).Perm (d :: q1 :: q2 :: q3 :: q4 :: q5 :: q6 :: q7 :: ((X ++ [b]) ++ [])) := by
 classical
 refine List.perm_iff_count.2 fun z => ?_
 simp only [List.count_append, List.count_cons, List.count_nil]
 omega
set_option maxHeartbeats 8000000 in
theorem product_c (A8 B8 : Option Addr) (c8 d8 : Nat) (q1 q2 : Int) (AR0 BR : Option Addr) (r1 r2 cR0 dR : Nat) (AD0 BD : Option Addr) (N1 N2 cD0 dD : Nat) (X1 X2 : List Int) (rs1 rs2 : List SlV) (B1 B2 : List (List Int)) (n1 n2 kind : Int) (k : Nat) (w : World) (hF1 : FcR w A8 X1 N1 AD0 rs1 B1) (hF2 : FcR w B8 X2 N2 BD rs2 B2) (hL1 : Lat (N1 + 2) n1 (gi X1) (UndP N1 B1)) (hL2 : Lat (N2 + 2) n2 (gi X2) (UndP N2 B2)) (hk : 0 ≤ kind ∧ kind ≤ 2) (hkn : (k : Int) = rnP n1 n2 kind) (hn1 : n1 ≤ 5) (hn2 : n2 ≤ 5) :
  Ret Tryz.prog 115 [.agg #[.slice A8 (N1 + 2) c8, .int .i64 q1, .slice AR0 r1 cR0, .slice AD0 N1 cD0], .agg #[.slice B8 (N2 + 2) d8, .int .i64 q2, .slice BR r2 dR, .slice BD N2 dD], .int .i64 kind] w (AnsPr k ((prL (N1 + 2) (N2 + 2) (gi X1) (gi X2) kind k).map (rkP (gi X1) (gi X2) kind)) (prB (UndP N1 B1) (UndP N2 B2) (prL (N1 + 2) (N2 + 2) (gi X1) (gi X2) kind k)) w) := by
 have hb1 := hF1.big; have hb2 := hF2.big
 have hx1 := hF1.len; have hx2 := hF2.len
 have hg1 := fun (a : Int) h => hL1.rng (a := a) h
 have hg2 := fun (a : Int) h => hL2.rng (a := a) h
 have ht1 := hL1.rt; have ht2 := hL2.rt
 have hn10 := hL1.n0; have hn20 := hL2.n0
 have e1 : (((N1 + 2 : Nat) : Int) - 1) = (N1 : Int) + 1 := by omega
 have e2 : (((N2 + 2 : Nat) : Int) - 1) = (N2 : Int) + 1 := by omega
 have hkr : (k : Int) = n1 + n2 + (if kind = 0 then 1 else 0) := by rw [hkn]; unfold rnP; split <;> omega
 refine Ret.of_cd Tryz.func115 O Tryz.ntmps115 O (postc2 O O) (Gbo O (Ops.boxQ (St.refl w) O O ?_))
 intro A3 w1 hS1
 refine Ops.boxQ hS1 O O ?_
 intro A4 w2 hS2
 refine Ops.newP hS2 O ?_
 intro A6 w3 hS3
 obtain ⟨v3, hv3⟩ : ∃ v3, v3 = fcV A8 (N1 + 2) c8 q1 AR0 r1 cR0 AD0 N1 cD0 := ⟨_, rfl⟩
 obtain ⟨v4, hv4⟩ : ∃ v4, v4 = fcV B8 (N2 + 2) d8 q2 BR r2 dR BD N2 dD := ⟨_, rfl⟩
 have hS3 : St w w3 [poB A6 0 none 0 0 none 0 0, fcB A4 v4, fcB A3 v3] := by rw [hv3, hv4]; exact hS3
 clear hS2 hS1
 have hp3 : ∀ {w' : World} {ks : List Ck} (i : Nat), St w w' ks → ks[i]? = some (fcB A3 v3) → Rd w' A3 4 (fun j => (fcV A8 (N1 + 2) c8 q1 AR0 r1 cR0 AD0 N1 cD0).getD j undef) := fun i h hk => by
  have := h.rd i hk
  rw [hv3] at this
  exact this
 have hp4 : ∀ {w' : World} {ks : List Ck} (i : Nat), St w w' ks → ks[i]? = some (fcB A4 v4) → Rd w' A4 4 (fun j => (fcV B8 (N2 + 2) d8 q2 BR r2 dR BD N2 dD).getD j undef) := fun i h hk => by
  have := h.rd i hk
  rw [hv4] at this
  exact this
 have hR3 := hp3 2 hS3 O
 have hR4 := hp4 1 hS3 O
 have hx3 := (hF1.later hS3.below).rk
 have hx4 := (hF2.later hS3.below).rk
 refine Gdc O ?_
 refine Cd.draw [xP (ptrAt (A3) 0), xS (A8) (N1 + 2) (c8), xI (((N1 + 2 : Nat) : Int)), xI ((((N1 + 2 : Nat) : Int)) - ((1 : Int))), xP (ptrAt (A4) 0), xS (B8) (N2 + 2) (d8), xI (((N2 + 2 : Nat) : Int)), xI ((((N2 + 2 : Nat) : Int)) - ((1 : Int))), xI ((((N1 + 2 : Nat) : Int)) - ((1 : Int))), xI ((((N2 + 2 : Nat) : Int)) - ((1 : Int)))] (by kernel_rfl) (by kernel_rfl) O (exL O) ?_ ?_
 ·exact ⟨fun _ _ hb _ _ => Ops.fld (hR3.below hb) O O O O inferInstance (Az O), fun _ _ hb _ _ => Ops.ldf_s (hR3.below hb) O O O O O (Az O), fun _ _ _ _ _ => Ops.len O O (Az O), fun _ _ _ _ _ => Ops.sub O O O (by omega) (Az O), fun _ _ hb _ _ => Ops.fld (hR4.below hb) O O O O inferInstance (Az O), fun _ _ hb _ _ => Ops.ldf_s (hR4.below hb) O O O O O (Az O), fun _ _ _ _ _ => Ops.len O O (Az O), fun _ _ _ _ _ => Ops.sub O O O (by omega) (Az O), Dr O, Dr O, trivial⟩
 intro u w4 hb4 _
 have hS4 := hS3.later hb4
 have hR3 := Rd.below hR3 hb4; have hR4 := Rd.below hR4 hb4
 have hx3 := hx3.later hb4; have hx4 := hx4.later hb4
 have g1 : gi X1 (((N1 + 2 : Nat) : Int) - 1) = n1 := ht1
 have g2 : gi X2 (((N2 + 2 : Nat) : Int) - 1) = n2 := ht2
 refine Gec O ?_
 refine Cd.drawP [13] [yP (ptrAt (A3) 0), yS (A8) (N1 + 2) (c8), yI (((((N1 + 2 : Nat) : Int) - 1))), yP (ptrAt (A8) (((((N1 + 2 : Nat) : Int) - 1))).toNat), yI (gi (X1) (((((N1 + 2 : Nat) : Int) - 1)))), yP (ptrAt (A4) 0), yS (B8) (N2 + 2) (d8), yI (((((N2 + 2 : Nat) : Int) - 1))), yP (ptrAt (B8) (((((N2 + 2 : Nat) : Int) - 1))).toNat), yI (gi (X2) (((((N2 + 2 : Nat) : Int) - 1)))), yI ((gi (X1) (((((N1 + 2 : Nat) : Int) - 1)))) + (gi (X2) (((((N2 + 2 : Nat) : Int) - 1))))), .ex (.agg #[.int .i64 (gi X1 (((N1 + 2 : Nat) : Int) - 1) + gi X2 (((N2 + 2 : Nat) : Int) - 1)), .slice none 0 0, .slice none 0 0]), .pr (fun v w' => ∃ A10, v = .pointer A10 ∧ St w w' (poB A10 0 none 0 0 none 0 0 :: [poB A6 0 none 0 0 none 0 0, fcB A4 v4, fcB A3 v3])), .p2 12 (fun a v w' => ∃ A10, a = .pointer A10 ∧ St w w' (poB A10 (gi X1 (((N1 + 2 : Nat) : Int) - 1) + gi X2 (((N2 + 2 : Nat) : Int) - 1)) none 0 0 none 0 0 :: [poB A6 0 none 0 0 none 0 0, fcB A4 v4, fcB A3 v3]))] (by kernel_rfl) (by kernel_rfl) (ly (ly (ly (ly (ly (ly (ly (ly (ly (ly (ly (ly (List.forall_mem_cons.2 ⟨Ye.lasts_pr (fun v w w' h hb => by obtain ⟨A9, hv, hT⟩ := h; exact ⟨A9, hv, hT.later hb⟩), (List.forall_mem_cons.2 ⟨Ye.lasts_p2 (fun a v w w' h hb => by obtain ⟨A10, hv, hT⟩ := h; exact ⟨A10, hv, hT.later hb⟩), (fun _ h => by cases h)⟩)⟩))))))))))))) ?_ ?_
 ·refine ⟨cP fun _ _ hb _ _ _ => Ops.fld (hR3.below hb) O O O O inferInstance (AzP O O), cP fun _ _ hb _ _ _ => Ops.ldf_s (hR3.below hb) O O O O O (AzP O O), DrP O, cP fun _ _ hb _ _ _ => Ops.idx (hx3.later hb).2 O O O (by omega) (by omega) (AzP O O), cP fun _ _ hb _ _ _ => Ops.ld_int (hx3.later hb) O (by omega) O O (AzP O O), cP fun _ _ hb _ _ _ => Ops.fld (hR4.below hb) O O O O inferInstance (AzP O O), cP fun _ _ hb _ _ _ => Ops.ldf_s (hR4.below hb) O O O O O (AzP O O), DrP O, cP fun _ _ hb _ _ _ => Ops.idx (hx4.later hb).2 O O O (by omega) (by omega) (AzP O O), cP fun _ _ hb _ _ _ => Ops.ld_int (hx4.later hb) O (by omega) O O (AzP O O), aP fun _ _ => Ops.add O O O (by omega) (AzP O O), aP fun _ _ => Ops.bldP1 (by exact inferInstance) (by exact inferInstance) (by exact inferInstance) O O O O O O (AzP O O), ?_, ?_, trivial⟩
  ·refine cP fun e1 w1 hb hp hun hq => ?_
   refine Ops.newP (St.refl _) O ?_
   intro A9 w9 hst
   refine Ops.n ?_
   exact AfterP.dn O hst.below ⟨A9, O, (hS4.later hb).call hst⟩
  refine cPT fun e1 w1 hb hp hun hq => ?_
  obtain ⟨A10, h10, hT⟩ := (hp 12 _ _ (by kernel_rfl) rfl rfl (by kernel_rfl))
  refine Ops.st_agg 3 0 hT O (by exact h10) O O O O O ?_
  intro w9 hS9
  refine Ops.n ?_
  exact AfterU.st O ⟨A10, h10, hS9⟩
 intro u2 w5 _ _ hu2 _
 obtain ⟨A10, h10, hS5⟩ := hu2 13 12 _ rfl (by kernel_rfl)
 rw [g1, g2] at hS5
 refine Qk_ext (F := [(2, .int .i64 kind), (3, .pointer A3), (4, .pointer A4), (6, .pointer A6), (8, .int .i64 (((N1 + 2 : Nat) : Int) - 1)), (9, .int .i64 (((N2 + 2 : Nat) : Int) - 1)), (10, .pointer A10)]) ⟨O, O, O, O, O, O, h10, trivial⟩ ?_
 clear hx3 hx4 hR3 hR4 hS4 hS3
 refine Gej 0 O ?_
 refine Cd.join (α := Unit) (fun _ => [(2, .int .i64 kind), (3, .pointer A3), (4, .pointer A4), (6, .pointer A6), (8, .int .i64 (((N1 + 2 : Nat) : Int) - 1)), (9, .int .i64 (((N2 + 2 : Nat) : Int) - 1)), (10, .pointer A10)]) (fun _ w' => St w w' (poB A10 k none 0 0 none 0 0 :: [poB A6 0 none 0 0 none 0 0, fcB A4 v4, fcB A3 v3])) ?_ ?_
 ·refine Gbc O ?_
  refine Cd.cond_p _ O (fun h1 => ?_) (fun h1 => ?_)
  ·refine Gao O (Ops.fld (hS5.rd 0 O) O O O O inferInstance (Ops.ldf_i (j := 0) (hS5.rd 0 O) (by exact congrArg Value.pointer O) O O O O (Ops.add O O O (by omega) (Ops.fld (hS5.rd 0 O) O O O O inferInstance (Ops.stf 0 (j := 0) hS5 O O O O O ?_)))))
   intro w6 hS6
   refine Gdn O (tQ ?_)
   exact ⟨(), ⟨O, O, O, O, O, O, O, trivial⟩, by rw [hkr, if_pos h1]; exact hS6⟩
  refine Gan O (tQ ?_)
  exact ⟨(), ⟨O, O, O, O, O, O, O, trivial⟩, by rw [hkr, if_neg h1, Int.add_zero]; exact hS5⟩
 clear hS5
 rintro _ e w6 hS6
 refine Gao O (Ops.fld (hS6.rd 0 O) O O O O inferInstance (Ops.ldf_i (j := 0) (hS6.rd 0 O) (by exact congrArg Value.pointer O) O O O O (Gdc O ?_)))
 refine Cd.cond_p _ O (fun h1 => ?_) (fun h1 => ?_)
 ·refine Gao O (Ops.bldP0 (by exact inferInstance) (by exact inferInstance) (by exact inferInstance) O (Ops.st_agg 3 1 hS6 O O O O O O O ?_))
  intro w7 hS7
  refine Gdr O (retc2_r O (hS7.rd 1 O) O ?_)
  exact .inl ⟨.inl (by omega), O, hS7.none⟩
 have hk5 : k ≤ 5 := by omega
 have hS7 := hS6.nilT 153
 have hR3 := hp3 3 hS6 O
 refine Gao O (Ops.fld hR3 O O O O inferInstance (Ops.ldf_s (j := 0) hR3 (by exact congrArg Value.pointer O) O O O O ?_))
 refine Ops.len O O (Gdc O ?_)
 refine Cd.loop (α := Nat × Option Addr × Nat) (fun z => [(2, .int .i64 kind), (3, .pointer A3), (4, .pointer A4), (6, .pointer A6), (8, .int .i64 (((N1 + 2 : Nat) : Int) - 1)), (9, .int .i64 (((N2 + 2 : Nat) : Int) - 1)), (10, .pointer A10), (11, .slice z.2.1 (alP (N1 + 2) (N2 + 2) kind z.1 0).length z.2.2), (56, .slice A8 (N1 + 2) c8), (57, .int .i64 ((N1 + 2 : Nat) : Int)), (58, .int .i64 (z.1 : Int))]) (fun z w' => z.1 ≤ N1 + 2 ∧ St w w' (pgK z.2.1 (alP (N1 + 2) (N2 + 2) kind z.1 0).length z.2.2 ((alP (N1 + 2) (N2 + 2) kind z.1 0).map (tvP (gi X1) (gi X2) kind)) A10 A6 A4 A3 k v4 v3)) (fun z => N1 + 2 - z.1) (0, none, 0) ⟨O, O, O, O, O, O, O, O, O, O, O, trivial⟩ ⟨Nat.zero_le _, hS7⟩ ?_
 clear hS7 hS6 hR3
 rintro ⟨a, Ap, cp⟩ e w7 ⟨ha, hS⟩
 dsimp only at ha hS ⊢
 refine Gbc O ?_
 refine Cd.cond_p _ O (fun h2 => ?_) (fun h2 => ?_)
 ·have haN : a < N1 + 2 := by omega
  have hx3 := (hF1.later hS.below).rk
  have hR4 := hp4 3 hS O
  have ga := hg1 (a : Int) (by omega)
  refine Gao O (Ops.idx hx3.2 O O O (by omega) (by omega) (Ops.ld_int hx3 O (by omega) O O (Gdo O (Ops.fld hR4 O O O O inferInstance (Ops.ldf_s (j := 0) hR4 (by exact congrArg Value.pointer O) O O O O ?_)))))
  refine Ops.len O O (Gdc O ?_)
  refine Cd.loop (α := Nat × Option Addr × Nat) (fun z => [(2, .int .i64 kind), (3, .pointer A3), (4, .pointer A4), (6, .pointer A6), (8, .int .i64 (((N1 + 2 : Nat) : Int) - 1)), (9, .int .i64 (((N2 + 2 : Nat) : Int) - 1)), (10, .pointer A10), (11, .slice z.2.1 (alP (N1 + 2) (N2 + 2) kind a z.1).length z.2.2), (56, .slice A8 (N1 + 2) c8), (57, .int .i64 ((N1 + 2 : Nat) : Int)), (58, .int .i64 (a : Int)), (12, .int .i64 (a : Int)), (13, .int .i64 (gi X1 (a : Int))), (64, .slice B8 (N2 + 2) d8), (65, .int .i64 ((N2 + 2 : Nat) : Int)), (66, .int .i64 (z.1 : Int))]) (fun z w' => z.1 ≤ N2 + 2 ∧ St w w' (pgK z.2.1 (alP (N1 + 2) (N2 + 2) kind a z.1).length z.2.2 ((alP (N1 + 2) (N2 + 2) kind a z.1).map (tvP (gi X1) (gi X2) kind)) A10 A6 A4 A3 k v4 v3)) (fun z => N2 + 2 - z.1) (0, Ap, cp) ⟨O, O, O, O, O, O, O, O, O, O, O, O, O, O, O, O, trivial⟩ ⟨Nat.zero_le _, hS⟩ ?_
  clear hS hx3 hR4
  rintro ⟨b, Ap, cp⟩ e w8 ⟨hb, hS⟩
  dsimp only at hb hS ⊢
  refine Gbc O ?_
  refine Cd.cond_p _ O (fun h3 => ?_) (fun h3 => ?_)
  ·have hbN : b < N2 + 2 := by omega
   have hx4 := (hF2.later hS.below).rk
   have gb := hg2 (b : Int) (by omega)
   have hal := alP_len (m1 := N1 + 2) (m2 := N2 + 2) (kind := kind) a b (by omega)
   have hsq : a * (N2 + 2) ≤ 502 * 502 := Nat.mul_le_mul (by omega) (by omega)
   refine Gao O (Ops.idx hx4.2 O O O (by omega) (by omega) (Ops.ld_int hx4 O (by omega) O O ?_))
   refine Gdo O (Ops.add O O O (by omega) (Ops.add O O O (by omega) ?_))
   refine Ops.bldT (v := ⟨(a : Int), (b : Int), gi X1 (a : Int) + gi X2 (b : Int) + 1⟩) (by exact inferInstance) (by exact inferInstance) (by exact inferInstance) O O O O O O O (Ops.newP hS O ?_)
   intro A16 w9 hS9
   refine Ops.st_agg 3 0 hS9 O O O O O O O ?_
   intro w10 hS10
   have hS10 : St w w10 (Bx 153 3 A16 [.int .i64 (a : Int), .int .i64 (b : Int), .int .i64 (gi X1 (a : Int) + gi X2 (b : Int) + 1)] :: pgK Ap (alP (N1 + 2) (N2 + 2) kind a b).length cp ((alP (N1 + 2) (N2 + 2) kind a b).map (tvP (gi X1) (gi X2) kind)) A10 A6 A4 A3 k v4 v3) := hS10
   refine Gdj 0 O ?_
   refine Cd.join (α := Unit) (fun _ => [(2, .int .i64 kind), (3, .pointer A3), (4, .pointer A4), (6, .pointer A6), (8, .int .i64 (((N1 + 2 : Nat) : Int) - 1)), (9, .int .i64 (((N2 + 2 : Nat) : Int) - 1)), (10, .pointer A10), (11, .slice Ap (alP (N1 + 2) (N2 + 2) kind a b).length cp), (56, .slice A8 (N1 + 2) c8), (57, .int .i64 ((N1 + 2 : Nat) : Int)), (58, .int .i64 (a : Int)), (12, .int .i64 (a : Int)), (13, .int .i64 (gi X1 (a : Int))), (64, .slice B8 (N2 + 2) d8), (65, .int .i64 ((N2 + 2 : Nat) : Int)), (66, .int .i64 (b : Int)), (14, .int .i64 (b : Int)), (16, .pointer A16), (17, .bool (decide ((a : Int) = 0 ∧ (b : Int) = 0))), (18, .bool (decide ((a : Int) = ((N1 + 2 : Nat) : Int) - 1 ∧ (b : Int) = ((N2 + 2 : Nat) : Int) - 1)))]) (fun _ w' => w' = w10) ?_ ?_
   ·refine Gbo O ?_
    refine Ops.split_p 80 O (fun p1 => ?_) (fun p1 => ?_)
    ·refine Ops.g O O O (Gdo O (Ops.g O O O (Gdo O ?_)))
     refine Ops.split_p 87 O (fun p2 => ?_) (fun p2 => ?_)
     ·refine Ops.g O O O (Gdo O (Ops.g O O O (Gdo O (Ops.g O O O (Gdn O (tQ ?_))))))
      exact ⟨(), ⟨O, O, O, O, O, O, O, O, O, O, O, O, O, O, O, O, O, O, congrArg Value.bool (decide_eq_decide.2 ⟨fun h => ⟨p1, h⟩, fun h => h.2⟩), congrArg Value.bool (decide_eq_decide.2 ⟨fun h => ⟨p2, h⟩, fun h => h.2⟩), trivial⟩, O⟩
     refine Ops.k O O O O O (Ops.k O O O O O (Ops.k O O O O O (Gdn O (tQ ?_))))
     exact ⟨(), ⟨O, O, O, O, O, O, O, O, O, O, O, O, O, O, O, O, O, O, congrArg Value.bool (decide_eq_decide.2 ⟨fun h => ⟨p1, h⟩, fun h => h.2⟩), congrArg Value.bool (decide_eq_false fun h => p2 h.1).symm, trivial⟩, O⟩
    refine Ops.k O O O O O (Ops.k O O O O O (Gdo O ?_))
    refine Ops.split_p 87 O (fun p2 => ?_) (fun p2 => ?_)
    ·refine Ops.g O O O (Gdo O (Ops.g O O O (Gdo O (Ops.g O O O (Gdn O (tQ ?_))))))
     exact ⟨(), ⟨O, O, O, O, O, O, O, O, O, O, O, O, O, O, O, O, O, O, congrArg Value.bool (decide_eq_false fun h => p1 h.1).symm, congrArg Value.bool (decide_eq_decide.2 ⟨fun h => ⟨p2, h⟩, fun h => h.2⟩), trivial⟩, O⟩
    refine Ops.k O O O O O (Ops.k O O O O O (Ops.k O O O O O (Gdn O (tQ ?_))))
    exact ⟨(), ⟨O, O, O, O, O, O, O, O, O, O, O, O, O, O, O, O, O, O, congrArg Value.bool (decide_eq_false fun h => p1 h.1).symm, congrArg Value.bool (decide_eq_false fun h => p2 h.1).symm, trivial⟩, O⟩
   rintro _ e w11 rfl
   refine Cd.join (α := Unit) (fun _ => [(2, .int .i64 kind), (3, .pointer A3), (4, .pointer A4), (6, .pointer A6), (8, .int .i64 (((N1 + 2 : Nat) : Int) - 1)), (9, .int .i64 (((N2 + 2 : Nat) : Int) - 1)), (10, .pointer A10), (11, .slice Ap (alP (N1 + 2) (N2 + 2) kind a b).length cp), (56, .slice A8 (N1 + 2) c8), (57, .int .i64 ((N1 + 2 : Nat) : Int)), (58, .int .i64 (a : Int)), (12, .int .i64 (a : Int)), (13, .int .i64 (gi X1 (a : Int))), (64, .slice B8 (N2 + 2) d8), (65, .int .i64 ((N2 + 2 : Nat) : Int)), (66, .int .i64 (b : Int)), (14, .int .i64 (b : Int)), (16, .pointer A16), (17, .bool (decide ((a : Int) = 0 ∧ (b : Int) = 0))), (18, .bool (decide ((a : Int) = ((N1 + 2 : Nat) : Int) - 1 ∧ (b : Int) = ((N2 + 2 : Nat) : Int) - 1))), (19, .bool (decide (((a : Int) = 0 ∧ (b : Int) = 0) ∨ ((a : Int) = ((N1 + 2 : Nat) : Int) - 1 ∧ (b : Int) = ((N2 + 2 : Nat) : Int) - 1))))]) (fun _ w' => w' = w11) ?_ ?_
   ·refine Gbo O ?_
    refine Ops.split_p 93 O (fun p1 => ?_) (fun p1 => ?_)
    ·refine Ops.k O O O O O (Gdn O (tQ ?_))
     exact ⟨(), ⟨O, O, O, O, O, O, O, O, O, O, O, O, O, O, O, O, O, O, O, O, congrArg Value.bool (decide_eq_true (.inl p1)).symm, trivial⟩, O⟩
    refine Ops.g O O O (Gdn O (tQ ?_))
    exact ⟨(), ⟨O, O, O, O, O, O, O, O, O, O, O, O, O, O, O, O, O, O, O, O, congrArg Value.bool (decide_eq_decide.2 ⟨fun h => .inr h, fun h => h.resolve_left p1⟩), trivial⟩, O⟩
   rintro _ e w12 rfl
   have hLf1 : kind = 1 → (LftP (N1 + 2) (N2 + 2) kind (a : Int) (b : Int) ↔ ((a : Int) = 0 ∨ (b : Int) = 0 ∨ ((a : Int) = ((N1 + 2 : Nat) : Int) - 1 ∧ (b : Int) = ((N2 + 2 : Nat) : Int) - 1))) := fun h => by unfold LftP; rw [if_pos h]
   have hLf2 : kind = 2 → (LftP (N1 + 2) (N2 + 2) kind (a : Int) (b : Int) ↔ ((a : Int) = ((N1 + 2 : Nat) : Int) - 1 ∨ (b : Int) = ((N2 + 2 : Nat) : Int) - 1 ∨ ((a : Int) = 0 ∧ (b : Int) = 0))) := fun h => by unfold LftP; rw [if_neg (by omega), if_pos h]
   have hLf0 : ¬ kind = 1 → ¬ kind = 2 → (LftP (N1 + 2) (N2 + 2) kind (a : Int) (b : Int) ↔ (((a : Int) = 0 ∧ (b : Int) = 0) ∨ ((a : Int) = ((N1 + 2 : Nat) : Int) - 1 ∧ (b : Int) = ((N2 + 2 : Nat) : Int) - 1))) := fun h h' => by unfold LftP; rw [if_neg h, if_neg h']
   have erk1 : kind = 1 → rkP (gi X1) (gi X2) kind ((a : Int), (b : Int)) = gi X1 (a : Int) + gi X2 (b : Int) + 1 - 1 := fun h => by unfold rkP shP; rw [if_pos h]; show gi X1 (a : Int) + gi X2 (b : Int) + 0 = _; omega
   have erk2 : ¬ kind = 1 → rkP (gi X1) (gi X2) kind ((a : Int), (b : Int)) = gi X1 (a : Int) + gi X2 (b : Int) + 1 := fun h => by unfold rkP shP; rw [if_neg h]
   refine Cd.join (α := Unit) (fun _ => [(2, .int .i64 kind), (3, .pointer A3), (4, .pointer A4), (6, .pointer A6), (8, .int .i64 (((N1 + 2 : Nat) : Int) - 1)), (9, .int .i64 (((N2 + 2 : Nat) : Int) - 1)), (10, .pointer A10), (11, .slice Ap (alP (N1 + 2) (N2 + 2) kind a b).length cp), (56, .slice A8 (N1 + 2) c8), (57, .int .i64 ((N1 + 2 : Nat) : Int)), (58, .int .i64 (a : Int)), (12, .int .i64 (a : Int)), (13, .int .i64 (gi X1 (a : Int))), (64, .slice B8 (N2 + 2) d8), (65, .int .i64 ((N2 + 2 : Nat) : Int)), (66, .int .i64 (b : Int)), (14, .int .i64 (b : Int)), (16, .pointer A16), (19, .bool (decide (LftP (N1 + 2) (N2 + 2) kind (a : Int) (b : Int))))]) (fun _ w' => St w w' (Bx 153 3 A16 [.int .i64 (a : Int), .int .i64 (b : Int), .int .i64 (rkP (gi X1) (gi X2) kind ((a : Int), (b : Int)))] :: pgK Ap (alP (N1 + 2) (N2 + 2) kind a b).length cp ((alP (N1 + 2) (N2 + 2) kind a b).map (tvP (gi X1) (gi X2) kind)) A10 A6 A4 A3 k v4 v3)) ?_ ?_
   ·refine Gbc O ?_
    refine Cd.cond_p _ O (fun k1 => ?_) (fun k1 => ?_)
    ·refine Gao O ?_
     refine Ops.split_p 101 O (fun p1 => ?_) (fun p1 => ?_)
     ·refine Ops.k O O O O O (Ops.k O O O O O (Gdo O (Ops.k O O O O O (Gdo O ?_))))
      refine Ops.fld (hS10.rd 0 O) O O O O inferInstance (Ops.ldf_i (j := 2) (hS10.rd 0 O) (by exact congrArg Value.pointer O) O O O O (Ops.sub O O O (by omega) (Ops.fld (hS10.rd 0 O) O O O O inferInstance (Ops.stf 0 (j := 2) hS10 O O O O O ?_))))
      intro w13 hS13
      refine Gdn O (tQ ?_)
      exact ⟨(), ⟨O, O, O, O, O, O, O, O, O, O, O, O, O, O, O, O, O, O, congrArg Value.bool ((decide_eq_true ((hLf1 k1).2 (.inl p1))).symm), trivial⟩, by rw [erk1 k1]; exact hS13⟩
     refine Ops.g O O O (Gdo O (Ops.g O O O (Gdo O ?_)))
     refine Ops.split_p 105 O (fun p2 => ?_) (fun p2 => ?_)
     ·refine Ops.k O O O O O (Gdo O ?_)
      refine Ops.fld (hS10.rd 0 O) O O O O inferInstance (Ops.ldf_i (j := 2) (hS10.rd 0 O) (by exact congrArg Value.pointer O) O O O O (Ops.sub O O O (by omega) (Ops.fld (hS10.rd 0 O) O O O O inferInstance (Ops.stf 0 (j := 2) hS10 O O O O O ?_))))
      intro w13 hS13
      refine Gdn O (tQ ?_)
      exact ⟨(), ⟨O, O, O, O, O, O, O, O, O, O, O, O, O, O, O, O, O, O, congrArg Value.bool ((decide_eq_true ((hLf1 k1).2 (.inr (.inl p2)))).symm), trivial⟩, by rw [erk1 k1]; exact hS13⟩
     refine Ops.g O O O (Gdo O ?_)
     refine Ops.fld (hS10.rd 0 O) O O O O inferInstance (Ops.ldf_i (j := 2) (hS10.rd 0 O) (by exact congrArg Value.pointer O) O O O O (Ops.sub O O O (by omega) (Ops.fld (hS10.rd 0 O) O O O O inferInstance (Ops.stf 0 (j := 2) hS10 O O O O O ?_))))
     intro w13 hS13
     refine Gdn O (tQ ?_)
     exact ⟨(), ⟨O, O, O, O, O, O, O, O, O, O, O, O, O, O, O, O, O, O, congrArg Value.bool (decide_eq_decide.2 ⟨fun h => (hLf1 k1).2 (.inr (.inr h)), fun h => (((hLf1 k1).1 h).resolve_left p1).resolve_left p2⟩), trivial⟩, by rw [erk1 k1]; exact hS13⟩
    refine Gac O ?_
    refine Cd.cond_p _ O (fun k2 => ?_) (fun k2 => ?_)
    ·refine Gao O ?_
     refine Ops.split_p 117 O (fun p1 => ?_) (fun p1 => ?_)
     ·refine Ops.k O O O O O (Ops.k O O O O O (Ops.k O O O O O (Gdo O (Ops.k O O O O O (Gdn O (tQ ?_))))))
      exact ⟨(), ⟨O, O, O, O, O, O, O, O, O, O, O, O, O, O, O, O, O, O, congrArg Value.bool (decide_eq_true ((hLf2 k2).2 (.inl p1))).symm, trivial⟩, by rw [erk2 k1]; exact hS10⟩
     refine Ops.g O O O (Gdo O (Ops.g O O O (Gdo O (Ops.g O O O (Gdo O ?_)))))
     refine Ops.split_p 122 O (fun p2 => ?_) (fun p2 => ?_)
     ·refine Ops.k O O O O O (Gdn O (tQ ?_))
      exact ⟨(), ⟨O, O, O, O, O, O, O, O, O, O, O, O, O, O, O, O, O, O, congrArg Value.bool (decide_eq_true ((hLf2 k2).2 (.inr (.inl p2)))).symm, trivial⟩, by rw [erk2 k1]; exact hS10⟩
     refine Ops.g O O O (Gdn O (tQ ?_))
     exact ⟨(), ⟨O, O, O, O, O, O, O, O, O, O, O, O, O, O, O, O, O, O, congrArg Value.bool (decide_eq_decide.2 ⟨fun h => (hLf2 k2).2 (.inr (.inr h)), fun h => (((hLf2 k2).1 h).resolve_left p1).resolve_left p2⟩), trivial⟩, by rw [erk2 k1]; exact hS10⟩
    refine Gan O (tQ ?_)
    exact ⟨(), ⟨O, O, O, O, O, O, O, O, O, O, O, O, O, O, O, O, O, O, congrArg Value.bool (decide_eq_decide.2 (hLf0 k1 k2).symm), trivial⟩, by rw [erk2 k1]; exact hS10⟩
   rintro _ e w13 hS13
   refine Gao O ?_
   first | refine Ops.not_p rfl rfl ?_ | refine Ops.not rfl rfl ?_
   refine Gdc O ?_
   refine Cd.cond_p _ O (fun h5 => ?_) (fun h5 => ?_)
   ·have hput := alP_put (m1 := N1 + 2) (m2 := N2 + 2) h5
    refine Gao O (Ops.ld_agg 2 (hS13.rd 0 O) O O O (Ops.bs1_T (v := tvP (gi X1) (gi X2) kind ((a : Int), (b : Int))) hS13 O O O ?_))
    intro A9 w14 hS14
    refine Ops.appT 2 hS14 O (hS14.rdT 0 O) O O O (by omega) (by omega) O ?_
    intro AZ cZ w15 hS15
    have hS15 := hS15.tail.tail
    refine Gdo O (Ops.add O O O (by omega) (Gdn O (tQ ?_)))
    refine ⟨(b + 1, AZ, cZ), by show N2 + 2 - (b + 1) < N2 + 2 - b; omega, ⟨O, O, O, O, O, O, O, ?_, O, O, O, O, O, O, O, O, trivial⟩, by show b + 1 ≤ N2 + 2; omega, ?_⟩
    ·show Value.slice _ _ _ = Value.slice _ _ _
     rw [hput, List.length_append]; rfl
    show St w w15 (pgK AZ (alP _ _ kind a (b + 1)).length cZ _ _ _ _ _ _ _ _)
    rw [hput, List.length_append, List.map_append]; exact hS15
   have hskip := alP_skip (m1 := N1 + 2) (m2 := N2 + 2) (Classical.not_not.1 h5)
   refine Gao O (Ops.add O O O (by omega) (Gdn O (tQ ?_)))
   refine ⟨(b + 1, Ap, cp), by show N2 + 2 - (b + 1) < N2 + 2 - b; omega, ⟨O, O, O, O, O, O, O, ?_, O, O, O, O, O, O, O, O, trivial⟩, by show b + 1 ≤ N2 + 2; omega, ?_⟩
   ·show Value.slice _ _ _ = Value.slice _ _ _
    rw [hskip]
   show St w w13 (pgK Ap (alP _ _ kind a (b + 1)).length cp _ _ _ _ _ _ _ _)
   rw [hskip]; exact hS13.tail
  have hbe : b = N2 + 2 := by omega
  subst hbe
  refine Gax O (thenQ_x (Gfo O (Ops.add O O O (by omega) (Gdn O (tQ ?_)))))
  refine ⟨(a + 1, Ap, cp), by show N1 + 2 - (a + 1) < N1 + 2 - a; omega, ⟨O, O, O, O, O, O, O, ?_, O, O, O, trivial⟩, by show a + 1 ≤ N1 + 2; omega, ?_⟩
  ·show Value.slice _ _ _ = Value.slice _ _ _
   rw [alP_row]
  show St w w8 (pgK Ap (alP _ _ kind (a + 1) 0).length cp _ _ _ _ _ _ _ _)
  rw [alP_row]; exact hS
 obtain rfl : a = N1 + 2 := by omega
 have hperm := alP_perm hL1 hL2 hk hkn (show N2 + 2 ≤ 1000 by omega)
 have hpl := hperm.length_eq
 have hall := alP_all (N1 + 2) (N2 + 2) kind (gi X1) (gi X2) (by omega) (by omega)
 have hsort := fun (ds : List TV) hp hs => sorted_prL hL1 hL2 hk hkn (show N1 + 2 ≤ 1000 by omega) (show N2 + 2 ≤ 1000 by omega) (ds := ds) hp hs
 have hall2 := hall.2
 rw [List.length_map] at hall2
 have hal := alP_len (m1 := N1 + 2) (m2 := N2 + 2) (kind := kind) (N1 + 2) 0 (by omega)
 have hsq : (N1 + 2) * (N2 + 2) ≤ 502 * 502 := Nat.mul_le_mul (by omega) (by omega)
 have hdl : ((alP (N1 + 2) (N2 + 2) kind (N1 + 2) 0).map (tvP (gi X1) (gi X2) kind)).length = (alP (N1 + 2) (N2 + 2) kind (N1 + 2) 0).length := List.length_map _
 have hel := fun (c : Int × Int) => (prL_mem (m1 := N1 + 2) (m2 := N2 + 2) (rk1 := gi X1) (rk2 := gi X2) (kind := kind) (k := k) (c := c))
 generalize alP (N1 + 2) (N2 + 2) kind (N1 + 2) 0 = PA at *
 generalize prL (N1 + 2) (N2 + 2) (gi X1) (gi X2) kind k = PL at *
 refine Gax O (thenQ_x (Gfo O (Ops.len O O (Gdc O ?_))))
 refine Cd.cond_p _ O (fun h3 => ?_) (fun h3 => ?_)
 ·refine Gao O (Ops.bldP0 (by exact inferInstance) (by exact inferInstance) (by exact inferInstance) O (Ops.st_agg 3 2 hS O O O O O O O ?_))
  intro w8 hS8
  refine Gdr O (retc2_r O (hS8.rd 2 O) O ?_)
  exact .inl ⟨.inr (by rw [List.length_map]; omega), O, hS8.none⟩
 have hP5 : PL.length ≤ 500 := by omega
 refine Gao O (Ops.call (TS.sortStable_c (by omega) hall.1 hall2 hS) O O O ?_)
 rintro _ w8 ⟨rfl, ds', hpm, hSR, hS8⟩
 have hdl' : ds'.length = PA.length := by rw [hpm.length_eq, hdl]
 obtain rfl := hsort ds' hpm (by rw [hdl']; exact hSR)
 clear hS
 rw [hpl] at hS8 ⊢
 obtain ⟨ds, hds⟩ : ∃ ds, PL.map (tvP (gi X1) (gi X2) kind) = ds := ⟨_, rfl⟩
 have hdsl : ds.length = PL.length := by rw [← hds, List.length_map]
 rw [hds] at hS8
 have htv := fun i (h : i < PL.length) => tg_map (tvP (gi X1) (gi X2) kind) PL h
 rw [hds] at htv
 have hin : ∀ i : Nat, i < PL.length → ((0 ≤ (gp PL (i : Int)).1 ∧ (gp PL (i : Int)).1 < (N1 : Int) + 2) ∧ (0 ≤ (gp PL (i : Int)).2 ∧ (gp PL (i : Int)).2 < (N2 : Int) + 2)) ∧ 0 ≤ rkP (gi X1) (gi X2) kind (gp PL (i : Int)) ∧ rkP (gi X1) (gi X2) kind (gp PL (i : Int)) ≤ 5 := fun i h => by
  have hm : gp PL (i : Int) ∈ PL := by rw [gp_mem h]; exact List.getElem_mem _
  obtain ⟨j, hj, hE⟩ := (hel _).1 hm
  have h9 := hE.2.2.1
  refine ⟨⟨⟨hE.1.1, ?_⟩, hE.2.1.1, ?_⟩, by omega, by omega⟩
  ·have := hE.1.2; omega
  have := hE.2.1.2; omega
 have hrl : ∀ i : Nat, i < PL.length → (PL.map (rkP (gi X1) (gi X2) kind)).take (i + 1) = (PL.map (rkP (gi X1) (gi X2) kind)).take i ++ [rkP (gi X1) (gi X2) kind (gp PL (i : Int))] := fun i h => by
  rw [take_snoc (by rw [List.length_map]; exact h)]
  congr 2
  rw [gi_mem (by rw [List.length_map]; exact h), List.getElem_map, gp_mem h]
 have hbt := fun i => prBt_next N1 N2 B1 B2 PL i
 have hbl := fun i => prBt_len N1 N2 B1 B2 PL i
 have hba := fun i (h : i ≤ PL.length) => beP_all N1 N2 B1 B2 PL h
 have hbn := fun i e => beP_next N1 N2 B1 B2 PL i e
 have hbe := fun i e => beP_len N1 N2 B1 B2 PL i e
 have hS9 : St w w8 (pdK none 0 0 ((PL.map (rkP (gi X1) (gi X2) kind)).take 0) A10 k none 0 Ap PL.length cp ds A6 A4 A3 v4 v3 [] (prBt N1 N2 B1 B2 PL 0)) := by
  have h9 := (hS8.nil 32).nil 2
  exact h9.perm (perm_i _ _ _ _ _ _ _)
 clear hS8 hSR hpm hdl' hsort hall hall2 hal hdl hperm h3
 refine Gdo O (Ops.len O O (Gdc O ?_))
 refine Cd.loop (α := Nat × (Option Addr × Nat) × (Option Addr × Nat) × List SlV) (fun z => [(3, .pointer A3), (4, .pointer A4), (6, .pointer A6), (10, .pointer A10), (11, .slice Ap PL.length cp), (139, .slice Ap PL.length cp), (140, .int .i64 (PL.length : Int)), (141, .int .i64 (z.1 : Int))]) (fun z w' => z.1 ≤ PL.length ∧ z.2.2.2.length = z.1 ∧ St w w' (pdK z.2.1.1 z.1 z.2.1.2 ((PL.map (rkP (gi X1) (gi X2) kind)).take z.1) A10 k z.2.2.1.1 z.2.2.1.2 Ap PL.length cp ds A6 A4 A3 v4 v3 z.2.2.2 (prBt N1 N2 B1 B2 PL z.1))) (fun z => PL.length - z.1) (0, (none, 0), (none, 0), []) ⟨O, O, O, O, O, O, O, O, trivial⟩ ⟨Nat.zero_le _, O, hS9⟩ ?_
 clear hS9
 rintro ⟨i, ⟨AR, cR⟩, ⟨AD, cD⟩, rsD⟩ e w9 ⟨hi, hrD, hS⟩
 dsimp only at hi hrD hS ⊢
 refine Gbc O ?_
 refine Cd.cond_p _ O (fun h3 => ?_) (fun h3 => ?_)
 ·have hiL : i < PL.length := by omega
  have hI := hin i hiL
  have hRT := hS.rdT 2 O
  refine Gao O (Ops.idxT hRT O O O (by omega) (by omega) (Ops.ld_tv hRT O (by omega) O ?_))
  rw [htv i hiL]
  refine Ops.newP hS O ?_
  intro A21 w10 hS10
  refine Gdo O (Ops.st_agg 3 0 hS10 O O O O O O O ?_)
  intro w11 hS11
  obtain ⟨ci, hci⟩ : ∃ ci, gp PL (i : Int) = ci := ⟨_, rfl⟩
  have hrli := hrl i hiL
  have hbai := hba i hi
  have hbni := hbn i
  have hbti := hbt i
  rw [hci] at hS11 hrli hI
  have hS11 : St w w11 (Bx 153 3 A21 [.int .i64 ci.1, .int .i64 ci.2, .int .i64 (rkP (gi X1) (gi X2) kind ci)] :: pdK AR i cR ((PL.map (rkP (gi X1) (gi X2) kind)).take i) A10 k AD cD Ap PL.length cp ds A6 A4 A3 v4 v3 rsD (prBt N1 N2 B1 B2 PL i)) := hS11
  clear hS10 hS hRT
  refine Gdo O (Ops.fld (hS11.rd 2 O) O O O O inferInstance (Ops.ldf_s (j := 1) (hS11.rd 2 O) (by exact congrArg Value.pointer O) O O O O (Ops.fld (hS11.rd 0 O) O O O O inferInstance (Ops.ldf_i (j := 2) (hS11.rd 0 O) (by exact congrArg Value.pointer O) O O O O (Ops.bs1I hS11 O O O ?_)))))
  intro A9 w12 hS12
  refine Ops.appI 2 hS12 O (hS12.rdI 0 O) O O O (by omega) (by omega) O ?_
  intro AQ cQ w13 hS13
  refine Ops.fld (hS13.rd 3 O) O O O O inferInstance (Ops.stf 3 (j := 1) hS13 O O O O O ?_)
  intro w14 hS14
  have hS14 := hS14.tail
  have hS14 : St w w14 (Bx 153 3 A21 [.int .i64 ci.1, .int .i64 ci.2, .int .i64 (rkP (gi X1) (gi X2) kind ci)] :: CkI 2 AQ (i + 1) cQ ((PL.map (rkP (gi X1) (gi X2) kind)).take (i + 1)) :: poB A10 k AQ (i + 1) cQ AD i cD :: CkT 153 Ap PL.length cp ds :: poB A6 0 none 0 0 none 0 0 :: fcB A4 v4 :: fcB A3 v3 :: (mat 32 2 AD i cD rsD (prBt N1 N2 B1 B2 PL i) ++ [])) := by rw [hrli]; exact hS14
  have hcapT := hS14.capT 3 O
  clear hS13 hS12 hS11
  refine Gdo O (Ops.cut_hT (h := (i : Int)) O O O (by omega) ?_)
  refine Ops.len O O (Gdc O ?_)
  rw [Int.toNat_natCast]
  have hS15 := hS14.nil 2
  refine Cd.loop (α := Nat × Option Addr × Nat) (fun z => [(3, .pointer A3), (4, .pointer A4), (6, .pointer A6), (10, .pointer A10), (11, .slice Ap PL.length cp), (139, .slice Ap PL.length cp), (140, .int .i64 (PL.length : Int)), (141, .int .i64 (i : Int)), (20, .int .i64 (i : Int)), (21, .pointer A21), (22, .slice z.2.1 (beP N1 N2 B1 B2 PL i z.1).length z.2.2), (155, .slice Ap i cp), (156, .int .i64 (i : Int)), (157, .int .i64 (z.1 : Int))]) (fun z w' => z.1 ≤ i ∧ St w w' (CkI 2 z.2.1 (beP N1 N2 B1 B2 PL i z.1).length z.2.2 (beP N1 N2 B1 B2 PL i z.1) :: Bx 153 3 A21 [.int .i64 ci.1, .int .i64 ci.2, .int .i64 (rkP (gi X1) (gi X2) kind ci)] :: CkI 2 AQ (i + 1) cQ ((PL.map (rkP (gi X1) (gi X2) kind)).take (i + 1)) :: poB A10 k AQ (i + 1) cQ AD i cD :: CkT 153 Ap PL.length cp ds :: poB A6 0 none 0 0 none 0 0 :: fcB A4 v4 :: fcB A3 v3 :: (mat 32 2 AD i cD rsD (prBt N1 N2 B1 B2 PL i) ++ []))) (fun z => i - z.1) (0, none, 0) ⟨O, O, O, O, O, O, O, O, O, O, O, O, O, O, trivial⟩ ⟨Nat.zero_le _, hS15⟩ ?_
  clear hS15 hS14
  rintro ⟨q, Ab, cb⟩ e w15 ⟨hq, hS⟩
  dsimp only at hq hS ⊢
  have hbq := hbe i q
  refine Gbc O ?_
  refine Cd.cond_p _ O (fun h4 => ?_) (fun h4 => ?_)
  ·have hqi : q < i := by omega
   have hJ := (hin q (by omega)).1
   have hRT := (hS.rdT 4 O).take (l := i) (by omega)
   have hbnq := hbni q
   have htq := htv q (by omega)
   rw [← tg_take ds hqi (by omega)] at htq
   obtain ⟨cq, hcq⟩ : ∃ cq, gp PL (q : Int) = cq := ⟨_, rfl⟩
   rw [hcq] at hJ htq hbnq
   rw [hci] at hbnq
   refine Gao O (Ops.idxT hRT O O O (by omega) (by omega) (Ops.ld_tv hRT O (by omega) O ?_))
   rw [htq]
   refine Ops.newP hS O ?_
   intro A24 w16 hS16
   refine Gdo O (Ops.st_agg 3 0 hS16 O O O O O O O ?_)
   intro w17 hS17
   have hS17 : St w w17 (Bx 153 3 A24 [.int .i64 cq.1, .int .i64 cq.2, .int .i64 (rkP (gi X1) (gi X2) kind cq)] :: CkI 2 Ab (beP N1 N2 B1 B2 PL i q).length cb (beP N1 N2 B1 B2 PL i q) :: Bx 153 3 A21 [.int .i64 ci.1, .int .i64 ci.2, .int .i64 (rkP (gi X1) (gi X2) kind ci)] :: CkI 2 AQ (i + 1) cQ ((PL.map (rkP (gi X1) (gi X2) kind)).take (i + 1)) :: poB A10 k AQ (i + 1) cQ AD i cD :: CkT 153 Ap PL.length cp ds :: poB A6 0 none 0 0 none 0 0 :: fcB A4 v4 :: fcB A3 v3 :: (mat 32 2 AD i cD rsD (prBt N1 N2 B1 B2 PL i) ++ [])) := hS17
   have hskip : ¬ (UndP N1 B1 cq.1 ci.1 ∧ UndP N2 B2 cq.2 ci.2) → beP N1 N2 B1 B2 PL i (q + 1) = beP N1 N2 B1 B2 PL i q := fun h => by rw [hbnq, if_neg h]
   clear hS16 hS
   refine Gdo O (Ops.fld (hS17.rd 0 O) O O O O inferInstance (Ops.ldf_i (j := 0) (hS17.rd 0 O) (by exact congrArg Value.pointer O) O O O O (Ops.fld (hS17.rd 2 O) O O O O inferInstance (Ops.ldf_i (j := 0) (hS17.rd 2 O) (by exact congrArg Value.pointer O) O O O O (Ops.call (isUnder_c A3 A8 c8 q1 AR0 r1 cR0 AD0 N1 cD0 X1 rs1 B1 cq.1 ci.1 _ (hp3 8 hS17 O) (hF1.later hS17.below) hJ.1 hI.1.1) O O O ?_)))))
   rintro _ w17 ⟨rfl, rfl⟩
   refine Gdo O ?_
   refine Ops.split_p 167 O (fun h5 => ?_) (fun h5 => ?_)
   ·refine Ops.g O O O (Ops.fld (hS17.rd 0 O) O O O O inferInstance (Ops.g O O O (Ops.ldf_i (j := 1) (hS17.rd 0 O) (by exact congrArg Value.pointer O) O O O O (Ops.g O O O (Ops.fld (hS17.rd 2 O) O O O O inferInstance (Ops.g O O O (Ops.ldf_i (j := 1) (hS17.rd 2 O) (by exact congrArg Value.pointer O) O O O O (Ops.g O O O (Ops.call (isUnder_c A4 B8 d8 q2 BR r2 dR BD N2 dD X2 rs2 B2 cq.2 ci.2 _ (hp4 7 hS17 O) (hF2.later hS17.below) hJ.2 hI.1.2) O O O ?_)))))))))
    rintro _ w17 ⟨rfl, rfl⟩
    refine Gdc O ?_
    refine Cd.cond_p _ O (fun h6 => ?_) (fun h6 => ?_)
    ·rw [if_pos ⟨h5, h6⟩] at hbnq
     refine Gao O (Ops.bs1I hS17 O O O ?_)
     intro A9 w18 hS18
     refine Ops.appI 2 hS18 O (hS18.rdI 0 O) O O O (by omega) (by omega) O ?_
     intro AZ cZ w19 hS19
     have hS19 := hS19.tail.tail
     refine Gdo O (Ops.add O O O (by omega) (Gdn O (tQ ?_)))
     refine ⟨(q + 1, AZ, cZ), by show i - (q + 1) < i - q; omega, ⟨O, O, O, O, O, O, O, O, O, O, ?_, O, O, O, trivial⟩, by show q + 1 ≤ i; omega, ?_⟩
     ·show Value.slice _ _ _ = Value.slice _ _ _
      rw [hbnq, List.length_append]; rfl
     show St w w19 (CkI _ AZ (beP N1 N2 B1 B2 PL i (q + 1)).length cZ _ :: _)
     rw [hbnq, List.length_append]; exact hS19
    have hsk := hskip (fun h => h6 h.2)
    refine Gao O (Ops.add O O O (by omega) (Gdn O (tQ ?_)))
    refine ⟨(q + 1, Ab, cb), by show i - (q + 1) < i - q; omega, ⟨O, O, O, O, O, O, O, O, O, O, ?_, O, O, O, trivial⟩, by show q + 1 ≤ i; omega, ?_⟩
    ·show Value.slice _ _ _ = Value.slice _ _ _
     rw [hsk]
    show St w w17 (CkI _ Ab (beP N1 N2 B1 B2 PL i (q + 1)).length cb _ :: _)
    rw [hsk]; exact hS17.tail
   have hsk := hskip (fun h => h5 h.1)
   refine Ops.k O O O O O (Ops.k O O O O O (Ops.k O O O O O (Ops.k O O O O O (Ops.k O O O O O (Gdc O ?_)))))
   refine Cd.cond_f O ?_
   refine Gao O (Ops.add O O O (by omega) (Gdn O (tQ ?_)))
   refine ⟨(q + 1, Ab, cb), by show i - (q + 1) < i - q; omega, ⟨O, O, O, O, O, O, O, O, O, O, ?_, O, O, O, trivial⟩, by show q + 1 ≤ i; omega, ?_⟩
   ·show Value.slice _ _ _ = Value.slice _ _ _
    rw [hsk]
   show St w w17 (CkI _ Ab (beP N1 N2 B1 B2 PL i (q + 1)).length cb _ :: _)
   rw [hsk]; exact hS17.tail
  obtain rfl : q = i := by omega
  rw [hbai] at hS ⊢
  refine Gax O (thenQ_x (Gfo O ?_))
  refine Ops.fld (hS.rd 3 O) O O O O inferInstance (Ops.ldf_s (j := 2) (hS.rd 3 O) (by exact congrArg Value.pointer O) O O O O (Gdo O (Ops.bs1R hS O O O ?_)))
  intro A9 w16 hS16
  refine Ops.appR 9 hS16 O (hS16.rdR 0 O) O O O (by omega) (by omega) O ?_
  intro AZ cZ w17 hS17
  refine Ops.fld (hS17.rd 4 O) O O O O inferInstance (Ops.stf 4 (j := 2) hS17 O O O O O ?_)
  intro w18 hS18
  have hS18 := hS18.tail
  have hS18 := (hS18.perm (perm_h _ _ _ _ _ _ _ _ _ _)).tail
  refine Gdo O (Ops.add O O O (by omega) (Gdn O (tQ ?_)))
  refine ⟨(q + 1, (AQ, cQ), (AZ, cZ), rsD ++ [⟨Ab, (prBe (UndP N1 B1) (UndP N2 B2) PL (q : Int)).length, cb⟩]), by show PL.length - (q + 1) < PL.length - q; omega, ⟨O, O, O, O, O, O, O, O, trivial⟩, by show q + 1 ≤ PL.length; omega, by show (rsD ++ [_]).length = q + 1; rw [List.length_append, hrD]; rfl, ?_⟩
  show St w w18 (pdK AQ (q + 1) cQ _ A10 k AZ cZ Ap PL.length cp ds A6 A4 A3 v4 v3 (rsD ++ [_]) (prBt N1 N2 B1 B2 PL (q + 1)))
  rw [hbti]
  unfold pdK mat
  rw [rowsCk_snoc (by rw [hrD, prBt_len])]
  exact hS18
 obtain rfl : i = PL.length := by omega
 refine Gax O (thenQ_x (Gfo O ?_))
 refine Ops.ld_agg 2 (hS.rd 1 O) O O O (Ops.st_agg 3 3 hS O O O O O O O ?_)
 intro w10 hS10
 refine Gdr O (retc2_r O (hS10.rd 3 O) O ?_)
 have hml : (PL.map (rkP (gi X1) (gi X2) kind)).length = PL.length := List.length_map _
 refine .inr ⟨⟨hk5, by omega⟩, AR, cR, AD, cD, rsD, by rw [hml]; rfl, by omega, by rw [hml]; exact prBt_len N1 N2 B1 B2 PL PL.length, ?_⟩
 rw [hml]
 have h9 := hS10.sub (show List.Sublist (CkI 2 AR PL.length cR ((PL.map (rkP (gi X1) (gi X2) kind)).take PL.length) :: (mat 32 2 AD PL.length cD rsD (prBt N1 N2 B1 B2 PL PL.length) ++ [])) _ from (((((List.Sublist.refl _).cons _).cons _).cons _).cons _).cons _ |>.cons_cons _)
 rw [List.take_of_length_le (by omega)] at h9
 exact h9
/-
 The product of two maniplexes' posets, walked in the program. Conditions: the library's table of powers of ten holds what the program's text lays there.
-/
def AnsPo (n : Int) (R : List Int) (B : List (List Int)) (K : Int) (w : World) (v : Value) (w' : World) : Prop :=
 ∃ AR c AD d rs, v = .tuple #[.agg #[.int .i64 n, .slice AR R.length c, .slice AD B.length d], .int .i64 K] ∧ rs.length = B.length ∧ St w w' (CkI 2 AR R.length c R :: (mat 32 2 AD B.length d rs B ++ []))
theorem AnsPo.zero {w w' : World} (h : St w w' []) (K : Int) : AnsPo 0 [] [] K w (.tuple #[.agg #[.int .i64 0, .slice none 0 0, .slice none 0 0], .int .i64 K]) w' :=
 ⟨none, 0, none, 0, [], rfl, rfl, (h.nil _).nil _⟩
noncomputable def prC (M K : List (List Int)) (kind : Int) : Int := if Mani M ∧ Mani K then (if 0 ≤ kind ∧ kind ≤ 2 then (if gdC M = 0 then gdC K else gdC M) else 2) else 1
abbrev rkM (M : List (List Int)) : Int → Int := gi (fcR M.length (fpR M M.length))
noncomputable abbrev unM (M : List (List Int)) : Int → Int → Prop := UndP (offP M M.length) (fpB M)
def pdN (M K : List (List Int)) (kind : Int) : Nat := (rnP M.length K.length kind).toNat
noncomputable def pdL (M K : List (List Int)) (kind : Int) : List (Int × Int) := prL (offP M M.length + 2) (offP K K.length + 2) (rkM M) (rkM K) kind (pdN M K kind)
noncomputable def pdR (M K : List (List Int)) (kind : Int) : List Int := (pdL M K kind).map (rkP (rkM M) (rkM K) kind)
noncomputable def pdB (M K : List (List Int)) (kind : Int) : List (List Int) := prB (unM M) (unM K) (pdL M K kind)
noncomputable def ppC (M K : List (List Int)) (kind : Int) : Int := if prC M K kind = 0 then (if 5 < pdN M K kind ∨ 500 < (pdR M K kind).length then 3 else 0) else prC M K kind
noncomputable def ppN (M K : List (List Int)) (kind : Int) : Int := if ppC M K kind = 0 then pdN M K kind else 0
noncomputable def ppR (M K : List (List Int)) (kind : Int) : List Int := if ppC M K kind = 0 then pdR M K kind else []
noncomputable def ppB (M K : List (List Int)) (kind : Int) : List (List Int) := if ppC M K kind = 0 then pdB M K kind else []
theorem ppAns_bad {M K : List (List Int)} {kind : Int} {w w' : World} {c : Int} (h : ppC M K kind = c) (hc : c ≠ 0) (hS : St w w' []) : AnsPo (ppN M K kind) (ppR M K kind) (ppB M K kind) (ppC M K kind) w (.tuple #[.agg #[.int .i64 0, .slice none 0 0, .slice none 0 0], .int .i64 c]) w' := by
 unfold ppN ppR ppB
 rw [h, if_neg hc, if_neg hc, if_neg hc]
 exact AnsPo.zero hS c
theorem prC_0 {M K : List (List Int)} {kind : Int} (h : prC M K kind = 0) : (0 ≤ kind ∧ kind ≤ 2) ∧ gdC M = 0 ∧ gdC K = 0 := by
 unfold prC at h
 split at h
 ·split at h
  ·split at h
   ·exact ⟨by assumption, by assumption, h⟩
   contradiction
  contradiction
 contradiction
theorem latM {M : List (List Int)} (hM : Mani M) (h : offP M M.length ≤ 500) : Lat (offP M M.length + 2) M.length (rkM M) (unM M) := by
 have := lat_of (posP_of hM h)
 rwa [fpR_len] at this
theorem pdN_rn {M K : List (List Int)} {kind : Int} (hM : Mani M) (hK : Mani K) : ((pdN M K kind : Nat) : Int) = rnP M.length K.length kind := by
 have := hM.1; have := hK.1
 unfold pdN rnP
 split <;> omega
set_option maxHeartbeats 1000000 in
theorem productCode_c (A D : Option Addr) (n c m d : Nat) (rs ts : List SlV) (M K : List (List Int)) (kind : Int) (w : World) (hT : Tab w) (hM : RowsI w A n rs M) (hK : RowsI w D m ts K) (hn : n ≤ c) (hc : c ≤ 9223372036854775807) (hm : m ≤ d) (hd : d ≤ 9223372036854775807) :
  Ret Tryz.prog 121 [.agg #[.slice A n c], .agg #[.slice D m d], .int .i64 kind] w (fun v w' => v = .int .i64 (prC M K kind) ∧ St w w' []) := by
 refine Ret.of_cd Tryz.func121 O Tryz.ntmps121 O (post1 O) (Gbo O (Ops.box1 (St.refl w) O O ?_))
 intro A3 w1 hS1
 refine Ops.box1 hS1 O O ?_
 intro A4 w2 hS2
 refine Gdo O (Ops.ld_agg 0 (hS2.rd 1 O) O O O (Ops.call (isManiplex_c A n c rs M _ (hS2.oldRows hM) hn hc) O O O ?_))
 rintro _ w3 ⟨rfl, hst⟩
 have hS3 := hS2.later hst.below
 clear hst hS2 hS1
 first | refine Ops.not_p rfl rfl ?_ | refine Ops.not rfl rfl ?_
 refine Gdo O ?_
 refine Ops.split_p 13 O (fun h1 => ?_) (fun h1 => ?_)
 ·refine Ops.k O O O O O (Ops.k O O O O O (Ops.k O O O O O (Gdc O ?_)))
  refine Cd.cond_t O (Gar O (ret1_i O ?_))
  unfold prC
  rw [if_neg (fun h => h1 h.1)]
  exact ⟨O, hS3.none⟩
 have h1 : Mani M := Classical.not_not.1 h1
 refine Ops.g O O O (Ops.ld_agg 0 (hS3.rd 0 O) O O O (Ops.g O O O (Ops.call (isManiplex_c D m d ts K _ (hS3.oldRows hK) hm hd) O O O ?_)))
 rintro _ w4 ⟨rfl, hst⟩
 have hS4 := hS3.later hst.below
 clear hst hS3
 refine Ops.g O O O ?_
 first | refine Ops.not_p rfl rfl ?_ | refine Ops.not rfl rfl ?_
 refine Gdc O ?_
 refine Cd.cond_p _ O (fun h2 => ?_) (fun h2 => ?_)
 ·refine Gar O (ret1_i O ?_)
  unfold prC
  rw [if_neg (fun h => h2 h.2)]
  exact ⟨O, hS4.none⟩
 have h2 : Mani K := Classical.not_not.1 h2
 refine Gao O (Ops.call (within_c _ _ _ _) O O O ?_)
 rintro _ w4 ⟨rfl, rfl⟩
 first | refine Ops.not_p rfl rfl ?_ | refine Ops.not rfl rfl ?_
 refine Gdc O ?_
 refine Cd.cond_p _ O (fun h3 => ?_) (fun h3 => ?_)
 ·refine Gar O (ret1_i O ?_)
  unfold prC
  rw [if_pos ⟨h1, h2⟩, if_neg h3]
  exact ⟨O, hS4.none⟩
 have h3 : 0 ≤ kind ∧ kind ≤ 2 := Classical.not_not.1 h3
 refine Gao O (Ops.ld_agg 0 (hS4.rd 1 O) O O O (Ops.call (facesOf_c A n c rs M _ (hT.later hS4.below) (hS4.oldRows hM) hn hc) O O O ?_))
 rintro _ w5 (⟨hg, rfl, hst⟩ | ⟨hg, A8, c8, AR, cR, AD, cD, rsD, rfl, hrD, hst⟩)
 ·have hS5 := hS4.later hst.below
  refine Gdo O (Ops.newQ hS5 O ?_)
  intro A7 w6 hS6
  refine Ops.st_agg 4 0 hS6 O O O O O O O ?_
  intro w7 hS7
  refine Gdc O ?_
  refine Cd.cond_pf O (fun h => hg h) ?_
  refine Gar O (ret1_i O ?_)
  unfold prC
  rw [if_pos ⟨h1, h2⟩, if_pos h3, if_neg hg]
  exact ⟨O, hS7.none⟩
 have hS5 := hS4.later hst.below
 refine Gdo O (Ops.newQ hS5 O ?_)
 intro A7 w6 hS6
 refine Ops.st_agg 4 0 hS6 O O O O O O O ?_
 intro w7 hS7
 refine Gdc O (Cd.cond_t O (Gao O (Ops.ld_agg 0 (hS7.rd 1 O) O O O (Ops.call (facesOf_c D m d ts K _ (hT.later hS7.below) (hS7.oldRows hK) hm hd) O O O ?_))))
 rintro _ w8 hA
 have hp : prC M K kind = gdC K := by
  unfold prC
  rw [if_pos ⟨h1, h2⟩, if_pos h3, if_pos hg]
 rw [hp]
 rcases hA with ⟨hg2, rfl, hst2⟩ | ⟨hg2, B8, e8, BR, eR, BD, eD, rsE, rfl, hrE, hst2⟩
 ·refine Gdr O (ret1_i O ?_)
  exact ⟨O, (hS7.later hst2.below).none⟩
 rw [hg2]
 refine Gdr O (ret1_i O ?_)
 exact ⟨O, (hS7.later hst2.below).none⟩
theorem fcR_of {M : List (List Int)} {w w' : World} {A8 : Option Addr} {c8 : Nat} {AR : Option Addr} {cR : Nat} {AD : Option Addr} {cD : Nat} {rs : List SlV} {ks : List Ck} (hM : Mani M) (hb : offP M M.length ≤ 500) (h : St w w' (CkI 2 A8 (offP M M.length + 2) c8 (fcR M.length (fpR M M.length)) :: CkI 2 AR (offP M M.length) cR (fpR M M.length) :: (mat 32 2 AD (offP M M.length) cD rs (fpB M) ++ ks))) :
  FcR w' A8 (fcR M.length (fpR M M.length)) (offP M M.length) AD rs (fpB M) := by
 have hP := posP_of hM hb
 have hl := fpR_len M M.length
 refine ⟨by rw [fcR_len, hl], hb, h.rdI 0 O, ?_, fpB_len M, fun e h0 h1 => ?_⟩
 ·exact (h.sub (show (mat 32 2 AD (offP M M.length) cD rs (fpB M)).Sublist _ from ((List.sublist_append_left _ _).cons _).cons _)).rowsI1 (fpB_len M)
 have h2 := hP.at_ (e := e) h0 (by rw [hl]; exact h1)
 refine ⟨h2.1, ?_⟩
 have := nodup_le_int (N := (fpR M M.length).length) h2.1.nodup fun x hx => by have := (h2.2.1 x hx).1; omega
 omega
set_option maxHeartbeats 1000000 in
theorem productPoset_c (A D : Option Addr) (n c m d : Nat) (rs ts : List SlV) (M K : List (List Int)) (kind : Int) (w : World) (hT : Tab w) (hM : RowsI w A n rs M) (hK : RowsI w D m ts K) (hn : n ≤ c) (hc : c ≤ 9223372036854775807) (hm : m ≤ d) (hd : d ≤ 9223372036854775807) :
  Ret Tryz.prog 106 [.agg #[.slice A n c], .agg #[.slice D m d], .int .i64 kind] w (AnsPo (ppN M K kind) (ppR M K kind) (ppB M K kind) (ppC M K kind) w) := by
 refine Ret.of_cd Tryz.func106 O Tryz.ntmps106 O (postc2 O O) (Gbo O (Ops.box1 (St.refl w) O O ?_))
 intro A3 w1 hS1
 refine Ops.box1 hS1 O O ?_
 intro A4 w2 hS2
 refine Ops.newP hS2 O ?_
 intro A6 w3 hS3
 refine Gdo O (Ops.ld_agg 0 (hS3.rd 2 O) O O O (Ops.ld_agg 0 (hS3.rd 1 O) O O O (Gdo O (Ops.call (productCode_c A D n c m d rs ts M K kind _ (hT.later hS3.below) (hS3.oldRows hM) (hS3.oldRows hK) hn hc hm hd) O O O ?_))))
 rintro _ w4 ⟨rfl, hst⟩
 have hS4 := hS3.later hst.below
 clear hst hS3 hS2 hS1
 refine Gdc O ?_
 refine Cd.cond_p _ O (fun h1 => ?_) (fun h1 => ?_)
 ·refine Gao O (Ops.bldP0 (by exact inferInstance) (by exact inferInstance) (by exact inferInstance) O (Gdo O (Ops.st_agg 3 0 hS4 O O O O O O O ?_)))
  intro w5 hS5
  refine Gdr O (retc2_r O (hS5.rd 0 O) O ?_)
  exact ppAns_bad (by unfold ppC; rw [if_neg h1]) h1 hS5.none
 have h1 : prC M K kind = 0 := Classical.not_not.1 h1
 obtain ⟨hkd, hgM, hgK⟩ := prC_0 h1
 obtain ⟨hMm, hMg⟩ := gdC_0 hgM
 obtain ⟨hKm, hKg⟩ := gdC_0 hgK
 refine Gao O (Ops.ld_agg 0 (hS4.rd 2 O) O O O (Ops.call (facesOf_c A n c rs M _ (hT.later hS4.below) (hS4.oldRows hM) hn hc) O O O ?_))
 rintro _ w5 (⟨hg, _⟩ | ⟨_, A8, c8, AR, cR, AD, cD, rsD, rfl, hrD, hst⟩)
 ·exact absurd hgM hg
 have hf1 := fcR_of hMm hMg.1 hst
 have hS5 := hS4.later hst.below
 clear hst hS4
 refine Gdo O (Ops.newQ (St.refl w5) O ?_)
 intro A9 w6 hT6
 refine Ops.st_agg 4 0 hT6 O O O O O O O ?_
 intro w7 hT7
 have hb4 := Rd.below (hS5.rd 1 O) hT7.below
 have hTb := (hT.later hS5.below).later hT7.below
 have hK7 := (hS5.oldRows hK).later hT7.below
 have hf1 := hf1.later hT7.below
 have hS7 := hS5.later hT7.below
 refine Gdo O (Ops.ld_agg 0 hb4 O O O (Ops.call (facesOf_c D m d ts K _ hTb hK7 hm hd) O O O ?_))
 rintro _ w8 (⟨hg, _⟩ | ⟨_, B8, e8, BR, eR, BD, eD, rsE, rfl, hrE, hst2⟩)
 ·exact absurd hgK hg
 have hf2 := fcR_of hKm hKg.1 hst2
 have hf1 := hf1.later hst2.below
 have hS8 := hS7.later hst2.below
 have h9 := Rd.below (hT7.rd 0 O) hst2.below
 refine Gdo O (Ops.newQ (St.refl w8) O ?_)
 intro A11 w9 hU9
 refine Ops.st_agg 4 0 hU9 O O O O O O O ?_
 intro w10 hU10
 have hf1 := hf1.later hU10.below
 have hf2 := hf2.later hU10.below
 have hS10 := hS8.later hU10.below
 have h9 := Rd.below h9 hU10.below
 refine Gdo O (Ops.ld_agg 3 h9 O O O (Ops.ld_agg 3 (hU10.rd 0 O) O O O (Gdo O ?_)))
 have h5 := hMm.1; have h6 := hKm.1
 refine Ops.call (product_c A8 B8 c8 e8 M.length K.length AR BR (offP M M.length) (offP K K.length) cR eR AD BD (offP M M.length) (offP K K.length) cD eD _ _ rsD rsE (fpB M) (fpB K) M.length K.length kind (pdN M K kind) _ hf1 hf2 (latM hMm hMg.1) (latM hKm hKg.1) hkd (pdN_rn hMm hKm) (by omega) (by omega)) O O O ?_
 rintro _ w11 (⟨hbad, rfl, hst3⟩ | ⟨hok, AQ, cQ, AE, cE, rsP, rfl, hrP, hbl, hst3⟩)
 ·have hS11 := hS10.later hst3.below
  refine Gdo O (Ops.st_agg 3 0 hS11 O O O O O O O ?_)
  intro w12 hS12
  refine Gdr O (retc2_r O (hS12.rd 0 O) O ?_)
  refine ppAns_bad ?_ (by decide) hS12.none
  unfold ppC
  rw [if_pos h1]
  exact if_pos hbad
 have hS11 := (hS10.call hst3).perm List.perm_append_comm
 refine Gdo O (Ops.st_agg 3 0 hS11 O O O O O O O ?_)
 intro w12 hS12
 refine Gdr O (retc2_r O (hS12.rd 0 O) O ?_)
 have hpc : ppC M K kind = 0 := by
  unfold ppC
  rw [if_pos h1, if_neg]
  intro h
  have h7 : (pdR M K kind).length ≤ 500 := hok.2
  omega
 have e9 : (pdB M K kind).length = (pdR M K kind).length := hbl
 unfold ppN ppR ppB
 rw [hpc, if_pos rfl, if_pos rfl, if_pos rfl]
 refine ⟨AQ, cQ, AE, cE, rsP, by rw [e9]; rfl, by rw [e9]; exact hrP, ?_⟩
 rw [e9]
 exact hS12.sub (show List.Sublist _ (_ :: _ :: _ :: _) from ((List.Sublist.refl _).cons _ |>.cons _ |>.cons _))
/-
 The reference's codes of products; what lies within what, walked.
-/
theorem l09Within_c (q : Int) (A8 : Option Addr) (m8 c8 : Nat) (Ab : Option Addr) (m cb : Nat) (rsb : List SlV) (BB : List (List Int)) (a b : Int) (w : World) (hB : RowsI w Ab m rsb BB) (hl : BB.length = m) (hb : 0 ≤ b ∧ b < (m : Int)) (hn : (gl BB b).length ≤ 1000000) :
  Ret Tryz.prog 167 [.agg #[.int .i64 q, .slice A8 m8 c8, .slice Ab m cb], .int .i64 a, .int .i64 b] w (fun v w' => v = .bool (decide (a = b ∨ a ∈ gl BB b)) ∧ St w w' []) := by
 refine Ret.of_cd Tryz.func167 O Tryz.ntmps167 O (post1 O) (Gbo O (Ops.box3T (St.refl w) O O ?_))
 intro A3 w1 hS1
 have h1 := hS1.rd 0 O
 have hB := hS1.oldRows hB
 have hro := hB.at_ (i := b) (by omega) (by omega)
 have hrn := hro.1
 refine Gdo O ?_
 refine Ops.split_p 10 O (fun h2 => ?_) (fun h2 => ?_)
 ·refine Ops.k O O O O O (Ops.k O O O O O (Ops.k O O O O O (Ops.k O O O O O (Ops.k O O O O O (Ops.k O O O O O (Ops.k O O O O O (Gdr O ?_)))))))
  refine ret1_b O ?_
  exact ⟨congrArg Value.bool (decide_eq_true (.inl h2)).symm, hS1.none⟩
 refine Ops.g O O O (Ops.fld h1 O O O O inferInstance (Ops.g O O O (Ops.ldf_s (j := 2) h1 (by exact congrArg Value.pointer O) O O O O ?_)))
 refine Ops.g O O O (Gdo O (Ops.g O O O ?_))
 refine Ops.idx hB.top.2 O O O (by omega) (by omega) (Ops.g O O O (Ops.ld_sl hB.top O (by omega) O O ?_))
 refine Ops.g O O O (Gdo O (Ops.g O O O ?_))
 refine Ops.call (l01Has_c _ _ _ (gl BB b) a _ hro (by omega)) O O O ?_
 rintro _ w2 ⟨rfl, rfl⟩
 refine Gdr O (ret1_b O ?_)
 exact ⟨congrArg Value.bool (decide_eq_decide.2 ⟨fun h => .inr h, fun h => h.resolve_left h2⟩), hS1.none⟩
/-
 All faces with what lies below them, as the reference builds them: plain parts.
-/
def alB (B : List (List Int)) (i : Nat) : List (List Int) := [] :: ((rngI i).map fun e => 0 :: (gl B e).map (· + 1))
def alBB (N : Nat) (B : List (List Int)) : List (List Int) := alB B N ++ [rngI (N + 1)]
theorem alB_len (B : List (List Int)) (i : Nat) : (alB B i).length = i + 1 := by simp [alB, rngI]
theorem alBB_len (N : Nat) (B : List (List Int)) : (alBB N B).length = N + 2 := by simp [alBB, alB_len]
theorem alB_next (B : List (List Int)) (i : Nat) : alB B (i + 1) = alB B i ++ [0 :: (gl B (i : Int)).map (· + 1)] := by
 unfold alB
 rw [rngI_snoc, List.map_append, List.cons_append]; rfl
theorem alBB_0 (N : Nat) (B : List (List Int)) : gl (alBB N B) 0 = [] := by simp [alBB, alB, gl]
theorem alBB_mid (N : Nat) (B : List (List Int)) {b : Int} (h0 : 0 < b) (h1 : b < (N : Int) + 1) : gl (alBB N B) b = 0 :: (gl B (b - 1)).map (· + 1) := by
 obtain ⟨k, rfl⟩ : ∃ k : Nat, b = ((k + 1 : Nat) : Int) := ⟨(b - 1).toNat, by omega⟩
 rw [gl_mem (by rw [alBB_len]; omega)]
 unfold alBB
 rw [List.getElem_append_left (by rw [alB_len]; omega)]
 have e1 : ((k + 1 : Nat) : Int) - 1 = (k : Int) := by omega
 rw [e1]
 simp [alB, rngI]
theorem alBB_top (N : Nat) (B : List (List Int)) : gl (alBB N B) ((N : Int) + 1) = rngI (N + 1) := by
 have e1 : ((N : Int) + 1) = ((N + 1 : Nat) : Int) := by omega
 rw [e1, gl_mem (by rw [alBB_len]; omega)]
 unfold alBB
 rw [List.getElem_append_right (by rw [alB_len]; omega)]
 simp [alB_len]
theorem alBB_und {N : Nat} {B : List (List Int)} {a b : Int} (ha : 0 ≤ a ∧ a < (N : Int) + 2) (hb : 0 ≤ b ∧ b < (N : Int) + 2) (hB : ∀ e : Int, 0 ≤ e → e < N → ∀ d ∈ gl B e, 0 ≤ d ∧ d < (N : Int)) : (a = b ∨ a ∈ gl (alBB N B) b) ↔ UndP N B a b := by
 unfold UndP
 by_cases c0 : b = 0
 ·subst c0
  rw [alBB_0]
  constructor
  ·rintro (h | h)
   ·exact .inl h
   cases h
  rintro (h | h | h | h)
  ·exact .inl h
  ·exact .inl h
  ·omega
  omega
 by_cases c1 : b = (N : Int) + 1
 ·subst c1
  rw [alBB_top, rngI_mem]
  constructor
  ·intro _; exact .inr (.inr (.inl rfl))
  intro _
  by_cases e : a = (N : Int) + 1
  ·exact .inl e
  exact .inr (by omega)
 rw [alBB_mid N B (by omega) (by omega), List.mem_cons, List.mem_map]
 constructor
 ·rintro (h | h | ⟨d, h, e⟩)
  ·exact .inl h
  ·exact .inr (.inl h)
  have := hB (b - 1) (by omega) (by omega) d h
  exact .inr (.inr (.inr ⟨by omega, by omega, by omega, by omega, by rw [← e, Int.add_sub_cancel]; exact h⟩))
 rintro (h | h | h | h)
 ·exact .inl h
 ·exact .inr (.inl h)
 ·exact absurd h c1
 exact .inr (.inr ⟨a - 1, h.2.2.2.2, by omega⟩)
theorem alBB_len_at {N : Nat} {B : List (List Int)} (hl : ∀ e : Int, 0 ≤ e → e < N → (gl B e).length ≤ 500) (hN : N ≤ 500) {b : Int} (hb : 0 ≤ b ∧ b < (N : Int) + 2) : (gl (alBB N B) b).length ≤ 501 := by
 by_cases c0 : b = 0
 ·subst c0; rw [alBB_0]; exact Nat.zero_le _
 by_cases c1 : b = (N : Int) + 1
 ·subst c1; rw [alBB_top, rngI, List.length_map, List.length_range]; omega
 rw [alBB_mid N B (by omega) (by omega), List.length_cons, List.length_map]
 have := hl (b - 1) (by omega) (by omega)
 omega
theorem l01UnitX_c (n : Nat) (w : World) (hn : n ≤ 1000000) :
  Ret Tryz.prog 168 [.int .i64 (n : Int)] w (fun v w' => ∃ A c, v = .slice A n c ∧ St w w' [CkI 2 A n c (rngI n)]) := by
 refine Ret.of_cd Tryz.func168 O Tryz.ntmps168 O (post1 O) (Gbo O (Ops.bs0 (St.refl w) O ?_))
 intro A1 w1 hS1
 refine Gdc O ?_
 refine Cd.loop (α := Nat × Option Addr × Nat) (fun s => [(0, .int .i64 (n : Int)), (3, .slice s.2.1 s.1 s.2.2), (4, .int .i64 (s.1 : Int))]) (fun s w' => s.1 ≤ n ∧ St w w' [CkI 2 s.2.1 s.1 s.2.2 (rngI s.1)]) (fun s => n - s.1) (0, A1, 0) ⟨O, O, O, trivial⟩ ⟨Nat.zero_le _, hS1⟩ ?_
 clear hS1
 rintro ⟨i, A2, c2⟩ e w2 ⟨hi, hS2⟩
 dsimp only at hS2 hi ⊢
 refine Gbc O ?_
 refine Cd.cond_p _ O (fun h1 => ?_) (fun h1 => ?_)
 ·refine Gao O (Ops.bs1I hS2 O O O ?_)
  intro A3 w3 hS3
  refine Ops.appI 1 hS3 O (hS3.rdI 0 O) O O O (by omega) (by omega) O ?_
  intro A4 c4 w4 hS4
  have hS4 := hS4.tail
  refine Gdo O (Ops.add O O O (by omega) (Gdn O (tQ ?_)))
  exact ⟨(i + 1, A4, c4), by show n - (i + 1) < n - i; omega, ⟨O, O, O, trivial⟩, by show i + 1 ≤ n; omega, by show St w w4 [CkI _ A4 (i + 1) c4 (rngI (i + 1))]; rw [rngI_snoc]; exact hS4⟩
 have hin : i = n := by omega
 subst hin
 refine Gax O (thenQ_x (Gfr O ?_))
 refine ret1_s O ?_
 exact ⟨A2, c2, O, hS2⟩
end Go.Proofs.YtopgfgdgfjddpaaGreatDoor.Vc
