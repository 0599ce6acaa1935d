/-
  The walk of the reference's lengths of a word. Conditions: as it states them.
-/
import Derived.Test.YtpdhjnacnmfbjaaC1
namespace Go.Proofs.Ytpdhjnacnmfbjaa.Vc
open Go.RowKit

theorem goC_fst_le {p : List Int} {x : Nat} {s : List Bool} {F : Nat} (hs : s.length = F) : (goC p (s.count false) x s).1.length ≤ F := by
  have h1 := goC_le (p := p) (s.count false) x s
  have h2 : s.count false ≤ s.length := List.count_le_length
  omega

theorem RdI.drop {w : World} {A : Option Addr} {n c l : Nat} {xs : List Int} (h : RdI w A n xs) (hl : l ≤ n) (hc : n ≤ c) : RdI w (cutAt A c l) (n - l) (xs.drop l) := by
  have := h.cut (l := l) (h := n) (c := c) hl (Nat.le_refl _) hc
  rwa [List.take_of_length_le (by rw [List.length_drop, h.1]; omega)] at this
theorem RdI.take {w : World} {A : Option Addr} {n l : Nat} {xs : List Int} (h : RdI w A n xs) (hl : l ≤ n) : RdI w A l (xs.take l) := by
  have := h.cut (l := 0) (h := l) (c := 0) (Nat.zero_le _) hl
  refine ⟨by rw [List.length_take, h.1]; omega, fun k hk => ?_⟩
  obtain ⟨q, h1, h2⟩ := h.2 k (by omega)
  exact ⟨q, h1, by rw [h2]; simp [List.getElem?_take, hk, List.getD_eq_getElem?_getD]⟩

theorem l18Lengths_c (A : Option Addr) (n c : Nat) (rs : List SlV) (xss : List (List Int)) (F : Nat) (Aw : Option Addr) (nw cw : Nat) (ws : List Int) (w : World) (hR : RowsI w A n rs xss) (hn : 0 < n ∧ n ≤ 1000) (hF : (gl xss 0).length = F) (hF4 : F ≤ 1000) (hs : Sys F xss) (hW : RdI w Aw nw ws) (hnw : nw ≤ 9223372036854775807) (hw : ∀ k : Nat, k < nw → 0 ≤ gi ws k ∧ gi ws k < n) :
    Ret Try.prog 62 [.agg #[.slice A n c], .slice Aw nw cw] w (fun v w' => ∃ A' c', v = .slice A' (lenAll (doesL xss F ws) F).length c' ∧ St w w' [CkI 2 A' (lenAll (doesL xss F ws) F).length c' (srt (lenAll (doesL xss F ws) F))]) := by
  have hl := hR.len
  have hwl := hW.1
  have hwm : ∀ i ∈ ws, 0 ≤ i ∧ i < xss.length := by
    have := mem_gi (l := ws) (a := 0) (b := (n : Int)) (fun j hj => hw j (by omega))
    rw [hl]; exact this
  have hdl : ∀ x : Nat, x < F → 0 ≤ gi (doesL xss F ws) x ∧ gi (doesL xss F ws) x < F := fun x hx => does_lt hs hwm hx
  have hrun : ∀ x : Nat, x < F → runW xss (x : Int) ws = gi (doesL xss F ws) x := fun x hx => (gi_does (by omega) (by omega)).symm
  have hLle := lenAll_le (doesL xss F ws) F
  have hFc : ∀ w', RowsI w' A n rs xss → Ret Try.prog 99 [.agg #[.slice A n c]] w' (fun v w'' => v = .int .i64 (F : Int) ∧ St w' w'' []) := fun w' h => by
    have := l02Flags_c A n c rs xss w' h hn.1
    rwa [hF] at this
  generalize hp : doesL xss F ws = p at *
  refine Ret.of_cd Try.func62 rfl Try.ntmps62 rfl (post1 rfl) ?_
  refine Cd.seq ?_
  refine Cd.region ?_
  -- stop: BOX 32 t0=app -> 2
  refine Ops.box1 (St.refl w) rfl rfl ?_
  intro Ab w1 hS1
  refine Ops.mv_sl rfl rfl rfl ?_
  refine Ops.nil ?_
  refine thenQ_n ?_
  refine Cd.seq ?_
  -- stop: draw
  refine Cd.draw [.pr (fun v w' => ∃ A1, v = .slice A1 0 0 ∧ St w w' [CkI 2 A1 0 0 [], Bx 32 1 Ab [.slice A n c]]), .ex (.agg #[.slice (A) (n) (c)]), .ex (.int .i64 ((F : Int))), .pr (fun v w' => ∃ A1, v = .slice A1 F F ∧ St w w' [CkB 4 A1 F F (List.replicate F false)]), .pr (fun v w' => ∃ A1, v = .slice A1 0 0 ∧ St w w' [CkI 2 A1 0 0 [], Bx 32 1 Ab [.slice A n c]]), .pr (fun v w' => ∃ A1, v = .slice A1 F F ∧ St w w' [CkB 4 A1 F F (List.replicate F false)])] (by kernel_rfl) (by kernel_rfl) rfl (List.forall_mem_cons.2 ⟨Yd.lasts_pr (fun v w w' h hb => by obtain ⟨A1, hv, hT⟩ := h; exact ⟨A1, hv, hT.later hb⟩), (List.forall_mem_cons.2 ⟨Yd.lasts_ex _, (List.forall_mem_cons.2 ⟨Yd.lasts_ex _, (List.forall_mem_cons.2 ⟨Yd.lasts_pr (fun v w w' h hb => by obtain ⟨A1, hv, hT⟩ := h; exact ⟨A1, hv, hT.later hb⟩), (List.forall_mem_cons.2 ⟨Yd.lasts_pr (fun v w w' h hb => by obtain ⟨A1, hv, hT⟩ := h; exact ⟨A1, hv, hT.later hb⟩), (List.forall_mem_cons.2 ⟨Yd.lasts_pr (fun v w w' h hb => by obtain ⟨A1, hv, hT⟩ := h; exact ⟨A1, hv, hT.later hb⟩), (fun _ h => by cases h)⟩)⟩)⟩)⟩)⟩)⟩) ⟨?_, ?_, ?_, ?_, ?_, ?_, trivial⟩ ?_
  · intro e1 w1 hb hp hun
    refine Ops.bs0 (St.refl _) rfl ?_
    intro A1 w2 hst
    refine Ops.nil ?_
    exact After.dn hst.below ⟨A1, rfl, (hS1.later hb).call hst⟩
  · intro e1 w1 hb hp hun
    refine Ops.ld_agg 0 ((hS1.rd 0 rfl).below hb) rfl rfl rfl ?_
    refine Ops.nil ?_
    exact After.dn (Below.refl _ _) (by exact rfl)
  · intro e1 w1 hb hp hun
    refine Ops.call (hFc _ ((hS1.later hb).oldRows hR)) rfl rfl rfl ?_
    rintro _ w2 ⟨rfl, hst⟩
    refine Ops.nil ?_
    exact After.dn hst.below (by exact rfl)
  · intro e1 w1 hb hp hun
    refine Ops.mkB F (St.refl _) rfl rfl (by omega) ?_
    intro A1 w2 hst
    refine Ops.nil ?_
    exact After.dn hst.below ⟨A1, rfl, ((hS1.later hb).call hst).sub (List.Sublist.cons_cons _ (List.nil_sublist _))⟩
  · intro e1 w1 hb hp hun
    obtain ⟨A1, h12, hT⟩ := (hp 0 (by decide) rfl _ _ rfl rfl)
    refine Ops.mv_sl rfl (by exact h12) rfl ?_
    refine Ops.nil ?_
    exact After.dn (Below.refl _ _) ⟨A1, rfl, hT⟩
  · intro e1 w1 hb hp hun
    obtain ⟨A1, h15, hT⟩ := (hp 3 (by decide) rfl _ _ rfl rfl)
    refine Ops.mv_sl rfl (by exact h15) rfl ?_
    refine Ops.nil ?_
    exact After.dn (Below.refl _ _) ⟨A1, rfl, hT⟩
  intro u w2 hb2 hu
  obtain ⟨A5, h5, hT5⟩ := hu 4 _ rfl
  obtain ⟨A6, h6, hT6⟩ := hu 5 _ rfl
  have hS2 : St w w2 [CkI 2 A5 0 0 [], CkB 4 A6 F F (List.replicate F false), Bx 32 1 Ab [.slice A n c]] := (hT5.beside hT6 (by intro k' hk'; simp at hk'; rcases hk' with rfl | rfl <;> exact fun h => by cases h)).swap
  refine thenQ_n ?_
  refine Cd.seq ?_
  refine Cd.seq ?_
  refine Cd.region ?_
  refine Ops.mv_int rfl rfl rfl ?_
  refine Ops.nil ?_
  refine thenQ_n ?_
  refine Cd.block ?_
  -- stop: loop
  refine Cd.loop (α := Nat × Option Addr × Nat × List Int × List Bool) (fun z => [(1, .slice Aw nw cw), (2, .pointer Ab), (5, .slice z.2.1 z.2.2.2.1.length z.2.2.1), (6, .slice A6 F F), (7, .int .i64 (z.1 : Int))])
    (fun z w' => St w w' [CkI 2 z.2.1 z.2.2.2.1.length z.2.2.1 z.2.2.2.1, CkB 4 A6 F F z.2.2.2.2, Bx 32 1 Ab [.slice A n c]] ∧ z.1 ≤ F ∧ z.2.2.2.2.length = F ∧ Asc z.2.2.2.1 ∧ ∃ done : List Int, z.2.2.2.1.Perm done ∧ done ++ (cycs p (List.range' z.1 (F - z.1)) z.2.2.2.2).map (fun c => (c.length : Int)) = lenAll p F)
    (fun z => F - z.1) (0, A5, 0, [], List.replicate F false) ⟨rfl, rfl, by exact h5, by exact h6, rfl, trivial⟩ ⟨hS2, Nat.zero_le _, by simp, List.Pairwise.nil, [], List.Perm.refl _, by rw [List.nil_append, lenAll, cyAll_eq]⟩ ?_
  rintro ⟨i, Ao, co, out, s⟩ e w3 ⟨hS3, hi, hsl, hasc, done, hperm, hdone⟩
  dsimp only at hS3 hi hsl hasc hperm hdone ⊢
  have hol : out.length ≤ F := by
    have h1 := congrArg List.length hdone
    rw [List.length_append, ← hperm.length_eq] at h1
    omega
  refine Cd.seq ?_
  refine Cd.seq ?_
  refine Cd.region ?_
  refine Ops.mv_int rfl rfl rfl ?_
  -- stop: LOAD 32 t2 -> 17
  refine Ops.ld_agg 0 (hS3.rd 2 rfl) rfl rfl rfl ?_
  refine Ops.call (hFc _ (hS3.oldRows hR)) rfl rfl rfl ?_
  rintro _ w4 ⟨rfl, hst⟩
  have hS4 := hS3.later hst.below
  refine Ops.lss rfl rfl rfl ?_
  refine Ops.nil ?_
  refine thenQ_n ?_
  -- stop: cond
  refine Cd.cond_p _ rfl (fun h1 => ?_) (fun h1 => ?_)
  · have hi' : i < F := by omega
    rw [cycs_step hi'] at hdone
    have hgle := goC_fst_le (p := p) (x := i) hsl
    generalize hr : goC p (s.count false) i s = r at *
    refine Cd.skip ?_
    refine thenQ_n ?_
    refine Cd.seq ?_
    refine Cd.block ?_
    refine Cd.seq ?_
    refine Cd.region ?_
    refine Ops.mv_int rfl rfl rfl ?_
    refine Ops.nil ?_
    refine thenQ_n ?_
    -- stop: join
    refine Cd.join (α := Nat × List Bool) (fun z => [(1, .slice Aw nw cw), (2, .pointer Ab), (5, .slice Ao out.length co), (6, .slice A6 F F), (7, .int .i64 (i : Int)), (8, .int .i64 (r.1.length : Int))])
      (fun z w' => St w w' [CkI 2 Ao out.length co out, CkB 4 A6 F F r.2, Bx 32 1 Ab [.slice A n c]]) ?_ ?_
    · refine Cd.seq ?_
      refine Cd.region ?_
      refine Ops.mv_int rfl rfl rfl ?_
      refine Ops.mv_int rfl rfl rfl ?_
      refine Ops.nil ?_
      refine thenQ_n ?_
      refine Cd.block ?_
      -- stop: loop
      refine Cd.loop (α := Nat × Nat × List Bool) (fun z => [(1, .slice Aw nw cw), (2, .pointer Ab), (5, .slice Ao out.length co), (6, .slice A6 F F), (7, .int .i64 (i : Int)), (8, .int .i64 (z.2.1 : Int)), (9, .int .i64 (z.1 : Int))])
        (fun z w' => St w w' [CkI 2 Ao out.length co out, CkB 4 A6 F F z.2.2, Bx 32 1 Ab [.slice A n c]] ∧ z.1 < F ∧ z.2.2.length = F ∧ z.2.1 + (goC p (z.2.2.count false) z.1 z.2.2).1.length = r.1.length ∧ (goC p (z.2.2.count false) z.1 z.2.2).2 = r.2)
        (fun z => z.2.2.count false) (i, 0, s) ⟨rfl, rfl, rfl, rfl, rfl, rfl, rfl, trivial⟩ ⟨hS4, hi', hsl, by rw [hr]; exact Nat.zero_add _, by rw [hr]⟩ ?_
      rintro ⟨x, ln, s'⟩ e w5 ⟨hS5, hx, hsl', hlen, hend⟩
      dsimp only at hS5 hx hsl' hlen hend ⊢
      have hB5 := hS5.rdB 1 rfl
      refine Cd.seq ?_
      refine Cd.seq ?_
      refine Cd.region ?_
      refine Ops.mv_sl rfl rfl rfl ?_
      refine Ops.mv_int rfl rfl rfl ?_
      -- stop: INDEXADDR 86 t23 t24 -> 25
      refine Ops.idx hB5.2 rfl rfl rfl (by omega) (by omega) ?_
      refine Ops.ld_bool hB5 rfl (by omega) rfl rfl ?_
      first | refine Ops.not_p rfl rfl ?_ | refine Ops.not rfl rfl ?_
      refine Ops.nil ?_
      refine thenQ_n ?_
      -- stop: cond
      refine Cd.cond rfl (fun h2 => ?_) (fun h2 => ?_)
      · have hns : ¬ gb s' (x : Int) = true := by simpa using h2
        have hst' := goC_step (p := p) (s := s') (x := x) (by omega) hns
        have hcs := count_seen (s := s') (x := x) (by omega) hns
        have hlx := hdl x hx
        rw [hst'] at hlen hend
        dsimp only at hlen hend
        rw [List.length_cons] at hlen
        refine Cd.skip ?_
        refine thenQ_n ?_
        refine Cd.seq ?_
        refine Cd.block ?_
        refine Cd.seq ?_
        refine Cd.region ?_
        refine Ops.mv_sl rfl rfl rfl ?_
        refine Ops.mv_int rfl rfl rfl ?_
        -- stop: INDEXADDR 86 t32 t33 -> 34
        refine Ops.idx hB5.2 rfl rfl rfl (by omega) (by omega) ?_
        refine Ops.st_bool 1 hS5 rfl rfl rfl (by omega) ?_
        intro w6 hS6
        have hS6 : St w w6 [CkI 2 Ao out.length co out, CkB 4 A6 F F (s'.set x true), Bx 32 1 Ab [.slice A n c]] := hS6
        refine Ops.nil ?_
        refine thenQ_n ?_
        refine Cd.region ?_
        refine Ops.mv_int rfl rfl rfl ?_
        refine Ops.add rfl rfl rfl (by omega) ?_
        refine Ops.mv_int rfl rfl rfl ?_
        refine Ops.nil ?_
        refine blockQ_n ?_
        refine thenQ_n ?_
        refine Cd.region ?_
        -- stop: LOAD 32 t2 -> 28
        refine Ops.ld_agg 0 (hS6.rd 2 rfl) rfl rfl rfl ?_
        refine Ops.mv_int rfl rfl rfl ?_
        refine Ops.mv_sl rfl rfl rfl ?_
        -- stop: CALL spec.l02Run(t28, t29, t30) -> 31
        refine Ops.call (l02Run_c A n c rs xss F x Aw nw cw ws _ (hS6.oldRows hR) hs (hS6.oldI hW) hnw hw (by omega) (by omega)) rfl rfl rfl ?_
        rintro _ w7 ⟨rfl, hst⟩
        have hS7 := hS6.later hst.below
        refine Ops.mv_int rfl rfl rfl ?_
        refine Ops.nil ?_
        refine thenQ_n ?_
        -- stop: round
        refine ⟨((gi p x).toNat, ln + 1, s'.set x true), by show (s'.set x true).count false < s'.count false; omega, ⟨rfl, rfl, rfl, rfl, rfl, rfl, by show Value.int .i64 _ = .int .i64 _; rw [hrun x hx, Int.toNat_of_nonneg hlx.1], trivial⟩, hS7, by show (gi p x).toNat < F; omega, by show (s'.set x true).length = F; rw [List.length_set]; exact hsl', by show ln + 1 + (goC p ((s'.set x true).count false) (gi p x).toNat (s'.set x true)).1.length = _; omega, hend⟩
      · have hsn : gb s' (x : Int) = true := by simpa using h2
        rw [goC_seen hsn] at hlen hend
        dsimp only at hlen hend
        subst hend
        refine Cd.exit ?_
        refine thenQ_x ?_
        refine thenQ_x ?_
        refine blockQ_x ?_
        refine thenQ_n ?_
        -- stop: round
        exact ⟨(ln, r.2), ⟨rfl, rfl, rfl, rfl, rfl, by rw [← hlen]; rfl, trivial⟩, hS5⟩
    · rintro _ e w5 hS5
      refine Cd.seq ?_
      refine Cd.region ?_
      refine Ops.mv_int rfl rfl rfl ?_
      refine Ops.gtr rfl rfl rfl ?_
      refine Ops.nil ?_
      refine thenQ_n ?_
      -- stop: cond
      refine Cd.cond_p _ rfl (fun h3 => ?_) (fun h3 => ?_)
      · have hne : r.1 ≠ [] := by intro h; rw [h] at h3; simp at h3
        rw [if_neg hne] at hdone
        have hcap := (hS5.cap 0 rfl).1
        have hcap : out.length ≤ co := hcap
        refine Cd.seq ?_
        refine Cd.region ?_
        refine Ops.mv_int rfl rfl rfl ?_
        refine Ops.nil ?_
        refine thenQ_n ?_
        -- stop: join
        refine Cd.join (α := Nat) (fun a => [(1, .slice Aw nw cw), (2, .pointer Ab), (5, .slice Ao out.length co), (6, .slice A6 F F), (7, .int .i64 (i : Int)), (8, .int .i64 (r.1.length : Int)), (10, .int .i64 (a : Int))])
          (fun a w' => w' = w5 ∧ a ≤ out.length ∧ (∀ j : Nat, j < a → gi out (j : Int) < (r.1.length : Int)) ∧ (a < out.length → (r.1.length : Int) ≤ gi out (a : Int))) ?_ ?_
        · refine Cd.block ?_
          -- stop: loop
          refine Cd.loop (α := Nat) (fun a => [(1, .slice Aw nw cw), (2, .pointer Ab), (5, .slice Ao out.length co), (6, .slice A6 F F), (7, .int .i64 (i : Int)), (8, .int .i64 (r.1.length : Int)), (10, .int .i64 (a : Int))]) (fun a w' => w' = w5 ∧ a ≤ out.length ∧ ∀ j : Nat, j < a → gi out (j : Int) < (r.1.length : Int)) (fun a => out.length - a) 0 ⟨rfl, rfl, rfl, rfl, rfl, rfl, rfl, trivial⟩ ⟨rfl, Nat.zero_le _, fun j hj => by omega⟩ ?_
          rintro a e w6 ⟨rfl, ha, hlt⟩
          have hO := hS5.rdI 0 rfl
          refine Cd.seq ?_
          refine Cd.seq ?_
          refine Cd.region ?_
          refine Ops.mv_int rfl rfl rfl ?_
          refine Ops.mv_sl rfl rfl rfl ?_
          refine Ops.len rfl rfl ?_
          refine Ops.lss rfl rfl rfl ?_
          refine Ops.mv_bool rfl rfl rfl ?_
          -- stop: guard 43
          refine Ops.split_p 43 rfl (fun h4 => ?_) (fun h4 => ?_)
          · refine Ops.rung rfl rfl rfl ?_
            refine Ops.mv_sl rfl rfl rfl ?_
            refine Ops.rung rfl rfl rfl ?_
            refine Ops.mv_int rfl rfl rfl ?_
            refine Ops.rung rfl rfl rfl ?_
            -- stop: INDEXADDR 39 t44 t45 -> 46
            refine Ops.idx hO.2 rfl rfl rfl (by omega) (by omega) ?_
            refine Ops.rung rfl rfl rfl ?_
            -- stop: LOAD 2 t46 -> 47
            refine Ops.ld_int hO rfl (by omega) rfl rfl ?_
            refine Ops.rung rfl rfl rfl ?_
            refine Ops.mv_int rfl rfl rfl ?_
            refine Ops.rung rfl rfl rfl ?_
            refine Ops.lss rfl rfl rfl ?_
            refine Ops.pick_t rfl rfl rfl ?_
            refine Ops.nil ?_
            refine thenQ_n ?_
            -- stop: cond
            refine Cd.cond_p _ rfl (fun h5 => ?_) (fun h5 => ?_)
            · refine Cd.skip ?_
              refine thenQ_n ?_
              refine Cd.block ?_
              refine Cd.region ?_
              refine Ops.mv_int rfl rfl rfl ?_
              refine Ops.add rfl rfl rfl (by omega) ?_
              refine Ops.mv_int rfl rfl rfl ?_
              refine Ops.nil ?_
              refine blockQ_n ?_
              refine thenQ_n ?_
              -- stop: round
              refine ⟨a + 1, by show out.length - (a + 1) < out.length - a; omega, ⟨rfl, rfl, rfl, rfl, rfl, rfl, rfl, trivial⟩, rfl, by omega, fun j hj => ?_⟩
              by_cases ej : j = a
              · subst ej; exact h5
              · exact hlt j (by omega)
            · refine Cd.exit ?_
              refine thenQ_x ?_
              refine thenQ_x ?_
              refine blockQ_x ?_
              refine thenQ_n ?_
              -- stop: round
              exact ⟨a, ⟨rfl, rfl, rfl, rfl, rfl, rfl, rfl, trivial⟩, rfl, ha, hlt, fun _ => by omega⟩
          · refine Ops.skipg rfl rfl rfl rfl rfl ?_
            refine Ops.skipg rfl rfl rfl rfl rfl ?_
            refine Ops.skipg rfl rfl rfl rfl rfl ?_
            refine Ops.skipg rfl rfl rfl rfl rfl ?_
            refine Ops.skipg rfl rfl rfl rfl rfl ?_
            refine Ops.skipg rfl rfl rfl rfl rfl ?_
            refine Ops.pick_f rfl rfl rfl ?_
            refine Ops.nil ?_
            refine thenQ_n ?_
            -- stop: cond
            refine Cd.cond_f rfl ?_
            refine Cd.exit ?_
            refine thenQ_x ?_
            refine thenQ_x ?_
            refine blockQ_x ?_
            refine thenQ_n ?_
            -- stop: round
            exact ⟨a, ⟨rfl, rfl, rfl, rfl, rfl, rfl, rfl, trivial⟩, rfl, ha, hlt, fun h => absurd h (by omega)⟩
        · rintro a e w6 ⟨rfl, ha, hlt, hge⟩
          refine Cd.seq ?_
          refine Cd.region ?_
          refine Ops.mv_int rfl rfl rfl ?_
          -- stop: BUILDSLICE 39 1 [('pair', [0, ('app', 'Go.Operand.tmp', [53])])] -> 54
          refine Ops.bs1I hS5 rfl rfl rfl ?_
          intro A7 w7 hS7
          refine Ops.mv_sl rfl rfl rfl ?_
          refine Ops.mv_int rfl rfl rfl ?_
          -- stop: SLICE 39 t55 some t56 none none -> 57
          refine Ops.cut_l rfl rfl rfl (by omega) ?_
          refine Ops.appI 0 hS7 rfl ((hS7.rdI 1 rfl).drop (l := a) ha hcap) rfl rfl rfl (by omega) (by omega) rfl ?_
          intro A8 c8 w8 hS8
          refine Ops.mv_sl rfl rfl rfl ?_
          refine Ops.nil ?_
          refine thenQ_n ?_
          refine Cd.region ?_
          -- stop: BUILDSLICE 39 0 [] -> 59
          refine Ops.bs0 hS8 rfl ?_
          intro A9 w9 hS9
          have hS9 : St w w9 (CkI 2 A9 0 0 [] :: CkI 2 A8 (1 + (out.length - a)) c8 ([(r.1.length : Int)] ++ out.drop a) :: CkI 2 Ao out.length co out :: [CkB 4 A6 F F r.2, Bx 32 1 Ab [.slice A n c]]) := hS9
          refine Ops.mv_sl rfl rfl rfl ?_
          refine Ops.mv_int rfl rfl rfl ?_
          -- stop: SLICE 39 t60 none some t61 none -> 62
          refine Ops.cut_h rfl rfl rfl (by omega) ?_
          refine Ops.appI 0 hS9 rfl ((hS9.rdI 2 rfl).take (l := a) ha) rfl rfl rfl (by omega) (by omega) rfl ?_
          intro A10 c10 w10 hS10
          refine Ops.mv_sl rfl rfl rfl ?_
          -- stop: BUILTIN append(t63, t64) -> 65
          refine Ops.appI 0 hS10 rfl (hS10.rdI 1 rfl) rfl rfl rfl (by omega) (by omega) rfl ?_
          intro A11 c11 w11 hS11
          refine Ops.mv_sl rfl rfl rfl ?_
          refine Ops.nil ?_
          refine blockQ_n ?_
          refine thenQ_n ?_
          refine Cd.region ?_
          refine Ops.mv_int rfl rfl rfl ?_
          refine Ops.add rfl rfl rfl (by omega) ?_
          refine Ops.mv_int rfl rfl rfl ?_
          refine Ops.nil ?_
          refine thenQ_n ?_
          -- stop: round
          have hS11 : St w w11 (CkI 2 A11 (0 + a + (1 + (out.length - a))) c11 (([] ++ out.take a) ++ ([(r.1.length : Int)] ++ out.drop a)) :: CkI 2 A8 (1 + (out.length - a)) c8 ([(r.1.length : Int)] ++ out.drop a) :: CkI 2 Ao out.length co out :: [CkB 4 A6 F F r.2, Bx 32 1 Ab [.slice A n c]]) := hS11
          have hS12 := hS11.sub (List.Sublist.cons_cons _ ((List.sublist_cons_self _ _).trans (List.sublist_cons_self _ _)))
          rw [List.nil_append, List.singleton_append] at hS12
          have hlen' : (out.take a ++ ((r.1.length : Int) :: out.drop a)).length = 0 + a + (1 + (out.length - a)) := by simp; omega
          refine ⟨(i + 1, A11, c11, out.take a ++ ((r.1.length : Int) :: out.drop a), r.2), by show F - (i + 1) < F - i; omega, ⟨rfl, rfl, by show Value.slice _ _ _ = .slice _ _ _; rw [hlen'], rfl, rfl, trivial⟩, by rw [hlen']; exact hS12, hi', by show r.2.length = F; rw [← hr, goC_len]; exact hsl, asc_put hasc ha hlt hge, done ++ [(r.1.length : Int)], put_perm.trans (hperm.append_right _), ?_⟩
          rw [← hdone]
          simp
      · have hnil : r.1 = [] := List.eq_nil_of_length_eq_zero (by omega)
        rw [if_pos hnil, List.nil_append] at hdone
        refine Cd.skip ?_
        refine blockQ_n ?_
        refine thenQ_n ?_
        refine Cd.region ?_
        refine Ops.mv_int rfl rfl rfl ?_
        refine Ops.add rfl rfl rfl (by omega) ?_
        refine Ops.mv_int rfl rfl rfl ?_
        refine Ops.nil ?_
        refine thenQ_n ?_
        -- stop: round
        exact ⟨(i + 1, Ao, co, out, r.2), by show F - (i + 1) < F - i; omega, ⟨rfl, rfl, rfl, rfl, rfl, trivial⟩, hS5, hi', by show r.2.length = F; rw [← hr, goC_len]; exact hsl, hasc, done, hperm, hdone⟩
  · refine Cd.exit ?_
    refine thenQ_x ?_
    refine thenQ_x ?_
    refine blockQ_x ?_
    refine thenQ_n ?_
    refine Cd.seq ?_
    refine Cd.region ?_
    refine Ops.mv_sl rfl rfl rfl ?_
    refine Ops.mv_sl rfl rfl rfl ?_
    refine Ops.nil ?_
    refine thenQ_n ?_
    refine Cd.ret ?_
    refine ret1_s rfl ?_
    -- stop: end
    have hiF : i = F := by omega
    subst hiF
    rw [cycs_end, List.map_nil, List.append_nil] at hdone
    rw [hdone] at hperm
    have he := asc_srt hperm hasc
    rw [← he, ← hperm.length_eq]
    exact ⟨Ao, co, rfl, hS4.sub (List.Sublist.cons_cons _ (List.nil_sublist _))⟩
end Go.Proofs.Ytpdhjnacnmfbjaa.Vc
