/-
  The walks of the program's lengths of a word. Conditions: as each states them.
-/
import Derived.Test.YtpdhjnacnmfbjaaC3
namespace Go.Proofs.Ytpdhjnacnmfbjaa.Vc
open Go.RowKit

theorem runW_inj {F : Nat} {xss : List (List Int)} (hs : Sys F xss) (hi : Inj F xss) : ∀ (ws : List Int) (x y : Int), (∀ i ∈ ws, 0 ≤ i ∧ i < xss.length) → 0 ≤ x → x < F → 0 ≤ y → y < F → runW xss x ws = runW xss y ws → x = y
  | [], _, _, _, _, _, _, _, h => h
  | i :: ws, x, y, hw, h0, h1, h2, h3, h => by
    have hm := hw i (by simp)
    have gx := (hs _ (gl_in hm.1 hm.2)).2 x h0 h1
    have gy := (hs _ (gl_in hm.1 hm.2)).2 y h2 h3
    exact hi _ (gl_in hm.1 hm.2) x y h0 h1 h2 h3 (runW_inj hs hi ws _ _ (fun j hj => hw j (by simp [hj])) gx.1 gx.2 gy.1 gy.2 h)
theorem does_len (xss : List (List Int)) (F : Nat) (ws : List Int) : (doesL xss F ws).length = F := by simp [doesL]
theorem does_perm {F : Nat} {xss : List (List Int)} (hs : Sys F xss) (hi : Inj F xss) (hF : F ≤ 400) {ws : List Int} (hw : ∀ i ∈ ws, 0 ≤ i ∧ i < xss.length) : IsPerm (doesL xss F ws) := by
  refine ⟨by rw [does_len]; exact hF, fun x hx => ?_, ?_⟩
  · rw [does_len]
    obtain ⟨y, hy, rfl⟩ := List.mem_map.1 hx
    exact runW_lt hs ws _ hw (by omega) (by have := List.mem_range.1 hy; omega)
  · unfold doesL
    rw [List.Nodup, List.pairwise_map]
    refine (List.nodup_range (n := F)).imp_of_mem fun {a b} ha hb hab h => hab ?_
    have ha := List.mem_range.1 ha
    have hb := List.mem_range.1 hb
    have := runW_inj hs hi ws (a : Int) (b : Int) hw (by omega) (by omega) (by omega) (by omega) h
    omega
theorem does_nil (xss : List (List Int)) (F : Nat) : doesL xss F [] = idL F := rfl
theorem does_step {xss : List (List Int)} {F : Nat} {ws : List Int} {k : Nat} (hk : k < ws.length) : thenL (doesL xss F (ws.take k)) (gl xss (gi ws k)) = doesL xss F (ws.take (k + 1)) := by
  unfold thenL doesL
  rw [List.map_map]
  refine List.map_congr_left fun x _ => ?_
  rw [runW_take hk]; rfl

theorem does_c (Ab A : Option Addr) (n c : Nat) (rs : List SlV) (xss : List (List Int)) (F : Nat) (Aw : Option Addr) (nw cw : Nat) (ws : List Int) (w : World) (hB : Rd w Ab 1 (fun _ => .slice A n c)) (hR : RowsI w A n rs xss) (hn : 0 < n) (hF : (gl xss 0).length = F) (hF4 : F ≤ 1000000) (hs : Sys F xss) (hW : RdI w Aw nw ws) (hnw : nw ≤ 9223372036854775807) (hw : ∀ k : Nat, k < nw → 0 ≤ gi ws k ∧ gi ws k < n) :
    Ret Try.prog 66 [.pointer Ab, .slice Aw nw cw] w (fun v w' => ∃ A', v = .slice A' F F ∧ St w w' [CkI 2 A' F F (doesL xss F ws)]) := by
  have hl := hR.len
  have hwl := hW.1
  have hwm : ∀ i ∈ ws, 0 ≤ i ∧ i < xss.length := by
    have := mem_gi (l := ws) (a := 0) (b := (n : Int)) (fun j hj => hw j (by omega))
    rw [hl]; exact this
  have e0 : (rg rs 0).n = F := by rw [← hF]; exact (hR.rowLen (by omega) (by omega)).symm
  refine Ret.of_cd Try.func66 rfl Try.ntmps66 rfl (post1 rfl) ?_
  refine Cd.seq ?_
  refine Cd.region ?_
  refine Ops.mv_sl rfl rfl rfl ?_
  refine Ops.nil ?_
  refine thenQ_n ?_
  refine Cd.seq ?_
  refine Cd.region ?_
  refine Ops.mv_ptr rfl rfl rfl ?_
  -- stop: CALL impl.Maniplex).flags(t8) -> 9
  refine Ops.call (flags_c Ab A n c rs xss _ w hB rfl hR hn) rfl rfl rfl ?_
  rintro _ w ⟨rfl, rfl⟩
  rw [e0]
  refine Ops.call (identity_c F w (by omega)) rfl rfl rfl ?_
  rintro _ w1 ⟨A5, rfl, hS1⟩
  refine Ops.mv_sl rfl rfl rfl ?_
  refine Ops.nil ?_
  refine thenQ_n ?_
  refine Cd.seq ?_
  refine Cd.seq ?_
  refine Cd.region ?_
  refine Ops.mv_sl rfl rfl rfl ?_
  refine Ops.len rfl rfl ?_
  refine Ops.mv_int rfl rfl rfl ?_
  refine Ops.nil ?_
  refine thenQ_n ?_
  refine Cd.block ?_
  -- stop: loop
  refine Cd.loop (α := Nat × Option Addr) (fun z => [(0, .pointer Ab), (5, .slice z.2 F F), (11, .slice Aw nw cw), (12, .int .i64 (nw : Int)), (13, .int .i64 (z.1 : Int))]) (fun z w' => St w w' [CkI 2 z.2 F F (doesL xss F (ws.take z.1))] ∧ z.1 ≤ nw) (fun z => nw - z.1) (0, A5) ⟨rfl, rfl, rfl, rfl, rfl, trivial⟩ ⟨hS1, Nat.zero_le _⟩ ?_
  rintro ⟨k, A6⟩ e w2 ⟨hS2, hk⟩
  dsimp only at hS2 hk ⊢
  have hW2 := hS2.oldI hW
  have hR2 := hS2.oldRows hR
  have hB2 := hB.below hS2.below
  refine Cd.seq ?_
  refine Cd.region ?_
  refine Ops.lss rfl rfl rfl ?_
  refine Ops.nil ?_
  refine thenQ_n ?_
  refine Cd.seq ?_
  -- stop: cond
  refine Cd.cond_p _ rfl (fun h1 => ?_) (fun h1 => ?_)
  · have hwk := hw k (by omega)
    have hrow := hR2.at_ (i := gi ws k) hwk.1 hwk.2
    have hrn : (rg rs (gi ws k)).n = F := by
      rw [← hR2.rowLen hwk.1 hwk.2]
      exact (hs _ (gl_in hwk.1 (by omega))).1
    refine Cd.skip ?_
    refine thenQ_n ?_
    refine Cd.seq ?_
    refine Cd.block ?_
    refine Cd.seq ?_
    refine Cd.region ?_
    -- stop: INDEXADDR 39 t11 t13 -> 15
    refine Ops.idx hW2.2 rfl rfl rfl (by omega) (by omega) ?_
    refine Ops.ld_int hW2 rfl (by omega) rfl rfl ?_
    refine Ops.mv_int rfl rfl rfl ?_
    refine Ops.nil ?_
    refine thenQ_n ?_
    refine Cd.region ?_
    refine Ops.mv_sl rfl rfl rfl ?_
    refine Ops.mv_ptr rfl rfl rfl ?_
    -- stop: NILCHECK t18 -> 19
    refine Ops.nilp hB2 (by decide) rfl rfl ?_
    refine Ops.fld hB2 rfl rfl rfl rfl inferInstance ?_
    refine Ops.ldf_s hB2 rfl rfl rfl rfl rfl ?_
    refine Ops.mv_int rfl rfl rfl ?_
    -- stop: INDEXADDR 25 t21 t22 -> 23
    refine Ops.idx hR2.top.2 rfl rfl rfl (by omega) (by omega) ?_
    refine Ops.ld_sl hR2.top rfl (by omega) rfl rfl ?_
    refine Ops.call (then_c A6 F F _ _ _ (rg rs (gi ws k)).c _ _ (hS2.rdI 0 rfl) hrow (by omega) (fun x hx => by rw [hrn]; exact does_lt hs (fun i hi => hwm i (List.mem_of_mem_take hi)) hx)) rfl rfl rfl ?_
    rintro _ w3 ⟨A7, rfl, hst⟩
    have hS3 := hS2.call hst
    rw [does_step (by omega)] at hS3
    refine Ops.mv_sl rfl rfl rfl ?_
    refine Ops.nil ?_
    refine blockQ_n ?_
    refine thenQ_n ?_
    refine Cd.region ?_
    refine Ops.add rfl rfl rfl (by omega) ?_
    refine Ops.mv_int rfl rfl rfl ?_
    refine Ops.nil ?_
    refine thenQ_n ?_
    -- stop: round
    exact ⟨(k + 1, A7), by show nw - (k + 1) < nw - k; omega, ⟨rfl, rfl, rfl, rfl, rfl, trivial⟩, hS3.sub (List.Sublist.cons_cons _ (List.nil_sublist _)), by show k + 1 ≤ nw; omega⟩
  · refine Cd.exit ?_
    refine thenQ_x ?_
    refine thenQ_x ?_
    refine blockQ_x ?_
    refine thenQ_n ?_
    refine Cd.seq ?_
    refine Cd.region ?_
    refine Ops.mv_sl rfl rfl rfl ?_
    refine Ops.mv_sl rfl rfl rfl ?_
    refine Ops.nil ?_
    refine thenQ_n ?_
    refine Cd.ret ?_
    refine ret1_s rfl ?_
    -- stop: end
    have hkn : k = nw := by omega
    subst hkn
    rw [← hwl, List.take_length] at hS2
    exact ⟨A6, rfl, hS2⟩

theorem cyclesOf_c (A : Option Addr) (n c : Nat) (p : List Int) (w : World) (hP : RdI w A n p) (hn : n ≤ 1000) (hp : ∀ x : Nat, x < n → 0 ≤ gi p x ∧ gi p x < n) :
    Ret Try.prog 102 [.slice A n c] w (fun v w' => ∃ A' c' rs, v = .slice A' (cyAll p n).length c' ∧ rs.length = (cyAll p n).length ∧ St w w' (mat 39 2 A' (cyAll p n).length c' rs (cyAll p n) ++ [])) := by
  have hpl := hP.1
  have hcl := cyAll_le p n
  refine Ret.of_cd Try.func102 rfl Try.ntmps102 rfl (post1 rfl) ?_
  refine Cd.seq ?_
  refine Cd.region ?_
  refine Ops.mv_sl rfl rfl rfl ?_
  refine Ops.nil ?_
  refine thenQ_n ?_
  refine Cd.seq ?_
  refine Cd.region ?_
  refine Ops.mv_sl rfl rfl rfl ?_
  refine Ops.nil ?_
  refine thenQ_n ?_
  refine Cd.seq ?_
  refine Cd.region ?_
  refine Ops.mv_sl rfl rfl rfl ?_
  refine Ops.len rfl rfl ?_
  -- stop: MAKESLICE 86 t9 t9 -> 10
  refine Ops.mkB n (St.refl w) rfl rfl (by omega) ?_
  intro A4 w1 hS1
  refine Ops.mv_sl rfl rfl rfl ?_
  refine Ops.nil ?_
  refine thenQ_n ?_
  refine Cd.seq ?_
  refine Cd.seq ?_
  refine Cd.region ?_
  refine Ops.mv_sl rfl rfl rfl ?_
  -- stop: CALL impl.size[int64](t11) -> 12
  refine Ops.call (sizeI_c _ _ _ _) rfl rfl rfl ?_
  rintro _ w1 ⟨rfl, rfl⟩
  refine Ops.mv_int rfl rfl rfl ?_
  refine Ops.nil ?_
  refine thenQ_n ?_
  refine Cd.block ?_
  -- stop: loop
  have hS0 : St w w1 (CkB 4 A4 n n (List.replicate n false) :: mat 39 2 none 0 0 [] []) := (hS1.nil 39).swap
  refine Cd.loop (α := Nat × Option Addr × Nat × List SlV × List (List Int) × List Bool) (fun z => [(0, .slice A n c), (3, .slice z.2.1 z.2.2.2.2.1.length z.2.2.1), (4, .slice A4 n n), (12, .int .i64 (n : Int)), (13, .int .i64 (z.1 : Int))])
    (fun z w' => St w w' (CkB 4 A4 n n z.2.2.2.2.2 :: mat 39 2 z.2.1 z.2.2.2.2.1.length z.2.2.1 z.2.2.2.1 z.2.2.2.2.1) ∧ z.1 ≤ n ∧ z.2.2.2.2.2.length = n ∧ z.2.2.2.1.length = z.2.2.2.2.1.length ∧ z.2.2.2.2.1 ++ cycs p (List.range' z.1 (n - z.1)) z.2.2.2.2.2 = cyAll p n)
    (fun z => n - z.1) (0, none, 0, [], [], List.replicate n false) ⟨rfl, rfl, rfl, rfl, rfl, trivial⟩ ⟨hS0, Nat.zero_le _, by simp, rfl, by rw [List.nil_append, cyAll_eq]⟩ ?_
  rintro ⟨i, A3, c3, rs, done, s⟩ e w2 ⟨hS2, hi, hsl, hrl, hdone⟩
  dsimp only at hS2 hi hsl hrl hdone ⊢
  have hdl : done.length ≤ n := by
    have h1 := congrArg List.length hdone
    rw [List.length_append] at h1
    omega
  refine Cd.seq ?_
  refine Cd.region ?_
  refine Ops.lss rfl rfl rfl ?_
  refine Ops.nil ?_
  refine thenQ_n ?_
  refine Cd.seq ?_
  -- stop: cond
  refine Cd.cond_p _ rfl (fun h1 => ?_) (fun h1 => ?_)
  · have hi' : i < n := by omega
    rw [cycs_step hi'] at hdone
    have hgle := goC_fst_le (p := p) (x := i) hsl
    generalize hr : goC p (s.count false) i s = r at *
    have hr2l : r.2.length = n := by rw [← hr, goC_len]; exact hsl
    refine Cd.skip ?_
    refine thenQ_n ?_
    refine Cd.seq ?_
    refine Cd.block ?_
    refine Cd.seq ?_
    refine Cd.region ?_
    refine Ops.mv_int rfl rfl rfl ?_
    refine Ops.mv_int rfl rfl rfl ?_
    refine Ops.nil ?_
    refine thenQ_n ?_
    refine Cd.seq ?_
    refine Cd.region ?_
    refine Ops.mv_sl rfl rfl rfl ?_
    refine Ops.nil ?_
    refine thenQ_n ?_
    -- stop: join
    refine Cd.join (α := Option Addr × Nat) (fun z => [(0, .slice A n c), (3, .slice A3 done.length c3), (4, .slice A4 n n), (6, .slice z.1 r.1.length z.2), (12, .int .i64 (n : Int)), (13, .int .i64 (i : Int))])
      (fun z w' => St w w' (CkI 2 z.1 r.1.length z.2 r.1 :: CkB 4 A4 n n r.2 :: mat 39 2 A3 done.length c3 rs done)) ?_ ?_
    · refine Cd.seq ?_
      refine Cd.region ?_
      refine Ops.mv_int rfl rfl rfl ?_
      refine Ops.mv_int rfl rfl rfl ?_
      refine Ops.nil ?_
      refine thenQ_n ?_
      refine Cd.block ?_
      -- stop: loop
      refine Cd.loop (α := Nat × Option Addr × Nat × List Int × List Bool) (fun z => [(0, .slice A n c), (3, .slice A3 done.length c3), (4, .slice A4 n n), (6, .slice z.2.1 z.2.2.2.1.length z.2.2.1), (7, .int .i64 (z.1 : Int)), (12, .int .i64 (n : Int)), (13, .int .i64 (i : Int))])
        (fun z w' => St w w' (CkI 2 z.2.1 z.2.2.2.1.length z.2.2.1 z.2.2.2.1 :: CkB 4 A4 n n z.2.2.2.2 :: mat 39 2 A3 done.length c3 rs done) ∧ z.1 < n ∧ z.2.2.2.2.length = n ∧ z.2.2.2.1 ++ (goC p (z.2.2.2.2.count false) z.1 z.2.2.2.2).1 = r.1 ∧ (goC p (z.2.2.2.2.count false) z.1 z.2.2.2.2).2 = r.2)
        (fun z => z.2.2.2.2.count false) (i, none, 0, [], s) ⟨rfl, rfl, rfl, rfl, rfl, rfl, rfl, trivial⟩ ⟨hS2.nil _, hi', hsl, by rw [List.nil_append, hr], by rw [hr]⟩ ?_
      rintro ⟨x, A6, c6, cl, s'⟩ e w3 ⟨hS3, hx, hsl', hlen, hend⟩
      dsimp only at hS3 hx hsl' hlen hend ⊢
      have hB3 := hS3.rdB 1 rfl
      have hP3 := hS3.oldI hP
      have hcll : cl.length ≤ n := by
        have := congrArg List.length hlen
        rw [List.length_append] at this
        omega
      refine Cd.seq ?_
      refine Cd.seq ?_
      refine Cd.region ?_
      refine Ops.mv_sl rfl rfl rfl ?_
      refine Ops.mv_int rfl rfl rfl ?_
      -- stop: INDEXADDR 86 t17 t18 -> 19
      refine Ops.idx hB3.2 rfl rfl rfl (by omega) (by omega) ?_
      refine Ops.ld_bool hB3 rfl (by omega) rfl rfl ?_
      first | refine Ops.not_p rfl rfl ?_ | refine Ops.not rfl rfl ?_
      refine Ops.nil ?_
      refine thenQ_n ?_
      -- stop: cond
      refine Cd.cond rfl (fun h2 => ?_) (fun h2 => ?_)
      · have hns : ¬ gb s' (x : Int) = true := by simpa using h2
        have hst' := goC_step (p := p) (s := s') (x := x) (by omega) hns
        have hcs := count_seen (s := s') (x := x) (by omega) hns
        have hlx := hp x hx
        rw [hst'] at hlen hend
        dsimp only at hlen hend
        refine Cd.skip ?_
        refine thenQ_n ?_
        refine Cd.seq ?_
        refine Cd.block ?_
        refine Cd.seq ?_
        refine Cd.region ?_
        refine Ops.mv_sl rfl rfl rfl ?_
        refine Ops.mv_int rfl rfl rfl ?_
        -- stop: INDEXADDR 86 t26 t27 -> 28
        refine Ops.idx hB3.2 rfl rfl rfl (by omega) (by omega) ?_
        refine Ops.st_bool 1 hS3 rfl rfl rfl (by omega) ?_
        intro w4 hS4
        have hS4 : St w w4 (CkI 2 A6 cl.length c6 cl :: CkB 4 A4 n n (s'.set x true) :: mat 39 2 A3 done.length c3 rs done) := hS4
        refine Ops.nil ?_
        refine thenQ_n ?_
        refine Cd.region ?_
        refine Ops.mv_sl rfl rfl rfl ?_
        refine Ops.mv_int rfl rfl rfl ?_
        -- stop: BUILDSLICE 39 1 [('pair', [0, ('app', 'Go.Operand.tmp', [30])])] -> 31
        refine Ops.bs1I hS4 rfl rfl rfl ?_
        intro A7 w5 hS5
        refine Ops.appI 1 hS5 rfl (hS5.rdI 0 rfl) rfl rfl rfl (by omega) (by omega) rfl ?_
        intro A8 c8 w6 hS6
        refine Ops.mv_sl rfl rfl rfl ?_
        refine Ops.nil ?_
        refine blockQ_n ?_
        refine thenQ_n ?_
        refine Cd.region ?_
        refine Ops.mv_sl rfl rfl rfl ?_
        refine Ops.mv_int rfl rfl rfl ?_
        -- stop: INDEXADDR 39 t22 t23 -> 24
        have hP6 := hS6.oldI hP
        refine Ops.idx hP6.2 rfl rfl rfl (by omega) (by omega) ?_
        refine Ops.ld_int hP6 rfl (by omega) rfl rfl ?_
        refine Ops.mv_int rfl rfl rfl ?_
        refine Ops.nil ?_
        refine thenQ_n ?_
        -- stop: round
        have hcl' : (cl ++ [(x : Int)]).length = cl.length + 1 := by simp
        refine ⟨((gi p x).toNat, A8, c8, cl ++ [(x : Int)], s'.set x true), by show (s'.set x true).count false < s'.count false; omega, ⟨rfl, rfl, rfl, by show Value.slice _ _ _ = .slice _ _ _; rw [hcl'], by show Value.int .i64 _ = .int .i64 _; rw [Int.toNat_of_nonneg hlx.1], rfl, rfl, trivial⟩, by rw [hcl']; exact hS6.tail, by show (gi p x).toNat < n; omega, by show (s'.set x true).length = n; rw [List.length_set]; exact hsl', ?_, hend⟩
        rw [← hlen]
        simp
      · have hsn : gb s' (x : Int) = true := by simpa using h2
        rw [goC_seen hsn] at hlen hend
        dsimp only at hlen hend
        rw [List.append_nil] at hlen
        subst hend
        subst hlen
        refine Cd.exit ?_
        refine thenQ_x ?_
        refine thenQ_x ?_
        refine blockQ_x ?_
        refine thenQ_n ?_
        -- stop: round
        exact ⟨(A6, c6), ⟨rfl, rfl, rfl, rfl, rfl, rfl, trivial⟩, hS3⟩
    · rintro ⟨A6, c6⟩ e w3 hS3
      dsimp only at hS3 ⊢
      refine Cd.seq ?_
      refine Cd.region ?_
      refine Ops.mv_sl rfl rfl rfl ?_
      refine Ops.len rfl rfl ?_
      refine Ops.gtr rfl rfl rfl ?_
      refine Ops.nil ?_
      refine thenQ_n ?_
      -- stop: cond
      refine Cd.cond_p _ rfl (fun h3 => ?_) (fun h3 => ?_)
      · have hne : r.1 ≠ [] := by intro h; rw [h] at h3; simp at h3
        rw [if_neg hne] at hdone
        refine Cd.region ?_
        refine Ops.mv_sl rfl rfl rfl ?_
        refine Ops.mv_sl rfl rfl rfl ?_
        -- stop: BUILDSLICE 25 1 [('pair', [0, ('app', 'Go.Operand.tmp', [37])])] -> 38
        refine Ops.bs1R hS3 rfl rfl rfl ?_
        intro A7 w4 hS4
        refine Ops.appR 3 hS4 rfl (hS4.rdR 0 rfl) rfl rfl rfl (by omega) (by omega) rfl ?_
        intro A8 c8 w5 hS5
        refine Ops.mv_sl rfl rfl rfl ?_
        refine Ops.nil ?_
        refine blockQ_n ?_
        refine thenQ_n ?_
        refine Cd.region ?_
        refine Ops.add rfl rfl rfl (by omega) ?_
        refine Ops.mv_int rfl rfl rfl ?_
        refine Ops.nil ?_
        refine thenQ_n ?_
        -- stop: round
        have hdl' : (done ++ [r.1]).length = done.length + 1 := by simp
        have hS5 : St w w5 (CkI 2 A6 r.1.length c6 r.1 :: CkB 4 A4 n n r.2 :: CkR 39 A8 (done.length + 1) c8 (rs ++ [⟨A6, r.1.length, c6⟩]) :: rowsCk 2 rs done) := hS5.tail
        refine ⟨(i + 1, A8, c8, rs ++ [⟨A6, r.1.length, c6⟩], done ++ [r.1], r.2), by show n - (i + 1) < n - i; omega, ⟨rfl, by show Value.slice _ _ _ = .slice _ _ _; rw [hdl'], rfl, rfl, rfl, trivial⟩, ?_, hi', hr2l, by simp [hrl], ?_⟩
        · show St w w5 (CkB 4 A4 n n r.2 :: CkR 39 A8 (done ++ [r.1]).length c8 (rs ++ [⟨A6, r.1.length, c6⟩]) :: rowsCk 2 (rs ++ [⟨A6, r.1.length, c6⟩]) (done ++ [r.1]))
          rw [hdl', rowsCk_append hrl]
          exact hS5.perm (List.perm_append_comm (l₁ := [_]) (l₂ := _ :: _ :: rowsCk 2 rs done))
        · rw [← hdone]; simp
      · have hnil : r.1 = [] := List.eq_nil_of_length_eq_zero (by omega)
        rw [if_pos hnil, List.nil_append] at hdone
        refine Cd.skip ?_
        refine blockQ_n ?_
        refine thenQ_n ?_
        refine Cd.region ?_
        refine Ops.add rfl rfl rfl (by omega) ?_
        refine Ops.mv_int rfl rfl rfl ?_
        refine Ops.nil ?_
        refine thenQ_n ?_
        -- stop: round
        exact ⟨(i + 1, A3, c3, rs, done, r.2), by show n - (i + 1) < n - i; omega, ⟨rfl, rfl, rfl, rfl, rfl, trivial⟩, hS3.tail, hi', hr2l, hrl, hdone⟩
  · refine Cd.exit ?_
    refine thenQ_x ?_
    refine thenQ_x ?_
    refine blockQ_x ?_
    refine thenQ_n ?_
    refine Cd.seq ?_
    refine Cd.region ?_
    refine Ops.mv_sl rfl rfl rfl ?_
    refine Ops.mv_sl rfl rfl rfl ?_
    refine Ops.nil ?_
    refine thenQ_n ?_
    refine Cd.ret ?_
    refine ret1_s rfl ?_
    -- stop: end
    have hiF : i = n := by omega
    subst hiF
    rw [cycs_end, List.append_nil] at hdone
    subst hdone
    exact ⟨A3, c3, rs, rfl, hrl, by rw [List.append_nil]; exact hS2.tail⟩
end Go.Proofs.Ytpdhjnacnmfbjaa.Vc
