/-
  The walks of the desk's small functions. Conditions: as each states them.
-/
import Derived.Test.YtpdhjnacnmfbjaaB6
namespace Go.Proofs.Ytpdhjnacnmfbjaa.Vc
open Go.RowKit
section
variable {P : Program} {N : Nat} {ops : Array Oper} {K : Env → World → Prop} {rest : List Oper} {e : Env} {w : World} {d : Nat} {ty : TypeId} {pos : String} {af : Array Edge} {x y : Operand} {xt yt : TypeId}
theorem run_equal_bool [Und P xt .bool] (a b : Bool) : (Op.equal xt (.bool a) (.bool b)).run P w = .ok (a == b) w :=
  run_equalIn_bool w 9999 xt a b Und.out
theorem Ops.neqB [Und P xt .bool] {a b : Bool} (hx : ev e x = .bool a) (hy : ev e y = .bool b) (hb : Nat.blt d N = true) (hK : Ops P N ops K rest (upd e d (.bool (!(a == b)))) w) :
    Ops P N ops K (⟨some d, .binOp .neq xt x y yt, ty, pos, af, none⟩ :: rest) e w :=
  .val (by simp [execOp, hx, hy, eqGuard, binOp, run_equal_bool]) hb hK
theorem Ops.eqlB [Und P xt .bool] {a b : Bool} (hx : ev e x = .bool a) (hy : ev e y = .bool b) (hb : Nat.blt d N = true) (hK : Ops P N ops K rest (upd e d (.bool (a == b))) w) :
    Ops P N ops K (⟨some d, .binOp .eql xt x y yt, ty, pos, af, none⟩ :: rest) e w :=
  .val (by simp [execOp, hx, hy, eqGuard, binOp, run_equal_bool]) hb hK
end

theorem specIsDesk_c (A1 : Option Addr) (n1 c1 : Nat) (rs1 : List SlV) (x1 : List (List Int)) (A2 : Option Addr) (n2 c2 : Nat) (rs2 : List SlV) (x2 : List (List Int)) (w : World) (hR1 : RowsI w A1 n1 rs1 x1) (hR2 : RowsI w A2 n2 rs2 x2) (hn1 : n1 ≤ 9223372036854775807) (hn2 : n2 ≤ 9223372036854775807) :
    Ret Try.prog 18 [.agg #[.slice A1 n1 c1, .slice A2 n2 c2]] w (fun v w' => v = .bool (decide (Mani x1 ∧ Mani x2)) ∧ St w w' []) := by
  refine Ret.of_cd Try.func18 rfl Try.ntmps18 rfl (post1 rfl) ?_
  refine Cd.seq ?_
  refine Cd.region ?_
  -- stop: BOX 34 t0=d -> 1
  refine Ops.box2 (St.refl w) rfl rfl ?_
  intro Ab w1 hS
  refine Ops.mv_bool rfl rfl rfl ?_
  refine Ops.nil ?_
  refine thenQ_n ?_
  refine Cd.seq ?_
  refine Cd.region ?_
  -- stop: FIELDADDR 34 t1=d 0 -> 3
  refine Ops.fld (hS.rd 0 rfl) rfl rfl rfl rfl inferInstance ?_
  refine Ops.ld_aggf 0 (hS.rd 0 rfl) rfl rfl rfl rfl ?_
  refine Ops.call (l02Is_c A1 n1 c1 rs1 x1 _ (hS.oldRows hR1) hn1) rfl rfl rfl ?_
  rintro _ w2 ⟨rfl, hst⟩
  have hS := hS.later hst.below
  refine Ops.mv_bool rfl rfl rfl ?_
  -- stop: guard 6
  refine Ops.split_p 6 rfl (fun h1 => ?_) (fun h1 => ?_)
  · refine Ops.rung rfl rfl rfl ?_
    -- stop: FIELDADDR 34 t1=d 1 -> 7
    refine Ops.fld (hS.rd 0 rfl) rfl rfl rfl rfl inferInstance ?_
    refine Ops.rung rfl rfl rfl ?_
    -- stop: LOAD 32 t7 -> 8
    refine Ops.ld_aggf 0 (hS.rd 0 rfl) rfl rfl rfl rfl ?_
    refine Ops.rung rfl rfl rfl ?_
    -- stop: CALL spec.l02Is(t8) -> 9
    refine Ops.call (l02Is_c A2 n2 c2 rs2 x2 _ (hS.oldRows hR2) hn2) rfl rfl rfl ?_
    rintro _ w3 ⟨rfl, hst⟩
    refine Ops.pick_t rfl rfl rfl ?_
    refine Ops.mv_bool rfl rfl rfl ?_
    refine Ops.nil ?_
    refine thenQ_n ?_
    refine Cd.ret ?_
    refine ret1_b rfl ?_
    -- stop: end
    exact ⟨by simp [h1], (hS.later hst.below).none⟩
  · refine Ops.skipg rfl rfl rfl rfl rfl ?_
    refine Ops.skipg rfl rfl rfl rfl rfl ?_
    refine Ops.skipg rfl rfl rfl rfl rfl ?_
    refine Ops.pick_f rfl rfl rfl ?_
    refine Ops.mv_bool rfl rfl rfl ?_
    refine Ops.nil ?_
    refine thenQ_n ?_
    refine Cd.ret ?_
    refine ret1_b rfl ?_
    -- stop: end
    exact ⟨by simp [h1], hS.none⟩

theorem implIsDesk_c (A1 : Option Addr) (n1 c1 : Nat) (rs1 : List SlV) (x1 : List (List Int)) (A2 : Option Addr) (n2 c2 : Nat) (rs2 : List SlV) (x2 : List (List Int)) (w : World) (hR1 : RowsI w A1 n1 rs1 x1) (hR2 : RowsI w A2 n2 rs2 x2) (hn1 : n1 ≤ c1 ∧ c1 ≤ 9223372036854775807) (hn2 : n2 ≤ c2 ∧ c2 ≤ 9223372036854775807) :
    Ret Try.prog 20 [.agg #[.slice A1 n1 c1, .slice A2 n2 c2]] w (fun v w' => v = .bool (decide (Mani x1 ∧ Mani x2)) ∧ St w w' []) := by
  refine Ret.of_cd Try.func20 rfl Try.ntmps20 rfl (post1 rfl) ?_
  refine Cd.seq ?_
  refine Cd.region ?_
  -- stop: BOX 34 t0=d -> 1
  refine Ops.box2 (St.refl w) rfl rfl ?_
  intro Ab w1 hS
  refine Ops.mv_bool rfl rfl rfl ?_
  refine Ops.nil ?_
  refine thenQ_n ?_
  refine Cd.seq ?_
  refine Cd.region ?_
  -- stop: FIELDADDR 34 t1=d 0 -> 3
  refine Ops.fld (hS.rd 0 rfl) rfl rfl rfl rfl inferInstance ?_
  refine Ops.ld_aggf 0 (hS.rd 0 rfl) rfl rfl rfl rfl ?_
  refine Ops.call (isManiplex_c A1 n1 c1 rs1 x1 _ (hS.oldRows hR1) hn1.1 hn1.2) rfl rfl rfl ?_
  rintro _ w2 ⟨rfl, hst⟩
  have hS := hS.later hst.below
  refine Ops.mv_bool rfl rfl rfl ?_
  -- stop: guard 6
  refine Ops.split_p 6 rfl (fun h1 => ?_) (fun h1 => ?_)
  · refine Ops.rung rfl rfl rfl ?_
    -- stop: FIELDADDR 34 t1=d 1 -> 7
    refine Ops.fld (hS.rd 0 rfl) rfl rfl rfl rfl inferInstance ?_
    refine Ops.rung rfl rfl rfl ?_
    -- stop: LOAD 32 t7 -> 8
    refine Ops.ld_aggf 0 (hS.rd 0 rfl) rfl rfl rfl rfl ?_
    refine Ops.rung rfl rfl rfl ?_
    -- stop: CALL impl.isManiplex(t8) -> 9
    refine Ops.call (isManiplex_c A2 n2 c2 rs2 x2 _ (hS.oldRows hR2) hn2.1 hn2.2) rfl rfl rfl ?_
    rintro _ w3 ⟨rfl, hst⟩
    refine Ops.pick_t rfl rfl rfl ?_
    refine Ops.mv_bool rfl rfl rfl ?_
    refine Ops.nil ?_
    refine thenQ_n ?_
    refine Cd.ret ?_
    refine ret1_b rfl ?_
    -- stop: end
    exact ⟨by simp [h1], (hS.later hst.below).none⟩
  · refine Ops.skipg rfl rfl rfl rfl rfl ?_
    refine Ops.skipg rfl rfl rfl rfl rfl ?_
    refine Ops.skipg rfl rfl rfl rfl rfl ?_
    refine Ops.pick_f rfl rfl rfl ?_
    refine Ops.mv_bool rfl rfl rfl ?_
    refine Ops.nil ?_
    refine thenQ_n ?_
    refine Cd.ret ?_
    refine ret1_b rfl ?_
    -- stop: end
    exact ⟨by simp [h1], hS.none⟩

theorem szGo_fits : ∀ (ns : List Nat) (l : Int), 0 ≤ l → 0 ≤ szGo ns l → szGo ns l ≤ l ∧ ∀ n ∈ ns, (n : Int) ≤ l
  | [], l, _, _ => ⟨by simp [szGo], fun n hn => by cases hn⟩
  | m :: r, l, h0, h => by
    simp only [szGo] at h ⊢
    split at h
    · omega
    · rename_i h1
      rw [if_neg h1]
      have hle := szI_le m l h0
      have ih := szGo_fits r (szI m l) (by omega) h
      refine ⟨by omega, fun n hn => ?_⟩
      rcases List.mem_cons.1 hn with rfl | hn
      · unfold szI at h1; split at h1 <;> omega
      · have := ih.2 n hn; omega
theorem szSS_fits {ns : List Nat} {l : Int} (h0 : 0 ≤ l) (h : 0 ≤ szSS ns l) : szSS ns l ≤ l ∧ (ns.length : Int) ≤ l ∧ ∀ n ∈ ns, (n : Int) ≤ l := by
  unfold szSS at h ⊢
  split at h
  · omega
  · rename_i h1
    rw [if_neg h1]
    have := szGo_fits ns (l - ns.length) (by omega) h
    exact ⟨by omega, by omega, fun n hn => by have := this.2 n hn; omega⟩
theorem szSS_neg {ns : List Nat} {l : Int} (h : szSS ns l < 0) : szSS ns l = -1 := by
  have key : ∀ (ns : List Nat) (l : Int), 0 ≤ l → szGo ns l < 0 → szGo ns l = -1 := by
    intro ns
    induction ns with
    | nil => intro l h0 h; simp [szGo] at h; omega
    | cons n r ih =>
      intro l h0
      simp only [szGo]
      split
      · intro _; rfl
      · exact ih _ (by omega)
  unfold szSS at h ⊢
  split
  · rfl
  · rename_i h1
    rw [if_neg h1] at h
    exact key _ _ (by omega) h
theorem fits_of {n : Nat} {rs : List SlV} {l : Int} (hl : rs.length = n) (h0 : 0 ≤ l ∧ l ≤ 1048576) (h : 0 ≤ szSS (lens rs) l) : Fits n rs := by
  have h1 := szSS_fits h0.1 h
  refine ⟨by have := h1.2.1; simp [lens] at this; omega, fun i hi => ?_⟩
  have := h1.2.2 (rs.getD i slNil).n (by
    simp only [lens, List.mem_map]
    exact ⟨rs[i]'(by omega), List.getElem_mem _, by simp [List.getD_eq_getElem?_getD, List.getElem?_eq_getElem (show i < rs.length by omega)]⟩)
  omega

theorem szDesk_c (A1 : Option Addr) (n1 c1 : Nat) (rs1 : List SlV) (x1 : List (List Int)) (A2 : Option Addr) (n2 c2 : Nat) (rs2 : List SlV) (x2 : List (List Int)) (left : Int) (w : World) (hR1 : RowsI w A1 n1 rs1 x1) (hR2 : RowsI w A2 n2 rs2 x2) (hn1 : n1 ≤ 9223372036854775807) (hn2 : n2 ≤ 9223372036854775807) (hl : 0 ≤ left ∧ left ≤ 1048576) :
    Ret Try.prog 17 [.agg #[.slice A1 n1 c1, .slice A2 n2 c2], .int .i64 left] w (fun v w' => (∃ r : Int, v = .int .i64 r ∧ (0 ≤ r → Fits n1 rs1 ∧ Fits n2 rs2)) ∧ St w w' []) := by
  refine Ret.of_cd Try.func17 rfl Try.ntmps17 rfl (post1 rfl) ?_
  refine Cd.seq ?_
  refine Cd.region ?_
  -- stop: BOX 29 t0=a -> 2
  refine Ops.box2 (St.refl w) rfl rfl ?_
  intro Ab w1 hS
  refine Ops.mv_int rfl rfl rfl ?_
  refine Ops.nil ?_
  refine thenQ_n ?_
  refine Cd.seq ?_
  refine Cd.region ?_
  -- stop: FIELDADDR 29 t2=a 0 -> 5
  refine Ops.fld (hS.rd 0 rfl) rfl rfl rfl rfl inferInstance ?_
  refine Ops.ld_aggf 0 (hS.rd 0 rfl) rfl rfl rfl rfl ?_
  refine Ops.mv_int rfl rfl rfl ?_
  -- stop: CALL laws.szManiplex(t6, t7) -> 8
  refine Ops.call (szManiplex_c A1 n1 c1 rs1 x1 left _ (hS.oldRows hR1) hn1 hl) rfl rfl rfl ?_
  rintro _ w2 ⟨rfl, hst⟩
  have hS := hS.later hst.below
  refine Ops.mv_int rfl rfl rfl ?_
  refine Ops.nil ?_
  refine thenQ_n ?_
  refine Cd.seq ?_
  refine Cd.seq ?_
  refine Cd.region ?_
  refine Ops.mv_int rfl rfl rfl ?_
  refine Ops.lss rfl rfl rfl ?_
  refine Ops.nil ?_
  refine thenQ_n ?_
  -- stop: cond
  refine Cd.cond_p _ rfl (fun h1 => ?_) (fun h1 => ?_)
  · refine Cd.seq ?_
    refine Cd.region ?_
    refine Ops.mv_int rfl rfl rfl ?_
    refine Ops.nil ?_
    refine thenQ_n ?_
    refine Cd.ret ?_
    refine thenQ_r ?_
    refine ret1_i rfl ?_
    -- stop: end
    exact ⟨⟨-1, rfl, fun h => by omega⟩, hS.none⟩
  have hf := szSS_fits hl.1 (show 0 ≤ szSS (lens rs1) left by omega)
  refine Cd.skip ?_
  refine thenQ_n ?_
  refine Cd.seq ?_
  refine Cd.region ?_
  -- stop: FIELDADDR 29 t2=a 1 -> 11
  refine Ops.fld (hS.rd 0 rfl) rfl rfl rfl rfl inferInstance ?_
  refine Ops.ld_aggf 0 (hS.rd 0 rfl) rfl rfl rfl rfl ?_
  refine Ops.mv_int rfl rfl rfl ?_
  -- stop: CALL laws.szManiplex(t12, t13) -> 14
  refine Ops.call (szManiplex_c A2 n2 c2 rs2 x2 _ _ (hS.oldRows hR2) hn2 ⟨by omega, by omega⟩) rfl rfl rfl ?_
  rintro _ w3 ⟨rfl, hst⟩
  have hS := hS.later hst.below
  refine Ops.mv_int rfl rfl rfl ?_
  refine Ops.nil ?_
  refine thenQ_n ?_
  refine Cd.seq ?_
  refine Cd.seq ?_
  refine Cd.region ?_
  refine Ops.mv_int rfl rfl rfl ?_
  refine Ops.lss rfl rfl rfl ?_
  refine Ops.nil ?_
  refine thenQ_n ?_
  -- stop: cond
  refine Cd.cond_p _ rfl (fun h2 => ?_) (fun h2 => ?_)
  · refine Cd.seq ?_
    refine Cd.region ?_
    refine Ops.mv_int rfl rfl rfl ?_
    refine Ops.nil ?_
    refine thenQ_n ?_
    refine Cd.ret ?_
    refine thenQ_r ?_
    refine ret1_i rfl ?_
    -- stop: end
    exact ⟨⟨-1, rfl, fun h => by omega⟩, hS.none⟩
  · refine Cd.skip ?_
    refine thenQ_n ?_
    refine Cd.seq ?_
    refine Cd.region ?_
    refine Ops.mv_int rfl rfl rfl ?_
    refine Ops.mv_int rfl rfl rfl ?_
    refine Ops.nil ?_
    refine thenQ_n ?_
    refine Cd.ret ?_
    refine ret1_i rfl ?_
    -- stop: end
    exact ⟨⟨_, rfl, fun h => ⟨fits_of hR1.top.1 hl (by omega), fits_of hR2.top.1 (l := szSS (lens rs1) left) ⟨by omega, by omega⟩ (by omega)⟩⟩, hS.none⟩

theorem toDesk_c (A1 : Option Addr) (n1 c1 : Nat) (rs1 : List SlV) (x1 : List (List Int)) (A2 : Option Addr) (n2 c2 : Nat) (rs2 : List SlV) (x2 : List (List Int)) (w : World) (hR1 : RowsI w A1 n1 rs1 x1) (hR2 : RowsI w A2 n2 rs2 x2) (hf1 : Fits n1 rs1) (hf2 : Fits n2 rs2) :
    Ret Try.prog 19 [.agg #[.slice A1 n1 c1, .slice A2 n2 c2]] w (fun v w' => ∃ A1' rs1' A2' rs2', v = .agg #[.slice A1' n1 n1, .slice A2' n2 n2] ∧ St w w' (mat 39 2 A1' n1 n1 rs1' x1 ++ mat 39 2 A2' n2 n2 rs2' x2)) := by
  refine Ret.of_cd Try.func19 rfl Try.ntmps19 rfl (postc rfl rfl) ?_
  refine Cd.seq ?_
  refine Cd.region ?_
  -- stop: BOX 29 t0=a -> 1
  refine Ops.box2 (St.refl w) rfl rfl ?_
  intro Ab w1 hS1
  refine Ops.new2 hS1 rfl ?_
  intro Ac w2 hS2
  refine Ops.nil ?_
  refine thenQ_n ?_
  refine Cd.seq ?_
  refine Cd.region ?_
  -- stop: ALLOC 34 -> 3
  refine Ops.new2 hS2 rfl ?_
  intro Ad w3 hS3
  refine Ops.nil ?_
  refine thenQ_n ?_
  refine Cd.seq ?_
  refine Cd.region ?_
  -- stop: FIELDADDR 29 t1=a 0 -> 4
  refine Ops.fld (hS3.rd 2 rfl) rfl rfl rfl rfl inferInstance ?_
  refine Ops.ld_aggf 0 (hS3.rd 2 rfl) rfl rfl rfl rfl ?_
  refine Ops.call (toManiplex_c A1 n1 c1 rs1 x1 _ (hS3.oldRows hR1) hf1) rfl rfl rfl ?_
  rintro _ w4 ⟨B1, rb1, rfl, hl1, hS4⟩
  have hS4 := hS3.call2 hS4
  refine Ops.fld (hS4.rd 0 rfl) rfl rfl rfl rfl inferInstance ?_
  refine Ops.st_aggf 1 0 hS4 rfl rfl rfl rfl rfl rfl rfl ?_
  intro w5 hS5
  have hS5 : St w w5 ([Bx 34 2 Ad [.slice B1 n1 n1, .slice none 0 0], Bx 34 2 Ac [.slice none 0 0, .slice none 0 0], Bx 29 2 Ab [.slice A1 n1 c1, .slice A2 n2 c2]] ++ mat 39 2 B1 n1 n1 rb1 x1) := hS5
  refine Ops.nil ?_
  refine thenQ_n ?_
  refine Cd.seq ?_
  refine Cd.region ?_
  -- stop: FIELDADDR 29 t1=a 1 -> 8
  refine Ops.fld (hS5.rd 2 rfl) rfl rfl rfl rfl inferInstance ?_
  refine Ops.ld_aggf 0 (hS5.rd 2 rfl) rfl rfl rfl rfl ?_
  refine Ops.call (toManiplex_c A2 n2 c2 rs2 x2 _ (hS5.oldRows hR2) hf2) rfl rfl rfl ?_
  rintro _ w6 ⟨B2, rb2, rfl, hl2, hS6⟩
  have hS6 := hS5.call2 hS6
  refine Ops.fld (hS6.rd 0 rfl) rfl rfl rfl rfl inferInstance ?_
  refine Ops.st_aggf 1 0 hS6 rfl rfl rfl rfl rfl rfl rfl ?_
  intro w7 hS7
  have hS7 : St w w7 ([Bx 34 2 Ad [.slice B1 n1 n1, .slice B2 n2 n2], Bx 34 2 Ac [.slice none 0 0, .slice none 0 0], Bx 29 2 Ab [.slice A1 n1 c1, .slice A2 n2 c2]] ++ (mat 39 2 B1 n1 n1 rb1 x1 ++ mat 39 2 B2 n2 n2 rb2 x2)) := by rw [← List.append_assoc]; exact hS7
  refine Ops.nil ?_
  refine thenQ_n ?_
  refine Cd.seq ?_
  refine Cd.region ?_
  -- stop: LOAD 34 t3=out -> 12
  refine Ops.ld_agg 1 (hS7.rd 0 rfl) rfl rfl rfl ?_
  refine Ops.st_agg 2 1 hS7 rfl rfl rfl rfl rfl rfl rfl ?_
  intro w8 hS8
  have hS8 : St w w8 ([Bx 34 2 Ad [.slice B1 n1 n1, .slice B2 n2 n2], Bx 34 2 Ac [.slice B1 n1 n1, .slice B2 n2 n2], Bx 29 2 Ab [.slice A1 n1 c1, .slice A2 n2 c2]] ++ (mat 39 2 B1 n1 n1 rb1 x1 ++ mat 39 2 B2 n2 n2 rb2 x2)) := hS8
  refine Ops.nil ?_
  refine thenQ_n ?_
  refine Cd.ret ?_
  skip
  -- stop: end
  refine retc_r rfl (hS8.rd 1 rfl) ?_
  exact ⟨B1, rb1, B2, rb2, rfl, hS8.sub (List.sublist_append_right _ _)⟩

theorem eqDesk_c (A1 : Option Addr) (n1 c1 : Nat) (rs1 : List SlV) (x1 : List (List Int)) (A2 : Option Addr) (n2 c2 : Nat) (rs2 : List SlV) (x2 : List (List Int)) (B1 : Option Addr) (m1 d1 : Nat) (ts1 : List SlV) (y1 : List (List Int)) (B2 : Option Addr) (m2 d2 : Nat) (ts2 : List SlV) (y2 : List (List Int)) (w : World) (hR1 : RowsI w A1 n1 rs1 x1) (hR2 : RowsI w A2 n2 rs2 x2) (hT1 : RowsI w B1 m1 ts1 y1) (hT2 : RowsI w B2 m2 ts2 y2) (hn1 : n1 ≤ 9223372036854775807) (hn2 : n2 ≤ 9223372036854775807) :
    Ret Try.prog 21 [.agg #[.slice A1 n1 c1, .slice A2 n2 c2], .agg #[.slice B1 m1 d1, .slice B2 m2 d2]] w (fun v w' => v = .bool (decide (x1 = y1 ∧ x2 = y2)) ∧ St w w' []) := by
  refine Ret.of_cd Try.func21 rfl Try.ntmps21 rfl (post1 rfl) ?_
  refine Cd.seq ?_
  refine Cd.region ?_
  -- stop: BOX 34 t0=a -> 2
  refine Ops.box2 (St.refl w) rfl rfl ?_
  intro Ab w1 hS1
  refine Ops.box2 hS1 rfl rfl ?_
  intro Ac w2 hS
  refine Ops.mv_bool rfl rfl rfl ?_
  refine Ops.nil ?_
  refine thenQ_n ?_
  refine Cd.seq ?_
  refine Cd.seq ?_
  refine Cd.region ?_
  -- stop: FIELDADDR 34 t2=a 0 -> 5
  refine Ops.fld (hS.rd 1 rfl) rfl rfl rfl rfl inferInstance ?_
  refine Ops.ld_aggf 0 (hS.rd 1 rfl) rfl rfl rfl rfl ?_
  refine Ops.fld (hS.rd 0 rfl) rfl rfl rfl rfl inferInstance ?_
  refine Ops.ld_aggf 0 (hS.rd 0 rfl) rfl rfl rfl rfl ?_
  refine Ops.call (eqManiplex_c A1 n1 c1 rs1 x1 B1 m1 d1 ts1 y1 _ (hS.oldRows hR1) (hS.oldRows hT1) hn1) rfl rfl rfl ?_
  rintro _ w3 ⟨rfl, hst⟩
  have hS := hS.later hst.below
  first | refine Ops.not_p rfl rfl ?_ | refine Ops.not rfl rfl ?_
  refine Ops.nil ?_
  refine thenQ_n ?_
  -- stop: cond
  refine Cd.cond_p _ rfl (fun h1 => ?_) (fun h1 => ?_)
  · refine Cd.seq ?_
    refine Cd.region ?_
    refine Ops.mv_bool rfl rfl rfl ?_
    refine Ops.nil ?_
    refine thenQ_n ?_
    refine Cd.ret ?_
    refine thenQ_r ?_
    refine ret1_b rfl ?_
    -- stop: end
    exact ⟨by rw [decide_eq_false (fun h => h1 h.1)], hS.none⟩
  have h1 := Classical.not_not.1 h1
  refine Cd.skip ?_
  refine thenQ_n ?_
  refine Cd.seq ?_
  refine Cd.seq ?_
  refine Cd.region ?_
  -- stop: FIELDADDR 34 t2=a 1 -> 11
  refine Ops.fld (hS.rd 1 rfl) rfl rfl rfl rfl inferInstance ?_
  refine Ops.ld_aggf 0 (hS.rd 1 rfl) rfl rfl rfl rfl ?_
  refine Ops.fld (hS.rd 0 rfl) rfl rfl rfl rfl inferInstance ?_
  refine Ops.ld_aggf 0 (hS.rd 0 rfl) rfl rfl rfl rfl ?_
  refine Ops.call (eqManiplex_c A2 n2 c2 rs2 x2 B2 m2 d2 ts2 y2 _ (hS.oldRows hR2) (hS.oldRows hT2) hn2) rfl rfl rfl ?_
  rintro _ w4 ⟨rfl, hst⟩
  have hS := hS.later hst.below
  first | refine Ops.not_p rfl rfl ?_ | refine Ops.not rfl rfl ?_
  refine Ops.nil ?_
  refine thenQ_n ?_
  -- stop: cond
  refine Cd.cond_p _ rfl (fun h2 => ?_) (fun h2 => ?_)
  · refine Cd.seq ?_
    refine Cd.region ?_
    refine Ops.mv_bool rfl rfl rfl ?_
    refine Ops.nil ?_
    refine thenQ_n ?_
    refine Cd.ret ?_
    refine thenQ_r ?_
    refine ret1_b rfl ?_
    -- stop: end
    exact ⟨by rw [decide_eq_false (fun h => h2 h.2)], hS.none⟩
  · refine Cd.skip ?_
    refine thenQ_n ?_
    refine Cd.seq ?_
    refine Cd.region ?_
    refine Ops.mv_bool rfl rfl rfl ?_
    refine Ops.nil ?_
    refine thenQ_n ?_
    refine Cd.ret ?_
    refine ret1_b rfl ?_
    -- stop: end
    exact ⟨by rw [decide_eq_true ⟨h1, Classical.not_not.1 h2⟩], hS.none⟩
end Go.Proofs.Ytpdhjnacnmfbjaa.Vc
