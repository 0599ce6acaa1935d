/-
  The walks of the program's list of rooted forms, of its count, and of the law over both. Conditions: as each states them.
-/
import Derived.Test.YtpdhjnacnmfbjaaG8
namespace Go.Proofs.Ytpdhjnacnmfbjaa.Vc
open Go.RowKit
section
variable {P : Program} {N : Nat} {ops : Array Oper} {K : Env → World → Prop} {rest : List Oper} {e : Env} {w0 w w' : World} {ks : List Ck} {d : Nat} {ty : TypeId} {pos : String} {af : Array Edge}
theorem Ops.bld4b {t : TypeId} {f0 f1 f2 f3 : Field} {z0 z1 z2 z3 y0 y1 y2 y3 : Value} {b b0 b1 b2 b3 : Nat} [Und P t (.struct #[f0, f1, f2, f3])] [Inf P t (.agg #[z0, z1, z2, z3]) 4 b] (I0 : Inf P f0.type y0 1 b0) (I1 : Inf P f1.type y1 1 b1) (I2 : Inf P f2.type y2 1 b2) (I3 : Inf P f3.type y3 1 b3)
    (ho : f0.offset = 0 ∧ f1.offset = 1 ∧ f2.offset = 2 ∧ f3.offset = 3) {x1 x2 : Operand} {v1 v2 : Value} (h1 : ev e x1 = v1) (h2 : ev e x2 = v2) (c1 : v1.oneCell' = true) (c2 : v2.oneCell' = true) (hb : Nat.blt d N = true)
    (hK : Ops P N ops K rest (upd e d (.agg #[z0, v1, v2, z3])) w) : Ops P N ops K (⟨some d, .build t #[(1, x1), (2, x2)], ty, pos, af, none⟩ :: rest) e w := by
  obtain ⟨inf, hi, hz0, hs, hby⟩ := Inf.get P t
  obtain ⟨i0, g0, _, s0, _⟩ := I0.get P f0.type
  obtain ⟨i1, g1, _, s1, _⟩ := I1.get P f1.type
  obtain ⟨i2, g2, _, s2, _⟩ := I2.get P f2.type
  obtain ⟨i3, g3, _, s3, _⟩ := I3.get P f3.type
  have e1 : v1.cells = #[v1] := by cases v1 <;> simp [Value.oneCell'] at c1 <;> rfl
  have e2 : v2.cells = #[v2] := by cases v2 <;> simp [Value.oneCell'] at c2 <;> rfl
  have ez : (Value.agg #[z0, z1, z2, z3]).cells = #[z0, z1, z2, z3] := rfl
  obtain ⟨o0, o1, o2, o3⟩ := ho
  refine .val (w' := w) ?_ hb hK
  simp [execOp, Instr.build, run_underlying (Und.out (P := P) (t := t)), sizeOf, typeInfo, zeroValue, hi, hz0, g0, g1, g2, g3, s0, s1, s2, s3, o0, o1, o2, o3, h1, h2, e1, e2, ez, Instr.fill]
theorem Ops.box4 {el : TypeId} {x : Operand} {v0 v1 v2 v3 : Value} (hS : St w0 w ks) (hx : ev e x = .agg #[v0, v1, v2, v3]) (hb : Nat.blt d N = true)
    (hK : ∀ A w', St w0 w' (Bx el 4 A [v0, v1, v2, v3] :: ks) → Ops P N ops K rest (upd e d (.pointer A)) w') : Ops P N ops K (⟨some d, .box el x, ty, pos, af, none⟩ :: rest) e w := .box_agg hS hx hb rfl hK
end

/-- what the builder owns while its moves grow -/
def rfK (Ab A : Option Addr) (k c F : Nat) (rs : List SlV) : List Ck :=
  Bx 82 4 Ab [.slice A k c, .int .i64 (F : Int), .int .i64 (1 : Int), .slice none 0 0] :: CkR 39 A k c rs :: rowsCk 2 rs (List.replicate k (List.replicate F (-1)))

theorem rootedForms_c (n F : Nat) (hn : 1 ≤ n ∧ n ≤ 4) (hF : 2 ≤ F ∧ F ≤ 12) (w : World) :
    Ret Try.prog 57 [.int .i64 (n : Int), .int .i64 (F : Int)] w (fun v w' => ∃ A' c', ∃ new : List MatV, v = .slice A' new.length c' ∧ (∀ m ∈ new, m.ok) ∧ new.map (·.xss) = forms n F (F * n + 1) 0 1 (blank n F) ∧
      St w w' (CkR 32 A' new.length c' (new.map (·.top)) :: matsCk 39 2 new)) := by
  refine Ret.of_cd Try.func57 rfl Try.ntmps57 rfl (post1 rfl) ?_
  refine Cd.seq ?_
  refine Cd.region ?_
  refine Ops.mv_sl rfl rfl rfl ?_
  refine Ops.nil ?_
  refine thenQ_n ?_
  refine Cd.seq ?_
  refine Cd.region ?_
  refine Ops.mv_int rfl rfl rfl ?_
  -- stop: BUILD 82 [('pair', [1, ('app', 'Go.Operand.tmp', [6])]), ('pair', [2, ('app', 'Go.Operand.const', [('app', 'Go.Value.int', ['Go.IntKind.i64', 1])])])] -> 7
  refine Ops.bld4b (by exact inferInstance) (by exact inferInstance) (by exact inferInstance) (by exact inferInstance) ⟨rfl, rfl, rfl, rfl⟩ rfl rfl rfl rfl rfl ?_
  refine Ops.box4 (St.refl w) rfl rfl ?_
  intro Ab w1 hS1
  refine Ops.mv_ptr rfl rfl rfl ?_
  refine Ops.nil ?_
  refine thenQ_n ?_
  refine Cd.seq ?_
  refine Cd.seq ?_
  refine Cd.region ?_
  refine Ops.mv_int rfl rfl rfl ?_
  refine Ops.mv_int rfl rfl rfl ?_
  refine Ops.nil ?_
  refine thenQ_n ?_
  refine Cd.block ?_
  -- stop: loop
  have hS0 : St w w1 (rfK Ab none 0 0 F []) := (hS1.nil 39).perm (List.perm_append_comm (l₁ := [_]) (l₂ := [_]))
  refine Cd.loop (α := Nat × Option Addr × Nat × List SlV) (fun s => [(1, .int .i64 (F : Int)), (5, .pointer Ab), (9, .int .i64 (n : Int)), (10, .int .i64 (s.1 : Int))]) (fun s w' => St w w' (rfK Ab s.2.1 s.1 s.2.2.1 F s.2.2.2) ∧ s.1 ≤ n ∧ s.2.2.2.length = s.1) (fun s => n - s.1) (0, none, 0, []) ⟨rfl, rfl, rfl, rfl, trivial⟩ ⟨hS0, Nat.zero_le _, rfl⟩ ?_
  rintro ⟨k, A3, c3, rs⟩ e w4 ⟨hS4, hk, hlen⟩
  dsimp only at hS4 hk hlen ⊢
  refine Cd.seq ?_
  refine Cd.region ?_
  refine Ops.lss rfl rfl rfl ?_
  refine Ops.nil ?_
  refine thenQ_n ?_
  refine Cd.seq ?_
  -- stop: cond
  refine Cd.cond_p _ rfl (fun h1 => ?_) (fun h1 => ?_)
  · have hk' : k < n := by omega
    refine Cd.skip ?_
    refine thenQ_n ?_
    refine Cd.seq ?_
    refine Cd.block ?_
    -- stop: draw
    have hB := (show St w w4 (_ :: _) from hS4).rd 0 rfl
    refine Cd.drawN [9, 12] [.ex (.pointer (Ab)), .ex (.pointer (Ab)), .ex (.pointer (Ab)), .ex (.pointer (ptrAt (Ab) 0)), .ex (.slice (A3) (k) (c3)), .pr (fun v w' => ∃ A9, v = .slice A9 1 1 ∧ St w w' (CkI 2 A9 1 1 [-1] :: rfK Ab A3 k c3 F rs)), .ex (.int .i64 ((F : Int))), .pr (fun v w' => ∃ A4, v = .slice A4 F F ∧ St w w' (CkI 2 A4 F F (List.replicate F (-1)) :: rfK Ab A3 k c3 F rs)), .pr (fun v w' => ∃ A4 A9, v = .slice A9 1 1 ∧ St w w' (CkR 39 A9 1 1 [⟨A4, F, F⟩] :: CkI 2 A4 F F (List.replicate F (-1)) :: rfK Ab A3 k c3 F rs)), .pr (fun v w' => ∃ A4 A10 c10, v = .slice A10 (k + 1) c10 ∧ St w w' (CkI 2 A4 F F (List.replicate F (-1)) :: Bx 82 4 Ab [.slice A3 k c3, .int .i64 (F : Int), .int .i64 (1 : Int), .slice none 0 0] :: CkR 39 A10 (k + 1) c10 (rs ++ [⟨A4, F, F⟩]) :: rowsCk 2 rs (List.replicate k (List.replicate F (-1))))), .ex (.pointer (Ab)), .ex (.pointer (ptrAt (Ab) 0)), .pr (fun _ w' => ∃ A4 A10 c10, St w w' (CkI 2 A4 F F (List.replicate F (-1)) :: Bx 82 4 Ab [.slice A10 (k + 1) c10, .int .i64 (F : Int), .int .i64 (1 : Int), .slice none 0 0] :: CkR 39 A10 (k + 1) c10 (rs ++ [⟨A4, F, F⟩]) :: rowsCk 2 rs (List.replicate k (List.replicate F (-1)))))] (by kernel_rfl) (by kernel_rfl) (List.forall_mem_cons.2 ⟨Yd.lasts_ex _, (List.forall_mem_cons.2 ⟨Yd.lasts_ex _, (List.forall_mem_cons.2 ⟨Yd.lasts_ex _, (List.forall_mem_cons.2 ⟨Yd.lasts_ex _, (List.forall_mem_cons.2 ⟨Yd.lasts_ex _, (List.forall_mem_cons.2 ⟨Yd.lasts_pr (fun v w w' h hb => by obtain ⟨A9, hv, hT⟩ := h; exact ⟨A9, hv, hT.later hb⟩), (List.forall_mem_cons.2 ⟨Yd.lasts_ex _, (List.forall_mem_cons.2 ⟨Yd.lasts_pr (fun v w w' h hb => by obtain ⟨A4, hv, hT⟩ := h; exact ⟨A4, hv, hT.later hb⟩), (List.forall_mem_cons.2 ⟨Yd.lasts_pr (fun v w w' h hb => by obtain ⟨A4, A9, hv, hT⟩ := h; exact ⟨A4, A9, hv, hT.later hb⟩), (List.forall_mem_cons.2 ⟨Yd.lasts_pr (fun v w w' h hb => by obtain ⟨A4, A10, c10, hv, hT⟩ := h; exact ⟨A4, A10, c10, hv, hT.later hb⟩), (List.forall_mem_cons.2 ⟨Yd.lasts_ex _, (List.forall_mem_cons.2 ⟨Yd.lasts_ex _, (List.forall_mem_cons.2 ⟨Yd.lasts_pr (fun v w w' h hb => by obtain ⟨A4, A10, c10, hT⟩ := h; exact ⟨A4, A10, c10, hT.later hb⟩), (fun _ h => by cases h)⟩)⟩)⟩)⟩)⟩)⟩)⟩)⟩)⟩)⟩)⟩)⟩)⟩) ⟨?_, ?_, ?_, ?_, ?_, ?_, ?_, ?_, ?_, ?_, ?_, ?_, ?_, trivial⟩ ?_
    · intro e1 w1 c hlo hhi hb0 hp hun
      show Ops _ _ _ _ _ _ _
      refine Ops.mv_ptr rfl rfl rfl ?_
      refine Ops.nil ?_
      exact AfterN.dn rfl (Below.refl _ _) (by exact rfl)
    · intro e1 w1 c hlo hhi hb0 hp hun
      show Ops _ _ _ _ _ _ _
      refine Ops.mv_ptr rfl rfl rfl ?_
      refine Ops.nil ?_
      exact AfterN.dn rfl (Below.refl _ _) (by exact rfl)
    · intro e1 w1 c hlo hhi hb0 hp hun
      show Ops _ _ _ _ _ _ _
      replace hlo := le_of_lo hlo (b := 0) (by kernel_rfl)
      replace hhi := le_of_hi hhi (b := 0) (by kernel_rfl)
      obtain rfl : c = 0 := by omega
      have hb := hb0 rfl
      refine Ops.nilp (hB.below hb) (Nat.succ_pos _) rfl rfl ?_
      refine Ops.nil ?_
      exact AfterN.dn rfl (Below.refl _ _) (by exact rfl)
    · intro e1 w1 c hlo hhi hb0 hp hun
      show Ops _ _ _ _ _ _ _
      replace hlo := le_of_lo hlo (b := 0) (by kernel_rfl)
      replace hhi := le_of_hi hhi (b := 0) (by kernel_rfl)
      obtain rfl : c = 0 := by omega
      have hb := hb0 rfl
      refine Ops.fld (hB.below hb) rfl rfl rfl rfl inferInstance ?_
      refine Ops.nil ?_
      exact AfterN.dn rfl (Below.refl _ _) (by exact rfl)
    · intro e1 w1 c hlo hhi hb0 hp hun
      show Ops _ _ _ _ _ _ _
      replace hlo := le_of_lo hlo (b := 0) (by kernel_rfl)
      replace hhi := le_of_hi hhi (b := 0) (by kernel_rfl)
      obtain rfl : c = 0 := by omega
      have hb := hb0 rfl
      refine Ops.ldf_s (hB.below hb) rfl rfl rfl rfl rfl ?_
      refine Ops.nil ?_
      exact AfterN.dn rfl (Below.refl _ _) (by exact rfl)
    · intro e1 w1 c hlo hhi hb0 hp hun
      show Ops _ _ _ _ _ _ _
      replace hlo := le_of_lo hlo (b := 0) (by kernel_rfl)
      replace hhi := le_of_hi hhi (b := 0) (by kernel_rfl)
      obtain rfl : c = 0 := by omega
      have hb := hb0 rfl
      refine Ops.bs1I (St.refl _) rfl rfl rfl ?_
      intro A9 w9 hst
      refine Ops.nil ?_
      exact AfterN.dn rfl hst.below ⟨A9, rfl, (hS4.later hb).call hst⟩
    · intro e1 w1 c hlo hhi hb0 hp hun
      show Ops _ _ _ _ _ _ _
      refine Ops.mv_int rfl rfl rfl ?_
      refine Ops.nil ?_
      exact AfterN.dn rfl (Below.refl _ _) (by exact rfl)
    · intro e1 w1 c hlo hhi hb0 hp hun
      show Ops _ _ _ _ _ _ _
      replace hlo := le_of_lo hlo (b := 0) (by kernel_rfl)
      replace hhi := le_of_hi hhi (b := 0) (by kernel_rfl)
      obtain rfl : c = 0 := by omega
      have hb := hb0 rfl
      obtain ⟨A9, h17, hT⟩ := (hp 5 _ _ (by kernel_rfl) rfl rfl (by kernel_rfl))
      have hb := hb0 rfl
      refine Ops.call (Repeat_c A9 1 (-1) F _ (hT.rdI 0 rfl) (by omega)) rfl (by exact congrArg (fun v => [v, Value.int .i64 (F : Int)]) h17) rfl ?_
      rintro _ w2 ⟨A4, rfl, hst⟩
      refine Ops.nil ?_
      exact AfterN.dn rfl hst.below ⟨A4, rfl, hT.tail.call hst⟩
    · intro e1 w1 c hlo hhi hb0 hp hun
      show Ops _ _ _ _ _ _ _
      replace hlo := le_of_lo hlo (b := 0) (by kernel_rfl)
      replace hhi := le_of_hi hhi (b := 0) (by kernel_rfl)
      obtain rfl : c = 0 := by omega
      have hb := hb0 rfl
      obtain ⟨A4, h19, hT⟩ := (hp 7 _ _ (by kernel_rfl) rfl rfl (by kernel_rfl))
      have hb := hb0 rfl
      refine Ops.bs1R (St.refl _) (by exact h19) rfl rfl ?_
      intro A9 w9 hst
      refine Ops.nil ?_
      exact AfterN.dn rfl hst.below ⟨A4, A9, rfl, hT.call hst⟩
    · intro e1 w1 c hlo hhi hb0 hp hun
      show Ops _ _ _ _ _ _ _
      replace hlo := le_of_lo hlo (b := 0) (by kernel_rfl)
      replace hhi := le_of_hi hhi (b := 0) (by kernel_rfl)
      obtain rfl : c = 0 := by omega
      have hb := hb0 rfl
      obtain ⟨A4, A9, h20, hT⟩ := (hp 8 _ _ (by kernel_rfl) rfl rfl (by kernel_rfl))
      unfold rfK at hT
      refine Ops.appR 3 hT rfl (hT.rdR 0 rfl) rfl (by exact h20) rfl (by omega) (by omega) rfl ?_
      intro A10 c10 w10 hT10
      refine Ops.nil ?_
      exact AfterT.dn rfl ⟨A4, A10, c10, rfl, hT10.tail⟩
    · intro e1 w1 c hlo hhi hb0 hp hun
      show Ops _ _ _ _ _ _ _
      replace hlo := le_of_lo hlo (b := 1) (by kernel_rfl)
      replace hhi := le_of_hi hhi (b := 1) (by kernel_rfl)
      obtain rfl : c = 1 := by omega
      have hph := hp 9 _ _ (by kernel_rfl) rfl rfl (by kernel_rfl)
      obtain ⟨A4, A10, c10, h21, hT⟩ := hph
      refine Ops.nilp ((hT.rd 1 rfl)) (Nat.succ_pos _) rfl rfl ?_
      refine Ops.nil ?_
      exact AfterN.dn rfl (Below.refl _ _) (by exact rfl)
    · intro e1 w1 c hlo hhi hb0 hp hun
      show Ops _ _ _ _ _ _ _
      replace hlo := le_of_lo hlo (b := 1) (by kernel_rfl)
      replace hhi := le_of_hi hhi (b := 1) (by kernel_rfl)
      obtain rfl : c = 1 := by omega
      have hph := hp 9 _ _ (by kernel_rfl) rfl rfl (by kernel_rfl)
      obtain ⟨A4, A10, c10, h21, hT⟩ := hph
      refine Ops.fld ((hT.rd 1 rfl)) rfl rfl rfl rfl inferInstance ?_
      refine Ops.nil ?_
      exact AfterN.dn rfl (Below.refl _ _) (by exact rfl)
    · intro e1 w1 c hlo hhi hb0 hp hun
      show Ops _ _ _ _ _ _ _
      replace hlo := le_of_lo hlo (b := 1) (by kernel_rfl)
      replace hhi := le_of_hi hhi (b := 1) (by kernel_rfl)
      obtain rfl : c = 1 := by omega
      have hph := hp 9 _ _ (by kernel_rfl) rfl rfl (by kernel_rfl)
      obtain ⟨A4, A10, c10, h21, hT⟩ := hph
      refine Ops.stf 1 hT rfl rfl (by exact h21) rfl rfl ?_
      intro w11 hT11
      refine Ops.nil ?_
      exact AfterT.st rfl ⟨A4, A10, c10, hT11⟩
    intro u w5 _ hu
    obtain ⟨A4, A10, c10, hT⟩ := hu 12 _ rfl (by kernel_rfl)
    refine blockQ_n ?_
    refine thenQ_n ?_
    refine Cd.region ?_
    refine Ops.add rfl rfl rfl (by omega) ?_
    refine Ops.mv_int rfl rfl rfl ?_
    refine Ops.nil ?_
    refine thenQ_n ?_
    -- stop: round
    refine ⟨(k + 1, A10, c10, rs ++ [⟨A4, F, F⟩]), by show n - (k + 1) < n - k; omega, ⟨rfl, rfl, rfl, rfl, trivial⟩, ?_, hk', by simp [hlen]⟩
    show St w w5 (_ :: CkR _ A10 (k + 1) c10 (rs ++ [_]) :: rowsCk _ (rs ++ [_]) (List.replicate (k + 1) (List.replicate F (-1))))
    rw [List.replicate_succ', rowsCk_append (by simp [hlen])]
    refine hT.perm ?_
    exact List.perm_append_comm (l₁ := [_]) (l₂ := _ :: _ :: rowsCk 2 rs (List.replicate k (List.replicate F (-1))))
  · have hkn : k = n := by omega
    subst hkn
    have hI := Inv.blank (n := k) (F := F) (by omega) (by omega)
    have hfe := growI_forms (F * k + 1) hI
    have hS5 : St w w4 (bdK Ab A3 k c3 F 1 none 0 0 [] rs (blank k F) []) := by
      have := (hS4.nil 32).perm (List.Perm.swap _ _ _)
      unfold bdK
      rw [List.append_nil]
      exact this
    refine Cd.exit ?_
    refine thenQ_x ?_
    refine thenQ_x ?_
    refine blockQ_x ?_
    refine thenQ_n ?_
    refine Cd.seq ?_
    refine Cd.region ?_
    refine Ops.mv_ptr rfl rfl rfl ?_
    -- stop: CALL impl.builder).build(t25, 0, 0) -> 26
    refine Ops.call (build_c k F (by omega) ⟨by omega, by omega⟩ Ab A3 c3 rs (F * k + 1) 0 1 (blank k F) hI (by omega) w w4 [] none 0 0 [] 0 0 (by omega) (by omega) hS5 (by rw [hfe]; have := forms_small hn hF (F * k + 1); omega)) rfl rfl rfl ?_
    rintro _ w6 ⟨A', c', new, rfl, hok, hx, hS6⟩
    rw [hfe] at hx
    rw [Nat.zero_add, List.nil_append] at hS6
    unfold bdK at hS6
    refine Ops.nil ?_
    refine thenQ_n ?_
    refine Cd.seq ?_
    refine Cd.region ?_
    refine Ops.mv_ptr rfl rfl rfl ?_
    -- stop: NILCHECK t27 -> 28
    refine Ops.nilp (hS6.rd 0 rfl) (Nat.succ_pos _) rfl rfl ?_
    refine Ops.fld (hS6.rd 0 rfl) rfl rfl rfl rfl inferInstance ?_
    refine Ops.ldf_s (hS6.rd 0 rfl) rfl rfl rfl rfl rfl ?_
    refine Ops.mv_sl rfl rfl rfl ?_
    refine Ops.nil ?_
    refine thenQ_n ?_
    refine Cd.ret ?_
    refine ret1_s rfl ?_
    -- stop: end
    refine ⟨A', c', new, rfl, hok, hx, ?_⟩
    refine hS6.sub ?_
    rw [List.append_nil]
    exact (List.Sublist.cons_cons _ (List.sublist_append_right _ _)).cons _

theorem implCountRooted_c (rank flags : Int) (w : World) : Ret Try.prog 16 [.int .i64 rank, .int .i64 flags] w (fun v w' => v = .tuple #[.int .i64 (cnt1 rank flags), .int .i64 (cnt2 rank flags)] ∧ St w w' []) := by
  refine Ret.of_cd Try.func16 rfl Try.ntmps16 rfl (post2 rfl) ?_
  refine Cd.seq ?_
  refine Cd.region ?_
  refine Ops.mv_int rfl rfl rfl ?_
  refine Ops.mv_int rfl rfl rfl ?_
  refine Ops.nil ?_
  refine thenQ_n ?_
  refine Cd.seq ?_
  refine Cd.seq ?_
  refine Cd.region ?_
  refine Ops.mv_int rfl rfl rfl ?_
  refine Ops.mv_int rfl rfl rfl ?_
  -- stop: CALL impl.isSmall(t6, t7) -> 8
  refine Ops.call (isSmall_c rank flags _) rfl rfl rfl ?_
  rintro _ w ⟨rfl, rfl⟩
  first | refine Ops.not_p rfl rfl ?_ | refine Ops.not rfl rfl ?_
  refine Ops.nil ?_
  refine thenQ_n ?_
  -- stop: cond
  refine Cd.cond_p _ rfl (fun h => ?_) (fun h => ?_)
  · have hs : ¬ Small rank flags := h
    refine Cd.seq ?_
    refine Cd.region ?_
    refine Ops.mv_int rfl rfl rfl ?_
    refine Ops.mv_int rfl rfl rfl ?_
    refine Ops.nil ?_
    refine thenQ_n ?_
    refine Cd.ret ?_
    refine thenQ_r ?_
    refine ret2_ii rfl rfl ?_
    -- stop: end
    exact ⟨by rw [cnt1, cnt2, if_neg hs, if_neg hs], St.refl _⟩
  · have hs : Small rank flags := Classical.not_not.1 h
    obtain ⟨n, rfl⟩ : ∃ n : Nat, rank = n := ⟨rank.toNat, by have := hs.1; omega⟩
    obtain ⟨F, rfl⟩ : ∃ F : Nat, flags = F := ⟨flags.toNat, by have := hs.2; omega⟩
    have hs1 := hs.1
    have hs2 := hs.2
    refine Cd.skip ?_
    refine thenQ_n ?_
    refine Cd.seq ?_
    refine Cd.region ?_
    refine Ops.mv_int rfl rfl rfl ?_
    refine Ops.mv_int rfl rfl rfl ?_
    -- stop: CALL impl.rootedForms(t10, t11) -> 12
    refine Ops.call (rootedForms_c n F (by omega) (by omega) _) rfl rfl rfl ?_
    rintro _ w2 ⟨A', c', new, rfl, hok, hx, hS⟩
    refine Ops.call (sizeM_c _ _ _ _) rfl rfl rfl ?_
    rintro _ w2 ⟨rfl, rfl⟩
    refine Ops.mv_int rfl rfl rfl ?_
    refine Ops.mv_int rfl rfl rfl ?_
    refine Ops.nil ?_
    refine thenQ_n ?_
    refine Cd.ret ?_
    refine ret2_ii rfl rfl ?_
    -- stop: end
    refine ⟨?_, hS.none⟩
    rw [cnt1, cnt2, if_pos hs, if_pos hs, Int.toNat_natCast, Int.toNat_natCast, ← hx, List.length_map]

theorem FnExactCountRooted_c (rank flags : Int) (w : World) : Ret Try.prog 3 [.int .i64 rank, .int .i64 flags] w (fun v w' => v = .bool true ∧ St w w' []) := by
  refine Ret.of_cd Try.func3 rfl Try.ntmps3 rfl (post1 rfl) ?_
  refine Cd.seq ?_
  refine Cd.region ?_
  refine Ops.mv_bool rfl rfl rfl ?_
  refine Ops.nil ?_
  refine thenQ_n ?_
  refine Cd.seq ?_
  refine Cd.region ?_
  refine Ops.mv_int rfl rfl rfl ?_
  refine Ops.mv_int rfl rfl rfl ?_
  -- stop: CALL spec.CountRooted(t10, t11) -> 12
  refine Ops.call (specCountRooted_c rank flags _) rfl rfl rfl ?_
  rintro _ w1 ⟨rfl, hS1⟩
  refine Ops.mv_tup rfl rfl rfl ?_
  refine Ops.extract rfl rfl rfl ?_
  refine Ops.extract rfl rfl rfl ?_
  refine Ops.mv_int rfl rfl rfl ?_
  refine Ops.mv_int rfl rfl rfl ?_
  refine Ops.nil ?_
  refine thenQ_n ?_
  refine Cd.seq ?_
  refine Cd.region ?_
  refine Ops.mv_int rfl rfl rfl ?_
  refine Ops.mv_int rfl rfl rfl ?_
  -- stop: CALL impl.CountRooted(t16, t17) -> 18
  refine Ops.call (implCountRooted_c rank flags _) rfl rfl rfl ?_
  rintro _ w2 ⟨rfl, hS2⟩
  refine Ops.mv_tup rfl rfl rfl ?_
  refine Ops.extract rfl rfl rfl ?_
  refine Ops.extract rfl rfl rfl ?_
  refine Ops.mv_int rfl rfl rfl ?_
  refine Ops.mv_int rfl rfl rfl ?_
  refine Ops.nil ?_
  refine thenQ_n ?_
  refine Cd.seq ?_
  refine Cd.seq ?_
  refine Cd.region ?_
  refine Ops.mv_int rfl rfl rfl ?_
  refine Ops.mv_int rfl rfl rfl ?_
  refine Ops.neq rfl rfl rfl ?_
  refine Ops.mv_bool rfl rfl rfl ?_
  -- stop: guard 24
  refine Ops.split_p 24 rfl (fun h => absurd rfl h) (fun h => ?_) --f
  refine Ops.rung rfl rfl rfl ?_
  refine Ops.mv_int rfl rfl rfl ?_
  refine Ops.rung rfl rfl rfl ?_
  refine Ops.mv_int rfl rfl rfl ?_
  refine Ops.rung rfl rfl rfl ?_
  refine Ops.neq rfl rfl rfl ?_
  refine Ops.pick_f rfl rfl rfl ?_
  refine Ops.nil ?_
  refine thenQ_n ?_
  -- stop: cond
  refine Cd.cond_pf rfl (fun h => h rfl) ?_
  refine Cd.skip ?_
  refine thenQ_n ?_
  refine Cd.seq ?_
  refine Cd.region ?_
  refine Ops.mv_bool rfl rfl rfl ?_
  refine Ops.nil ?_
  refine thenQ_n ?_
  refine Cd.ret ?_
  refine ret1_b rfl ?_
  -- stop: end
  exact ⟨rfl, (hS1.later hS2.below).none⟩
end Go.Proofs.Ytpdhjnacnmfbjaa.Vc
