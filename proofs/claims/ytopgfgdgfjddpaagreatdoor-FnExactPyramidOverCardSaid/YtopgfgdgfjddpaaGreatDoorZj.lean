/-
  The texts Ps2, Ps3, Pu2, Pu3, Pu4, Pu5, Pu6, Pu7, Anx, D6, Lx0, Pv1, Pv2, Pw1, Pv3, Pv4, Lx3, Lx4, Lx5 in one. Conditions: as each part states them.
-/
import Derived.Test.YtopgfgdgfjddpaaGreatDoorZi
import Derived.Test.YtopgfgdgfjddpaaGreatDoorZb
import Derived.Test.YtopgfgdgfjddpaaGreatDoorZf
import Derived.Test.YtopgfgdgfjddpaaGreatDoorZc
import Derived.Test.YtopgfgdgfjddpaaGreatDoorZe
import Derived.Test.YtopgfgdgfjddpaaGreatDoorZh
/-
 The product of the faces of two polytopes, walked in the program.
-/
namespace Go.Proofs.YtopgfgdgfjddpaaGreatDoor.Vc
open Go.RowKit
def AnsPr (k : Nat) (RL : List Int) (BL : List (List Int)) (w : World) (v : Value) (w' : World) : Prop := ((5 < k ∨ 500 < RL.length) ∧ v = .tuple #[.agg #[.int .i64 0, .slice none 0 0, .slice none 0 0], .int .i64 3] ∧ St w w' []) ∨ ((k ≤ 5 ∧ RL.length ≤ 500) ∧ ∃ AR c AD d rs, v = .tuple #[.agg #[.int .i64 (k : Int), .slice AR RL.length c, .slice AD RL.length d], .int .i64 0] ∧ rs.length = RL.length ∧ BL.length = RL.length ∧ St w w' (CkI 2 AR RL.length c RL :: (mat 32 2 AD RL.length d rs BL ++ [])))
abbrev fcB (A : Option Addr) (vs : List Value) : Ck := Bx 100 4 A vs
theorem St.nilT {w0 w : World} {ks : List Ck} (t : TypeId) (h : St w0 w ks) : St w0 w (CkT t Option.none 0 0 [] :: ks) := h.nil t
theorem filter_lt {P : Int → Prop} [DecidablePred P] {n i : Nat} (h : i ≤ n) : ((rngI n).filter fun f => decide (f < (i : Int) ∧ P f)) = (rngI i).filter fun f => decide (P f) := by
 refine SA.eq (List.Pairwise.filter _ (rngI_SA _)) (List.Pairwise.filter _ (rngI_SA _)) fun y => ?_
 rw [List.mem_filter, List.mem_filter, rngI_mem, rngI_mem, decide_eq_true_eq, decide_eq_true_eq]
 exact ⟨fun h => ⟨by omega, h.2.2⟩, fun h => ⟨by omega, by omega, h.2⟩⟩
section
variable (N1 N2 : Nat) (B1 B2 : List (List Int)) (L : List (Int × Int))
def beP (i e : Nat) : List Int := (rngI e).filter fun f => decide (UndP N1 B1 (gp L f).1 (gp L (i : Int)).1 ∧ UndP N2 B2 (gp L f).2 (gp L (i : Int)).2)
theorem beP_next (i e : Nat) : beP N1 N2 B1 B2 L i (e + 1) = if UndP N1 B1 (gp L (e : Int)).1 (gp L (i : Int)).1 ∧ UndP N2 B2 (gp L (e : Int)).2 (gp L (i : Int)).2 then beP N1 N2 B1 B2 L i e ++ [(e : Int)] else beP N1 N2 B1 B2 L i e := by
 unfold beP
 rw [rngI_snoc, List.filter_append]
 by_cases c : UndP N1 B1 (gp L (e : Int)).1 (gp L (i : Int)).1 ∧ UndP N2 B2 (gp L (e : Int)).2 (gp L (i : Int)).2
 ·rw [if_pos c]; simp [c.1, c.2]
 rw [if_neg c]
 rw [List.filter_cons_of_neg (by simpa using c), List.filter_nil, List.append_nil]
theorem beP_all {i : Nat} (h : i ≤ L.length) : beP N1 N2 B1 B2 L i i = prBe (UndP N1 B1) (UndP N2 B2) L (i : Int) := by
 unfold beP prBe
 exact (filter_lt (P := fun f => UndP N1 B1 (gp L f).1 (gp L (i : Int)).1 ∧ UndP N2 B2 (gp L f).2 (gp L (i : Int)).2) h).symm
theorem beP_len (i e : Nat) : (beP N1 N2 B1 B2 L i e).length ≤ e := by
 refine Nat.le_trans (List.length_filter_le _ _) ?_
 rw [rngI, List.length_map, List.length_range]; exact Nat.le_refl _
def prBt (i : Nat) : List (List Int) := (rngI i).map (prBe (UndP N1 B1) (UndP N2 B2) L)
theorem prBt_next (i : Nat) : prBt N1 N2 B1 B2 L (i + 1) = prBt N1 N2 B1 B2 L i ++ [prBe (UndP N1 B1) (UndP N2 B2) L (i : Int)] := by
 unfold prBt
 rw [rngI_snoc, List.map_append]; rfl
theorem prBt_len (i : Nat) : (prBt N1 N2 B1 B2 L i).length = i := by simp [prBt, rngI]
end
abbrev pgK (Ap : Option Addr) (n cp : Nat) (ds : List TV) (A10 A6 A4 A3 : Option Addr) (k : Int) (v4 v3 : List Value) : List Ck :=
 [CkT 153 Ap n cp ds, poB A10 k none 0 0 none 0 0, poB A6 0 none 0 0 none 0 0, fcB A4 v4, fcB A3 v3]
abbrev pdK (AR : Option Addr) (i cR : Nat) (rl : List Int) (A10 : Option Addr) (k : Int) (AD : Option Addr) (cD : Nat) (Ap : Option Addr) (n cp : Nat) (ds : List TV) (A6 A4 A3 : Option Addr) (v4 v3 : List Value) (rsD : List SlV) (B : List (List Int)) : List Ck :=
 CkI 2 AR i cR rl :: poB A10 k AR i cR AD i cD :: CkT 153 Ap n cp ds :: poB A6 0 none 0 0 none 0 0 :: fcB A4 v4 :: fcB A3 v3 :: (mat 32 2 AD i cD rsD B ++ [])
theorem perm_i {α : Type} (q1 q2 q3 q4 q5 q6 q7 : α) : [q1, q2, q3, q4, q5, q6, q7].Perm [q1, q4, q3, q5, q6, q7, q2] := by
 classical
 refine List.perm_iff_count.2 fun z => ?_
 simp only [List.count_cons, List.count_nil]
 omega
theorem perm_h {α : Type} (b d : α) (q1 q2 q3 q4 q5 q6 q7 : α) (X : List α) : (b :: d :: q1 :: q2 :: q3 :: q4 :: q5 :: q6 :: q7 :: (X ++ [])).Perm (d :: q1 :: q2 :: q3 :: q4 :: q5 :: q6 :: q7 :: ((X ++ [b]) ++ [])) := by
 classical
 refine List.perm_iff_count.2 fun z => ?_
 simp only [List.count_append, List.count_cons, List.count_nil]
 omega
set_option maxHeartbeats 8000000 in
theorem product_c (A8 B8 : Option Addr) (c8 d8 : Nat) (q1 q2 : Int) (AR0 BR : Option Addr) (r1 r2 cR0 dR : Nat) (AD0 BD : Option Addr) (N1 N2 cD0 dD : Nat) (X1 X2 : List Int) (rs1 rs2 : List SlV) (B1 B2 : List (List Int)) (n1 n2 kind : Int) (k : Nat) (w : World) (hF1 : FcR w A8 X1 N1 AD0 rs1 B1) (hF2 : FcR w B8 X2 N2 BD rs2 B2) (hL1 : Lat (N1 + 2) n1 (gi X1) (UndP N1 B1)) (hL2 : Lat (N2 + 2) n2 (gi X2) (UndP N2 B2)) (hk : 0 ≤ kind ∧ kind ≤ 2) (hkn : (k : Int) = rnP n1 n2 kind) (hn1 : n1 ≤ 5) (hn2 : n2 ≤ 5) :
  Ret Tryz.prog 115 [.agg #[.slice A8 (N1 + 2) c8, .int .i64 q1, .slice AR0 r1 cR0, .slice AD0 N1 cD0], .agg #[.slice B8 (N2 + 2) d8, .int .i64 q2, .slice BR r2 dR, .slice BD N2 dD], .int .i64 kind] w (AnsPr k ((prL (N1 + 2) (N2 + 2) (gi X1) (gi X2) kind k).map (rkP (gi X1) (gi X2) kind)) (prB (UndP N1 B1) (UndP N2 B2) (prL (N1 + 2) (N2 + 2) (gi X1) (gi X2) kind k)) w) := by
 have hb1 := hF1.big; have hb2 := hF2.big
 have hx1 := hF1.len; have hx2 := hF2.len
 have hg1 := fun (a : Int) h => hL1.rng (a := a) h
 have hg2 := fun (a : Int) h => hL2.rng (a := a) h
 have ht1 := hL1.rt; have ht2 := hL2.rt
 have hn10 := hL1.n0; have hn20 := hL2.n0
 have e1 : (((N1 + 2 : Nat) : Int) - 1) = (N1 : Int) + 1 := by omega
 have e2 : (((N2 + 2 : Nat) : Int) - 1) = (N2 : Int) + 1 := by omega
 have hkr : (k : Int) = n1 + n2 + (if kind = 0 then 1 else 0) := by rw [hkn]; unfold rnP; split <;> omega
 refine Ret.of_cd Tryz.func115 O Tryz.ntmps115 O (postc2 O O) (Gbo O (Ops.boxQ (St.refl w) O O ?_))
 intro A3 w1 hS1
 refine Ops.boxQ hS1 O O ?_
 intro A4 w2 hS2
 refine Ops.newP hS2 O ?_
 intro A6 w3 hS3
 obtain ⟨v3, hv3⟩ : ∃ v3, v3 = fcV A8 (N1 + 2) c8 q1 AR0 r1 cR0 AD0 N1 cD0 := ⟨_, rfl⟩
 obtain ⟨v4, hv4⟩ : ∃ v4, v4 = fcV B8 (N2 + 2) d8 q2 BR r2 dR BD N2 dD := ⟨_, rfl⟩
 have hS3 : St w w3 [poB A6 0 none 0 0 none 0 0, fcB A4 v4, fcB A3 v3] := by rw [hv3, hv4]; exact hS3
 clear hS2 hS1
 have hp3 : ∀ {w' : World} {ks : List Ck} (i : Nat), St w w' ks → ks[i]? = some (fcB A3 v3) → Rd w' A3 4 (fun j => (fcV A8 (N1 + 2) c8 q1 AR0 r1 cR0 AD0 N1 cD0).getD j undef) := fun i h hk => by
  have := h.rd i hk
  rw [hv3] at this
  exact this
 have hp4 : ∀ {w' : World} {ks : List Ck} (i : Nat), St w w' ks → ks[i]? = some (fcB A4 v4) → Rd w' A4 4 (fun j => (fcV B8 (N2 + 2) d8 q2 BR r2 dR BD N2 dD).getD j undef) := fun i h hk => by
  have := h.rd i hk
  rw [hv4] at this
  exact this
 have hR3 := hp3 2 hS3 O
 have hR4 := hp4 1 hS3 O
 have hx3 := (hF1.later hS3.below).rk
 have hx4 := (hF2.later hS3.below).rk
 refine Gdc O ?_
 refine Cd.draw [xP (ptrAt (A3) 0), xS (A8) (N1 + 2) (c8), xI (((N1 + 2 : Nat) : Int)), xI ((((N1 + 2 : Nat) : Int)) - ((1 : Int))), xP (ptrAt (A4) 0), xS (B8) (N2 + 2) (d8), xI (((N2 + 2 : Nat) : Int)), xI ((((N2 + 2 : Nat) : Int)) - ((1 : Int))), xI ((((N1 + 2 : Nat) : Int)) - ((1 : Int))), xI ((((N2 + 2 : Nat) : Int)) - ((1 : Int)))] (by kernel_rfl) (by kernel_rfl) O (exL O) ?_ ?_
 ·exact ⟨fun _ _ hb _ _ => Ops.fld (hR3.below hb) O O O O inferInstance (Az O), fun _ _ hb _ _ => Ops.ldf_s (hR3.below hb) O O O O O (Az O), fun _ _ _ _ _ => Ops.len O O (Az O), fun _ _ _ _ _ => Ops.sub O O O (by omega) (Az O), fun _ _ hb _ _ => Ops.fld (hR4.below hb) O O O O inferInstance (Az O), fun _ _ hb _ _ => Ops.ldf_s (hR4.below hb) O O O O O (Az O), fun _ _ _ _ _ => Ops.len O O (Az O), fun _ _ _ _ _ => Ops.sub O O O (by omega) (Az O), Dr O, Dr O, trivial⟩
 intro u w4 hb4 _
 have hS4 := hS3.later hb4
 have hR3 := Rd.below hR3 hb4; have hR4 := Rd.below hR4 hb4
 have hx3 := hx3.later hb4; have hx4 := hx4.later hb4
 have g1 : gi X1 (((N1 + 2 : Nat) : Int) - 1) = n1 := ht1
 have g2 : gi X2 (((N2 + 2 : Nat) : Int) - 1) = n2 := ht2
 refine Gec O ?_
 refine Cd.drawP [13] [yP (ptrAt (A3) 0), yS (A8) (N1 + 2) (c8), yI (((((N1 + 2 : Nat) : Int) - 1))), yP (ptrAt (A8) (((((N1 + 2 : Nat) : Int) - 1))).toNat), yI (gi (X1) (((((N1 + 2 : Nat) : Int) - 1)))), yP (ptrAt (A4) 0), yS (B8) (N2 + 2) (d8), yI (((((N2 + 2 : Nat) : Int) - 1))), yP (ptrAt (B8) (((((N2 + 2 : Nat) : Int) - 1))).toNat), yI (gi (X2) (((((N2 + 2 : Nat) : Int) - 1)))), yI ((gi (X1) (((((N1 + 2 : Nat) : Int) - 1)))) + (gi (X2) (((((N2 + 2 : Nat) : Int) - 1))))), .ex (.agg #[.int .i64 (gi X1 (((N1 + 2 : Nat) : Int) - 1) + gi X2 (((N2 + 2 : Nat) : Int) - 1)), .slice none 0 0, .slice none 0 0]), .pr (fun v w' => ∃ A10, v = .pointer A10 ∧ St w w' (poB A10 0 none 0 0 none 0 0 :: [poB A6 0 none 0 0 none 0 0, fcB A4 v4, fcB A3 v3])), .p2 12 (fun a v w' => ∃ A10, a = .pointer A10 ∧ St w w' (poB A10 (gi X1 (((N1 + 2 : Nat) : Int) - 1) + gi X2 (((N2 + 2 : Nat) : Int) - 1)) none 0 0 none 0 0 :: [poB A6 0 none 0 0 none 0 0, fcB A4 v4, fcB A3 v3]))] (by kernel_rfl) (by kernel_rfl) (ly (ly (ly (ly (ly (ly (ly (ly (ly (ly (ly (ly (List.forall_mem_cons.2 ⟨Ye.lasts_pr (fun v w w' h hb => by obtain ⟨A9, hv, hT⟩ := h; exact ⟨A9, hv, hT.later hb⟩), (List.forall_mem_cons.2 ⟨Ye.lasts_p2 (fun a v w w' h hb => by obtain ⟨A10, hv, hT⟩ := h; exact ⟨A10, hv, hT.later hb⟩), (fun _ h => by cases h)⟩)⟩))))))))))))) ?_ ?_
 ·refine ⟨cP fun _ _ hb _ _ _ => Ops.fld (hR3.below hb) O O O O inferInstance (AzP O O), cP fun _ _ hb _ _ _ => Ops.ldf_s (hR3.below hb) O O O O O (AzP O O), DrP O, cP fun _ _ hb _ _ _ => Ops.idx (hx3.later hb).2 O O O (by omega) (by omega) (AzP O O), cP fun _ _ hb _ _ _ => Ops.ld_int (hx3.later hb) O (by omega) O O (AzP O O), cP fun _ _ hb _ _ _ => Ops.fld (hR4.below hb) O O O O inferInstance (AzP O O), cP fun _ _ hb _ _ _ => Ops.ldf_s (hR4.below hb) O O O O O (AzP O O), DrP O, cP fun _ _ hb _ _ _ => Ops.idx (hx4.later hb).2 O O O (by omega) (by omega) (AzP O O), cP fun _ _ hb _ _ _ => Ops.ld_int (hx4.later hb) O (by omega) O O (AzP O O), aP fun _ _ => Ops.add O O O (by omega) (AzP O O), aP fun _ _ => Ops.bldP1 (by exact inferInstance) (by exact inferInstance) (by exact inferInstance) O O O O O O (AzP O O), ?_, ?_, trivial⟩
  ·refine cP fun e1 w1 hb hp hun hq => ?_
   refine Ops.newP (St.refl _) O ?_
   intro A9 w9 hst
   refine Ops.n ?_
   exact AfterP.dn O hst.below ⟨A9, O, (hS4.later hb).call hst⟩
  refine cPT fun e1 w1 hb hp hun hq => ?_
  obtain ⟨A10, h10, hT⟩ := (hp 12 _ _ (by kernel_rfl) rfl rfl (by kernel_rfl))
  refine Ops.st_agg 3 0 hT O (by exact h10) O O O O O ?_
  intro w9 hS9
  refine Ops.n ?_
  exact AfterU.st O ⟨A10, h10, hS9⟩
 intro u2 w5 _ _ hu2 _
 obtain ⟨A10, h10, hS5⟩ := hu2 13 12 _ rfl (by kernel_rfl)
 rw [g1, g2] at hS5
 refine Qk_ext (F := [(2, .int .i64 kind), (3, .pointer A3), (4, .pointer A4), (6, .pointer A6), (8, .int .i64 (((N1 + 2 : Nat) : Int) - 1)), (9, .int .i64 (((N2 + 2 : Nat) : Int) - 1)), (10, .pointer A10)]) ⟨O, O, O, O, O, O, h10, trivial⟩ ?_
 clear hx3 hx4 hR3 hR4 hS4 hS3
 refine Gej 0 O ?_
 refine Cd.join (α := Unit) (fun _ => [(2, .int .i64 kind), (3, .pointer A3), (4, .pointer A4), (6, .pointer A6), (8, .int .i64 (((N1 + 2 : Nat) : Int) - 1)), (9, .int .i64 (((N2 + 2 : Nat) : Int) - 1)), (10, .pointer A10)]) (fun _ w' => St w w' (poB A10 k none 0 0 none 0 0 :: [poB A6 0 none 0 0 none 0 0, fcB A4 v4, fcB A3 v3])) ?_ ?_
 ·refine Gbc O ?_
  refine Cd.cond_p _ O (fun h1 => ?_) (fun h1 => ?_)
  ·refine Gao O (Ops.fld (hS5.rd 0 O) O O O O inferInstance (Ops.ldf_i (j := 0) (hS5.rd 0 O) (by exact congrArg Value.pointer O) O O O O (Ops.add O O O (by omega) (Ops.fld (hS5.rd 0 O) O O O O inferInstance (Ops.stf 0 (j := 0) hS5 O O O O O ?_)))))
   intro w6 hS6
   refine Gdn O (tQ ?_)
   exact ⟨(), ⟨O, O, O, O, O, O, O, trivial⟩, by rw [hkr, if_pos h1]; exact hS6⟩
  refine Gan O (tQ ?_)
  exact ⟨(), ⟨O, O, O, O, O, O, O, trivial⟩, by rw [hkr, if_neg h1, Int.add_zero]; exact hS5⟩
 clear hS5
 rintro _ e w6 hS6
 refine Gao O (Ops.fld (hS6.rd 0 O) O O O O inferInstance (Ops.ldf_i (j := 0) (hS6.rd 0 O) (by exact congrArg Value.pointer O) O O O O (Gdc O ?_)))
 refine Cd.cond_p _ O (fun h1 => ?_) (fun h1 => ?_)
 ·refine Gao O (Ops.bldP0 (by exact inferInstance) (by exact inferInstance) (by exact inferInstance) O (Ops.st_agg 3 1 hS6 O O O O O O O ?_))
  intro w7 hS7
  refine Gdr O (retc2_r O (hS7.rd 1 O) O ?_)
  exact .inl ⟨.inl (by omega), O, hS7.none⟩
 have hk5 : k ≤ 5 := by omega
 have hS7 := hS6.nilT 153
 have hR3 := hp3 3 hS6 O
 refine Gao O (Ops.fld hR3 O O O O inferInstance (Ops.ldf_s (j := 0) hR3 (by exact congrArg Value.pointer O) O O O O ?_))
 refine Ops.len O O (Gdc O ?_)
 refine Cd.loop (α := Nat × Option Addr × Nat) (fun z => [(2, .int .i64 kind), (3, .pointer A3), (4, .pointer A4), (6, .pointer A6), (8, .int .i64 (((N1 + 2 : Nat) : Int) - 1)), (9, .int .i64 (((N2 + 2 : Nat) : Int) - 1)), (10, .pointer A10), (11, .slice z.2.1 (alP (N1 + 2) (N2 + 2) kind z.1 0).length z.2.2), (56, .slice A8 (N1 + 2) c8), (57, .int .i64 ((N1 + 2 : Nat) : Int)), (58, .int .i64 (z.1 : Int))]) (fun z w' => z.1 ≤ N1 + 2 ∧ St w w' (pgK z.2.1 (alP (N1 + 2) (N2 + 2) kind z.1 0).length z.2.2 ((alP (N1 + 2) (N2 + 2) kind z.1 0).map (tvP (gi X1) (gi X2) kind)) A10 A6 A4 A3 k v4 v3)) (fun z => N1 + 2 - z.1) (0, none, 0) ⟨O, O, O, O, O, O, O, O, O, O, O, trivial⟩ ⟨Nat.zero_le _, hS7⟩ ?_
 clear hS7 hS6 hR3
 rintro ⟨a, Ap, cp⟩ e w7 ⟨ha, hS⟩
 dsimp only at ha hS ⊢
 refine Gbc O ?_
 refine Cd.cond_p _ O (fun h2 => ?_) (fun h2 => ?_)
 ·have haN : a < N1 + 2 := by omega
  have hx3 := (hF1.later hS.below).rk
  have hR4 := hp4 3 hS O
  have ga := hg1 (a : Int) (by omega)
  refine Gao O (Ops.idx hx3.2 O O O (by omega) (by omega) (Ops.ld_int hx3 O (by omega) O O (Gdo O (Ops.fld hR4 O O O O inferInstance (Ops.ldf_s (j := 0) hR4 (by exact congrArg Value.pointer O) O O O O ?_)))))
  refine Ops.len O O (Gdc O ?_)
  refine Cd.loop (α := Nat × Option Addr × Nat) (fun z => [(2, .int .i64 kind), (3, .pointer A3), (4, .pointer A4), (6, .pointer A6), (8, .int .i64 (((N1 + 2 : Nat) : Int) - 1)), (9, .int .i64 (((N2 + 2 : Nat) : Int) - 1)), (10, .pointer A10), (11, .slice z.2.1 (alP (N1 + 2) (N2 + 2) kind a z.1).length z.2.2), (56, .slice A8 (N1 + 2) c8), (57, .int .i64 ((N1 + 2 : Nat) : Int)), (58, .int .i64 (a : Int)), (12, .int .i64 (a : Int)), (13, .int .i64 (gi X1 (a : Int))), (64, .slice B8 (N2 + 2) d8), (65, .int .i64 ((N2 + 2 : Nat) : Int)), (66, .int .i64 (z.1 : Int))]) (fun z w' => z.1 ≤ N2 + 2 ∧ St w w' (pgK z.2.1 (alP (N1 + 2) (N2 + 2) kind a z.1).length z.2.2 ((alP (N1 + 2) (N2 + 2) kind a z.1).map (tvP (gi X1) (gi X2) kind)) A10 A6 A4 A3 k v4 v3)) (fun z => N2 + 2 - z.1) (0, Ap, cp) ⟨O, O, O, O, O, O, O, O, O, O, O, O, O, O, O, O, trivial⟩ ⟨Nat.zero_le _, hS⟩ ?_
  clear hS hx3 hR4
  rintro ⟨b, Ap, cp⟩ e w8 ⟨hb, hS⟩
  dsimp only at hb hS ⊢
  refine Gbc O ?_
  refine Cd.cond_p _ O (fun h3 => ?_) (fun h3 => ?_)
  ·have hbN : b < N2 + 2 := by omega
   have hx4 := (hF2.later hS.below).rk
   have gb := hg2 (b : Int) (by omega)
   have hal := alP_len (m1 := N1 + 2) (m2 := N2 + 2) (kind := kind) a b (by omega)
   have hsq : a * (N2 + 2) ≤ 502 * 502 := Nat.mul_le_mul (by omega) (by omega)
   refine Gao O (Ops.idx hx4.2 O O O (by omega) (by omega) (Ops.ld_int hx4 O (by omega) O O ?_))
   refine Gdo O (Ops.add O O O (by omega) (Ops.add O O O (by omega) ?_))
   refine Ops.bldT (v := ⟨(a : Int), (b : Int), gi X1 (a : Int) + gi X2 (b : Int) + 1⟩) (by exact inferInstance) (by exact inferInstance) (by exact inferInstance) O O O O O O O (Ops.newP hS O ?_)
   intro A16 w9 hS9
   refine Ops.st_agg 3 0 hS9 O O O O O O O ?_
   intro w10 hS10
   have hS10 : St w w10 (Bx 153 3 A16 [.int .i64 (a : Int), .int .i64 (b : Int), .int .i64 (gi X1 (a : Int) + gi X2 (b : Int) + 1)] :: pgK Ap (alP (N1 + 2) (N2 + 2) kind a b).length cp ((alP (N1 + 2) (N2 + 2) kind a b).map (tvP (gi X1) (gi X2) kind)) A10 A6 A4 A3 k v4 v3) := hS10
   refine Gdj 0 O ?_
   refine Cd.join (α := Unit) (fun _ => [(2, .int .i64 kind), (3, .pointer A3), (4, .pointer A4), (6, .pointer A6), (8, .int .i64 (((N1 + 2 : Nat) : Int) - 1)), (9, .int .i64 (((N2 + 2 : Nat) : Int) - 1)), (10, .pointer A10), (11, .slice Ap (alP (N1 + 2) (N2 + 2) kind a b).length cp), (56, .slice A8 (N1 + 2) c8), (57, .int .i64 ((N1 + 2 : Nat) : Int)), (58, .int .i64 (a : Int)), (12, .int .i64 (a : Int)), (13, .int .i64 (gi X1 (a : Int))), (64, .slice B8 (N2 + 2) d8), (65, .int .i64 ((N2 + 2 : Nat) : Int)), (66, .int .i64 (b : Int)), (14, .int .i64 (b : Int)), (16, .pointer A16), (17, .bool (decide ((a : Int) = 0 ∧ (b : Int) = 0))), (18, .bool (decide ((a : Int) = ((N1 + 2 : Nat) : Int) - 1 ∧ (b : Int) = ((N2 + 2 : Nat) : Int) - 1)))]) (fun _ w' => w' = w10) ?_ ?_
   ·refine Gbo O ?_
    refine Ops.split_p 80 O (fun p1 => ?_) (fun p1 => ?_)
    ·refine Ops.g O O O (Gdo O (Ops.g O O O (Gdo O ?_)))
     refine Ops.split_p 87 O (fun p2 => ?_) (fun p2 => ?_)
     ·refine Ops.g O O O (Gdo O (Ops.g O O O (Gdo O (Ops.g O O O (Gdn O (tQ ?_))))))
      exact ⟨(), ⟨O, O, O, O, O, O, O, O, O, O, O, O, O, O, O, O, O, O, congrArg Value.bool (decide_eq_decide.2 ⟨fun h => ⟨p1, h⟩, fun h => h.2⟩), congrArg Value.bool (decide_eq_decide.2 ⟨fun h => ⟨p2, h⟩, fun h => h.2⟩), trivial⟩, O⟩
     refine Ops.k O O O O O (Ops.k O O O O O (Ops.k O O O O O (Gdn O (tQ ?_))))
     exact ⟨(), ⟨O, O, O, O, O, O, O, O, O, O, O, O, O, O, O, O, O, O, congrArg Value.bool (decide_eq_decide.2 ⟨fun h => ⟨p1, h⟩, fun h => h.2⟩), congrArg Value.bool (decide_eq_false fun h => p2 h.1).symm, trivial⟩, O⟩
    refine Ops.k O O O O O (Ops.k O O O O O (Gdo O ?_))
    refine Ops.split_p 87 O (fun p2 => ?_) (fun p2 => ?_)
    ·refine Ops.g O O O (Gdo O (Ops.g O O O (Gdo O (Ops.g O O O (Gdn O (tQ ?_))))))
     exact ⟨(), ⟨O, O, O, O, O, O, O, O, O, O, O, O, O, O, O, O, O, O, congrArg Value.bool (decide_eq_false fun h => p1 h.1).symm, congrArg Value.bool (decide_eq_decide.2 ⟨fun h => ⟨p2, h⟩, fun h => h.2⟩), trivial⟩, O⟩
    refine Ops.k O O O O O (Ops.k O O O O O (Ops.k O O O O O (Gdn O (tQ ?_))))
    exact ⟨(), ⟨O, O, O, O, O, O, O, O, O, O, O, O, O, O, O, O, O, O, congrArg Value.bool (decide_eq_false fun h => p1 h.1).symm, congrArg Value.bool (decide_eq_false fun h => p2 h.1).symm, trivial⟩, O⟩
   rintro _ e w11 rfl
   refine Cd.join (α := Unit) (fun _ => [(2, .int .i64 kind), (3, .pointer A3), (4, .pointer A4), (6, .pointer A6), (8, .int .i64 (((N1 + 2 : Nat) : Int) - 1)), (9, .int .i64 (((N2 + 2 : Nat) : Int) - 1)), (10, .pointer A10), (11, .slice Ap (alP (N1 + 2) (N2 + 2) kind a b).length cp), (56, .slice A8 (N1 + 2) c8), (57, .int .i64 ((N1 + 2 : Nat) : Int)), (58, .int .i64 (a : Int)), (12, .int .i64 (a : Int)), (13, .int .i64 (gi X1 (a : Int))), (64, .slice B8 (N2 + 2) d8), (65, .int .i64 ((N2 + 2 : Nat) : Int)), (66, .int .i64 (b : Int)), (14, .int .i64 (b : Int)), (16, .pointer A16), (17, .bool (decide ((a : Int) = 0 ∧ (b : Int) = 0))), (18, .bool (decide ((a : Int) = ((N1 + 2 : Nat) : Int) - 1 ∧ (b : Int) = ((N2 + 2 : Nat) : Int) - 1))), (19, .bool (decide (((a : Int) = 0 ∧ (b : Int) = 0) ∨ ((a : Int) = ((N1 + 2 : Nat) : Int) - 1 ∧ (b : Int) = ((N2 + 2 : Nat) : Int) - 1))))]) (fun _ w' => w' = w11) ?_ ?_
   ·refine Gbo O ?_
    refine Ops.split_p 93 O (fun p1 => ?_) (fun p1 => ?_)
    ·refine Ops.k O O O O O (Gdn O (tQ ?_))
     exact ⟨(), ⟨O, O, O, O, O, O, O, O, O, O, O, O, O, O, O, O, O, O, O, O, congrArg Value.bool (decide_eq_true (.inl p1)).symm, trivial⟩, O⟩
    refine Ops.g O O O (Gdn O (tQ ?_))
    exact ⟨(), ⟨O, O, O, O, O, O, O, O, O, O, O, O, O, O, O, O, O, O, O, O, congrArg Value.bool (decide_eq_decide.2 ⟨fun h => .inr h, fun h => h.resolve_left p1⟩), trivial⟩, O⟩
   rintro _ e w12 rfl
   have hLf1 : kind = 1 → (LftP (N1 + 2) (N2 + 2) kind (a : Int) (b : Int) ↔ ((a : Int) = 0 ∨ (b : Int) = 0 ∨ ((a : Int) = ((N1 + 2 : Nat) : Int) - 1 ∧ (b : Int) = ((N2 + 2 : Nat) : Int) - 1))) := fun h => by unfold LftP; rw [if_pos h]
   have hLf2 : kind = 2 → (LftP (N1 + 2) (N2 + 2) kind (a : Int) (b : Int) ↔ ((a : Int) = ((N1 + 2 : Nat) : Int) - 1 ∨ (b : Int) = ((N2 + 2 : Nat) : Int) - 1 ∨ ((a : Int) = 0 ∧ (b : Int) = 0))) := fun h => by unfold LftP; rw [if_neg (by omega), if_pos h]
   have hLf0 : ¬ kind = 1 → ¬ kind = 2 → (LftP (N1 + 2) (N2 + 2) kind (a : Int) (b : Int) ↔ (((a : Int) = 0 ∧ (b : Int) = 0) ∨ ((a : Int) = ((N1 + 2 : Nat) : Int) - 1 ∧ (b : Int) = ((N2 + 2 : Nat) : Int) - 1))) := fun h h' => by unfold LftP; rw [if_neg h, if_neg h']
   have erk1 : kind = 1 → rkP (gi X1) (gi X2) kind ((a : Int), (b : Int)) = gi X1 (a : Int) + gi X2 (b : Int) + 1 - 1 := fun h => by unfold rkP shP; rw [if_pos h]; show gi X1 (a : Int) + gi X2 (b : Int) + 0 = _; omega
   have erk2 : ¬ kind = 1 → rkP (gi X1) (gi X2) kind ((a : Int), (b : Int)) = gi X1 (a : Int) + gi X2 (b : Int) + 1 := fun h => by unfold rkP shP; rw [if_neg h]
   refine Cd.join (α := Unit) (fun _ => [(2, .int .i64 kind), (3, .pointer A3), (4, .pointer A4), (6, .pointer A6), (8, .int .i64 (((N1 + 2 : Nat) : Int) - 1)), (9, .int .i64 (((N2 + 2 : Nat) : Int) - 1)), (10, .pointer A10), (11, .slice Ap (alP (N1 + 2) (N2 + 2) kind a b).length cp), (56, .slice A8 (N1 + 2) c8), (57, .int .i64 ((N1 + 2 : Nat) : Int)), (58, .int .i64 (a : Int)), (12, .int .i64 (a : Int)), (13, .int .i64 (gi X1 (a : Int))), (64, .slice B8 (N2 + 2) d8), (65, .int .i64 ((N2 + 2 : Nat) : Int)), (66, .int .i64 (b : Int)), (14, .int .i64 (b : Int)), (16, .pointer A16), (19, .bool (decide (LftP (N1 + 2) (N2 + 2) kind (a : Int) (b : Int))))]) (fun _ w' => St w w' (Bx 153 3 A16 [.int .i64 (a : Int), .int .i64 (b : Int), .int .i64 (rkP (gi X1) (gi X2) kind ((a : Int), (b : Int)))] :: pgK Ap (alP (N1 + 2) (N2 + 2) kind a b).length cp ((alP (N1 + 2) (N2 + 2) kind a b).map (tvP (gi X1) (gi X2) kind)) A10 A6 A4 A3 k v4 v3)) ?_ ?_
   ·refine Gbc O ?_
    refine Cd.cond_p _ O (fun k1 => ?_) (fun k1 => ?_)
    ·refine Gao O ?_
     refine Ops.split_p 101 O (fun p1 => ?_) (fun p1 => ?_)
     ·refine Ops.k O O O O O (Ops.k O O O O O (Gdo O (Ops.k O O O O O (Gdo O ?_))))
      refine Ops.fld (hS10.rd 0 O) O O O O inferInstance (Ops.ldf_i (j := 2) (hS10.rd 0 O) (by exact congrArg Value.pointer O) O O O O (Ops.sub O O O (by omega) (Ops.fld (hS10.rd 0 O) O O O O inferInstance (Ops.stf 0 (j := 2) hS10 O O O O O ?_))))
      intro w13 hS13
      refine Gdn O (tQ ?_)
      exact ⟨(), ⟨O, O, O, O, O, O, O, O, O, O, O, O, O, O, O, O, O, O, congrArg Value.bool ((decide_eq_true ((hLf1 k1).2 (.inl p1))).symm), trivial⟩, by rw [erk1 k1]; exact hS13⟩
     refine Ops.g O O O (Gdo O (Ops.g O O O (Gdo O ?_)))
     refine Ops.split_p 105 O (fun p2 => ?_) (fun p2 => ?_)
     ·refine Ops.k O O O O O (Gdo O ?_)
      refine Ops.fld (hS10.rd 0 O) O O O O inferInstance (Ops.ldf_i (j := 2) (hS10.rd 0 O) (by exact congrArg Value.pointer O) O O O O (Ops.sub O O O (by omega) (Ops.fld (hS10.rd 0 O) O O O O inferInstance (Ops.stf 0 (j := 2) hS10 O O O O O ?_))))
      intro w13 hS13
      refine Gdn O (tQ ?_)
      exact ⟨(), ⟨O, O, O, O, O, O, O, O, O, O, O, O, O, O, O, O, O, O, congrArg Value.bool ((decide_eq_true ((hLf1 k1).2 (.inr (.inl p2)))).symm), trivial⟩, by rw [erk1 k1]; exact hS13⟩
     refine Ops.g O O O (Gdo O ?_)
     refine Ops.fld (hS10.rd 0 O) O O O O inferInstance (Ops.ldf_i (j := 2) (hS10.rd 0 O) (by exact congrArg Value.pointer O) O O O O (Ops.sub O O O (by omega) (Ops.fld (hS10.rd 0 O) O O O O inferInstance (Ops.stf 0 (j := 2) hS10 O O O O O ?_))))
     intro w13 hS13
     refine Gdn O (tQ ?_)
     exact ⟨(), ⟨O, O, O, O, O, O, O, O, O, O, O, O, O, O, O, O, O, O, congrArg Value.bool (decide_eq_decide.2 ⟨fun h => (hLf1 k1).2 (.inr (.inr h)), fun h => (((hLf1 k1).1 h).resolve_left p1).resolve_left p2⟩), trivial⟩, by rw [erk1 k1]; exact hS13⟩
    refine Gac O ?_
    refine Cd.cond_p _ O (fun k2 => ?_) (fun k2 => ?_)
    ·refine Gao O ?_
     refine Ops.split_p 117 O (fun p1 => ?_) (fun p1 => ?_)
     ·refine Ops.k O O O O O (Ops.k O O O O O (Ops.k O O O O O (Gdo O (Ops.k O O O O O (Gdn O (tQ ?_))))))
      exact ⟨(), ⟨O, O, O, O, O, O, O, O, O, O, O, O, O, O, O, O, O, O, congrArg Value.bool (decide_eq_true ((hLf2 k2).2 (.inl p1))).symm, trivial⟩, by rw [erk2 k1]; exact hS10⟩
     refine Ops.g O O O (Gdo O (Ops.g O O O (Gdo O (Ops.g O O O (Gdo O ?_)))))
     refine Ops.split_p 122 O (fun p2 => ?_) (fun p2 => ?_)
     ·refine Ops.k O O O O O (Gdn O (tQ ?_))
      exact ⟨(), ⟨O, O, O, O, O, O, O, O, O, O, O, O, O, O, O, O, O, O, congrArg Value.bool (decide_eq_true ((hLf2 k2).2 (.inr (.inl p2)))).symm, trivial⟩, by rw [erk2 k1]; exact hS10⟩
     refine Ops.g O O O (Gdn O (tQ ?_))
     exact ⟨(), ⟨O, O, O, O, O, O, O, O, O, O, O, O, O, O, O, O, O, O, congrArg Value.bool (decide_eq_decide.2 ⟨fun h => (hLf2 k2).2 (.inr (.inr h)), fun h => (((hLf2 k2).1 h).resolve_left p1).resolve_left p2⟩), trivial⟩, by rw [erk2 k1]; exact hS10⟩
    refine Gan O (tQ ?_)
    exact ⟨(), ⟨O, O, O, O, O, O, O, O, O, O, O, O, O, O, O, O, O, O, congrArg Value.bool (decide_eq_decide.2 (hLf0 k1 k2).symm), trivial⟩, by rw [erk2 k1]; exact hS10⟩
   rintro _ e w13 hS13
   refine Gao O ?_
   first | refine Ops.not_p rfl rfl ?_ | refine Ops.not rfl rfl ?_
   refine Gdc O ?_
   refine Cd.cond_p _ O (fun h5 => ?_) (fun h5 => ?_)
   ·have hput := alP_put (m1 := N1 + 2) (m2 := N2 + 2) h5
    refine Gao O (Ops.ld_agg 2 (hS13.rd 0 O) O O O (Ops.bs1_T (v := tvP (gi X1) (gi X2) kind ((a : Int), (b : Int))) hS13 O O O ?_))
    intro A9 w14 hS14
    refine Ops.appT 2 hS14 O (hS14.rdT 0 O) O O O (by omega) (by omega) O ?_
    intro AZ cZ w15 hS15
    have hS15 := hS15.tail.tail
    refine Gdo O (Ops.add O O O (by omega) (Gdn O (tQ ?_)))
    refine ⟨(b + 1, AZ, cZ), by show N2 + 2 - (b + 1) < N2 + 2 - b; omega, ⟨O, O, O, O, O, O, O, ?_, O, O, O, O, O, O, O, O, trivial⟩, by show b + 1 ≤ N2 + 2; omega, ?_⟩
    ·show Value.slice _ _ _ = Value.slice _ _ _
     rw [hput, List.length_append]; rfl
    show St w w15 (pgK AZ (alP _ _ kind a (b + 1)).length cZ _ _ _ _ _ _ _ _)
    rw [hput, List.length_append, List.map_append]; exact hS15
   have hskip := alP_skip (m1 := N1 + 2) (m2 := N2 + 2) (Classical.not_not.1 h5)
   refine Gao O (Ops.add O O O (by omega) (Gdn O (tQ ?_)))
   refine ⟨(b + 1, Ap, cp), by show N2 + 2 - (b + 1) < N2 + 2 - b; omega, ⟨O, O, O, O, O, O, O, ?_, O, O, O, O, O, O, O, O, trivial⟩, by show b + 1 ≤ N2 + 2; omega, ?_⟩
   ·show Value.slice _ _ _ = Value.slice _ _ _
    rw [hskip]
   show St w w13 (pgK Ap (alP _ _ kind a (b + 1)).length cp _ _ _ _ _ _ _ _)
   rw [hskip]; exact hS13.tail
  have hbe : b = N2 + 2 := by omega
  subst hbe
  refine Gax O (thenQ_x (Gfo O (Ops.add O O O (by omega) (Gdn O (tQ ?_)))))
  refine ⟨(a + 1, Ap, cp), by show N1 + 2 - (a + 1) < N1 + 2 - a; omega, ⟨O, O, O, O, O, O, O, ?_, O, O, O, trivial⟩, by show a + 1 ≤ N1 + 2; omega, ?_⟩
  ·show Value.slice _ _ _ = Value.slice _ _ _
   rw [alP_row]
  show St w w8 (pgK Ap (alP _ _ kind (a + 1) 0).length cp _ _ _ _ _ _ _ _)
  rw [alP_row]; exact hS
 obtain rfl : a = N1 + 2 := by omega
 have hperm := alP_perm hL1 hL2 hk hkn (show N2 + 2 ≤ 1000 by omega)
 have hpl := hperm.length_eq
 have hall := alP_all (N1 + 2) (N2 + 2) kind (gi X1) (gi X2) (by omega) (by omega)
 have hsort := fun (ds : List TV) hp hs => sorted_prL hL1 hL2 hk hkn (show N1 + 2 ≤ 1000 by omega) (show N2 + 2 ≤ 1000 by omega) (ds := ds) hp hs
 have hall2 := hall.2
 rw [List.length_map] at hall2
 have hal := alP_len (m1 := N1 + 2) (m2 := N2 + 2) (kind := kind) (N1 + 2) 0 (by omega)
 have hsq : (N1 + 2) * (N2 + 2) ≤ 502 * 502 := Nat.mul_le_mul (by omega) (by omega)
 have hdl : ((alP (N1 + 2) (N2 + 2) kind (N1 + 2) 0).map (tvP (gi X1) (gi X2) kind)).length = (alP (N1 + 2) (N2 + 2) kind (N1 + 2) 0).length := List.length_map _
 have hel := fun (c : Int × Int) => (prL_mem (m1 := N1 + 2) (m2 := N2 + 2) (rk1 := gi X1) (rk2 := gi X2) (kind := kind) (k := k) (c := c))
 generalize alP (N1 + 2) (N2 + 2) kind (N1 + 2) 0 = PA at *
 generalize prL (N1 + 2) (N2 + 2) (gi X1) (gi X2) kind k = PL at *
 refine Gax O (thenQ_x (Gfo O (Ops.len O O (Gdc O ?_))))
 refine Cd.cond_p _ O (fun h3 => ?_) (fun h3 => ?_)
 ·refine Gao O (Ops.bldP0 (by exact inferInstance) (by exact inferInstance) (by exact inferInstance) O (Ops.st_agg 3 2 hS O O O O O O O ?_))
  intro w8 hS8
  refine Gdr O (retc2_r O (hS8.rd 2 O) O ?_)
  exact .inl ⟨.inr (by rw [List.length_map]; omega), O, hS8.none⟩
 have hP5 : PL.length ≤ 500 := by omega
 refine Gao O (Ops.call (TS.sortStable_c (by omega) hall.1 hall2 hS) O O O ?_)
 rintro _ w8 ⟨rfl, ds', hpm, hSR, hS8⟩
 have hdl' : ds'.length = PA.length := by rw [hpm.length_eq, hdl]
 obtain rfl := hsort ds' hpm (by rw [hdl']; exact hSR)
 clear hS
 rw [hpl] at hS8 ⊢
 obtain ⟨ds, hds⟩ : ∃ ds, PL.map (tvP (gi X1) (gi X2) kind) = ds := ⟨_, rfl⟩
 have hdsl : ds.length = PL.length := by rw [← hds, List.length_map]
 rw [hds] at hS8
 have htv := fun i (h : i < PL.length) => tg_map (tvP (gi X1) (gi X2) kind) PL h
 rw [hds] at htv
 have hin : ∀ i : Nat, i < PL.length → ((0 ≤ (gp PL (i : Int)).1 ∧ (gp PL (i : Int)).1 < (N1 : Int) + 2) ∧ (0 ≤ (gp PL (i : Int)).2 ∧ (gp PL (i : Int)).2 < (N2 : Int) + 2)) ∧ 0 ≤ rkP (gi X1) (gi X2) kind (gp PL (i : Int)) ∧ rkP (gi X1) (gi X2) kind (gp PL (i : Int)) ≤ 5 := fun i h => by
  have hm : gp PL (i : Int) ∈ PL := by rw [gp_mem h]; exact List.getElem_mem _
  obtain ⟨j, hj, hE⟩ := (hel _).1 hm
  have h9 := hE.2.2.1
  refine ⟨⟨⟨hE.1.1, ?_⟩, hE.2.1.1, ?_⟩, by omega, by omega⟩
  ·have := hE.1.2; omega
  have := hE.2.1.2; omega
 have hrl : ∀ i : Nat, i < PL.length → (PL.map (rkP (gi X1) (gi X2) kind)).take (i + 1) = (PL.map (rkP (gi X1) (gi X2) kind)).take i ++ [rkP (gi X1) (gi X2) kind (gp PL (i : Int))] := fun i h => by
  rw [take_snoc (by rw [List.length_map]; exact h)]
  congr 2
  rw [gi_mem (by rw [List.length_map]; exact h), List.getElem_map, gp_mem h]
 have hbt := fun i => prBt_next N1 N2 B1 B2 PL i
 have hbl := fun i => prBt_len N1 N2 B1 B2 PL i
 have hba := fun i (h : i ≤ PL.length) => beP_all N1 N2 B1 B2 PL h
 have hbn := fun i e => beP_next N1 N2 B1 B2 PL i e
 have hbe := fun i e => beP_len N1 N2 B1 B2 PL i e
 have hS9 : St w w8 (pdK none 0 0 ((PL.map (rkP (gi X1) (gi X2) kind)).take 0) A10 k none 0 Ap PL.length cp ds A6 A4 A3 v4 v3 [] (prBt N1 N2 B1 B2 PL 0)) := by
  have h9 := (hS8.nil 32).nil 2
  exact h9.perm (perm_i _ _ _ _ _ _ _)
 clear hS8 hSR hpm hdl' hsort hall hall2 hal hdl hperm h3
 refine Gdo O (Ops.len O O (Gdc O ?_))
 refine Cd.loop (α := Nat × (Option Addr × Nat) × (Option Addr × Nat) × List SlV) (fun z => [(3, .pointer A3), (4, .pointer A4), (6, .pointer A6), (10, .pointer A10), (11, .slice Ap PL.length cp), (139, .slice Ap PL.length cp), (140, .int .i64 (PL.length : Int)), (141, .int .i64 (z.1 : Int))]) (fun z w' => z.1 ≤ PL.length ∧ z.2.2.2.length = z.1 ∧ St w w' (pdK z.2.1.1 z.1 z.2.1.2 ((PL.map (rkP (gi X1) (gi X2) kind)).take z.1) A10 k z.2.2.1.1 z.2.2.1.2 Ap PL.length cp ds A6 A4 A3 v4 v3 z.2.2.2 (prBt N1 N2 B1 B2 PL z.1))) (fun z => PL.length - z.1) (0, (none, 0), (none, 0), []) ⟨O, O, O, O, O, O, O, O, trivial⟩ ⟨Nat.zero_le _, O, hS9⟩ ?_
 clear hS9
 rintro ⟨i, ⟨AR, cR⟩, ⟨AD, cD⟩, rsD⟩ e w9 ⟨hi, hrD, hS⟩
 dsimp only at hi hrD hS ⊢
 refine Gbc O ?_
 refine Cd.cond_p _ O (fun h3 => ?_) (fun h3 => ?_)
 ·have hiL : i < PL.length := by omega
  have hI := hin i hiL
  have hRT := hS.rdT 2 O
  refine Gao O (Ops.idxT hRT O O O (by omega) (by omega) (Ops.ld_tv hRT O (by omega) O ?_))
  rw [htv i hiL]
  refine Ops.newP hS O ?_
  intro A21 w10 hS10
  refine Gdo O (Ops.st_agg 3 0 hS10 O O O O O O O ?_)
  intro w11 hS11
  obtain ⟨ci, hci⟩ : ∃ ci, gp PL (i : Int) = ci := ⟨_, rfl⟩
  have hrli := hrl i hiL
  have hbai := hba i hi
  have hbni := hbn i
  have hbti := hbt i
  rw [hci] at hS11 hrli hI
  have hS11 : St w w11 (Bx 153 3 A21 [.int .i64 ci.1, .int .i64 ci.2, .int .i64 (rkP (gi X1) (gi X2) kind ci)] :: pdK AR i cR ((PL.map (rkP (gi X1) (gi X2) kind)).take i) A10 k AD cD Ap PL.length cp ds A6 A4 A3 v4 v3 rsD (prBt N1 N2 B1 B2 PL i)) := hS11
  clear hS10 hS hRT
  refine Gdo O (Ops.fld (hS11.rd 2 O) O O O O inferInstance (Ops.ldf_s (j := 1) (hS11.rd 2 O) (by exact congrArg Value.pointer O) O O O O (Ops.fld (hS11.rd 0 O) O O O O inferInstance (Ops.ldf_i (j := 2) (hS11.rd 0 O) (by exact congrArg Value.pointer O) O O O O (Ops.bs1I hS11 O O O ?_)))))
  intro A9 w12 hS12
  refine Ops.appI 2 hS12 O (hS12.rdI 0 O) O O O (by omega) (by omega) O ?_
  intro AQ cQ w13 hS13
  refine Ops.fld (hS13.rd 3 O) O O O O inferInstance (Ops.stf 3 (j := 1) hS13 O O O O O ?_)
  intro w14 hS14
  have hS14 := hS14.tail
  have hS14 : St w w14 (Bx 153 3 A21 [.int .i64 ci.1, .int .i64 ci.2, .int .i64 (rkP (gi X1) (gi X2) kind ci)] :: CkI 2 AQ (i + 1) cQ ((PL.map (rkP (gi X1) (gi X2) kind)).take (i + 1)) :: poB A10 k AQ (i + 1) cQ AD i cD :: CkT 153 Ap PL.length cp ds :: poB A6 0 none 0 0 none 0 0 :: fcB A4 v4 :: fcB A3 v3 :: (mat 32 2 AD i cD rsD (prBt N1 N2 B1 B2 PL i) ++ [])) := by rw [hrli]; exact hS14
  have hcapT := hS14.capT 3 O
  clear hS13 hS12 hS11
  refine Gdo O (Ops.cut_hT (h := (i : Int)) O O O (by omega) ?_)
  refine Ops.len O O (Gdc O ?_)
  rw [Int.toNat_natCast]
  have hS15 := hS14.nil 2
  refine Cd.loop (α := Nat × Option Addr × Nat) (fun z => [(3, .pointer A3), (4, .pointer A4), (6, .pointer A6), (10, .pointer A10), (11, .slice Ap PL.length cp), (139, .slice Ap PL.length cp), (140, .int .i64 (PL.length : Int)), (141, .int .i64 (i : Int)), (20, .int .i64 (i : Int)), (21, .pointer A21), (22, .slice z.2.1 (beP N1 N2 B1 B2 PL i z.1).length z.2.2), (155, .slice Ap i cp), (156, .int .i64 (i : Int)), (157, .int .i64 (z.1 : Int))]) (fun z w' => z.1 ≤ i ∧ St w w' (CkI 2 z.2.1 (beP N1 N2 B1 B2 PL i z.1).length z.2.2 (beP N1 N2 B1 B2 PL i z.1) :: Bx 153 3 A21 [.int .i64 ci.1, .int .i64 ci.2, .int .i64 (rkP (gi X1) (gi X2) kind ci)] :: CkI 2 AQ (i + 1) cQ ((PL.map (rkP (gi X1) (gi X2) kind)).take (i + 1)) :: poB A10 k AQ (i + 1) cQ AD i cD :: CkT 153 Ap PL.length cp ds :: poB A6 0 none 0 0 none 0 0 :: fcB A4 v4 :: fcB A3 v3 :: (mat 32 2 AD i cD rsD (prBt N1 N2 B1 B2 PL i) ++ []))) (fun z => i - z.1) (0, none, 0) ⟨O, O, O, O, O, O, O, O, O, O, O, O, O, O, trivial⟩ ⟨Nat.zero_le _, hS15⟩ ?_
  clear hS15 hS14
  rintro ⟨q, Ab, cb⟩ e w15 ⟨hq, hS⟩
  dsimp only at hq hS ⊢
  have hbq := hbe i q
  refine Gbc O ?_
  refine Cd.cond_p _ O (fun h4 => ?_) (fun h4 => ?_)
  ·have hqi : q < i := by omega
   have hJ := (hin q (by omega)).1
   have hRT := (hS.rdT 4 O).take (l := i) (by omega)
   have hbnq := hbni q
   have htq := htv q (by omega)
   rw [← tg_take ds hqi (by omega)] at htq
   obtain ⟨cq, hcq⟩ : ∃ cq, gp PL (q : Int) = cq := ⟨_, rfl⟩
   rw [hcq] at hJ htq hbnq
   rw [hci] at hbnq
   refine Gao O (Ops.idxT hRT O O O (by omega) (by omega) (Ops.ld_tv hRT O (by omega) O ?_))
   rw [htq]
   refine Ops.newP hS O ?_
   intro A24 w16 hS16
   refine Gdo O (Ops.st_agg 3 0 hS16 O O O O O O O ?_)
   intro w17 hS17
   have hS17 : St w w17 (Bx 153 3 A24 [.int .i64 cq.1, .int .i64 cq.2, .int .i64 (rkP (gi X1) (gi X2) kind cq)] :: CkI 2 Ab (beP N1 N2 B1 B2 PL i q).length cb (beP N1 N2 B1 B2 PL i q) :: Bx 153 3 A21 [.int .i64 ci.1, .int .i64 ci.2, .int .i64 (rkP (gi X1) (gi X2) kind ci)] :: CkI 2 AQ (i + 1) cQ ((PL.map (rkP (gi X1) (gi X2) kind)).take (i + 1)) :: poB A10 k AQ (i + 1) cQ AD i cD :: CkT 153 Ap PL.length cp ds :: poB A6 0 none 0 0 none 0 0 :: fcB A4 v4 :: fcB A3 v3 :: (mat 32 2 AD i cD rsD (prBt N1 N2 B1 B2 PL i) ++ [])) := hS17
   have hskip : ¬ (UndP N1 B1 cq.1 ci.1 ∧ UndP N2 B2 cq.2 ci.2) → beP N1 N2 B1 B2 PL i (q + 1) = beP N1 N2 B1 B2 PL i q := fun h => by rw [hbnq, if_neg h]
   clear hS16 hS
   refine Gdo O (Ops.fld (hS17.rd 0 O) O O O O inferInstance (Ops.ldf_i (j := 0) (hS17.rd 0 O) (by exact congrArg Value.pointer O) O O O O (Ops.fld (hS17.rd 2 O) O O O O inferInstance (Ops.ldf_i (j := 0) (hS17.rd 2 O) (by exact congrArg Value.pointer O) O O O O (Ops.call (isUnder_c A3 A8 c8 q1 AR0 r1 cR0 AD0 N1 cD0 X1 rs1 B1 cq.1 ci.1 _ (hp3 8 hS17 O) (hF1.later hS17.below) hJ.1 hI.1.1) O O O ?_)))))
   rintro _ w17 ⟨rfl, rfl⟩
   refine Gdo O ?_
   refine Ops.split_p 167 O (fun h5 => ?_) (fun h5 => ?_)
   ·refine Ops.g O O O (Ops.fld (hS17.rd 0 O) O O O O inferInstance (Ops.g O O O (Ops.ldf_i (j := 1) (hS17.rd 0 O) (by exact congrArg Value.pointer O) O O O O (Ops.g O O O (Ops.fld (hS17.rd 2 O) O O O O inferInstance (Ops.g O O O (Ops.ldf_i (j := 1) (hS17.rd 2 O) (by exact congrArg Value.pointer O) O O O O (Ops.g O O O (Ops.call (isUnder_c A4 B8 d8 q2 BR r2 dR BD N2 dD X2 rs2 B2 cq.2 ci.2 _ (hp4 7 hS17 O) (hF2.later hS17.below) hJ.2 hI.1.2) O O O ?_)))))))))
    rintro _ w17 ⟨rfl, rfl⟩
    refine Gdc O ?_
    refine Cd.cond_p _ O (fun h6 => ?_) (fun h6 => ?_)
    ·rw [if_pos ⟨h5, h6⟩] at hbnq
     refine Gao O (Ops.bs1I hS17 O O O ?_)
     intro A9 w18 hS18
     refine Ops.appI 2 hS18 O (hS18.rdI 0 O) O O O (by omega) (by omega) O ?_
     intro AZ cZ w19 hS19
     have hS19 := hS19.tail.tail
     refine Gdo O (Ops.add O O O (by omega) (Gdn O (tQ ?_)))
     refine ⟨(q + 1, AZ, cZ), by show i - (q + 1) < i - q; omega, ⟨O, O, O, O, O, O, O, O, O, O, ?_, O, O, O, trivial⟩, by show q + 1 ≤ i; omega, ?_⟩
     ·show Value.slice _ _ _ = Value.slice _ _ _
      rw [hbnq, List.length_append]; rfl
     show St w w19 (CkI _ AZ (beP N1 N2 B1 B2 PL i (q + 1)).length cZ _ :: _)
     rw [hbnq, List.length_append]; exact hS19
    have hsk := hskip (fun h => h6 h.2)
    refine Gao O (Ops.add O O O (by omega) (Gdn O (tQ ?_)))
    refine ⟨(q + 1, Ab, cb), by show i - (q + 1) < i - q; omega, ⟨O, O, O, O, O, O, O, O, O, O, ?_, O, O, O, trivial⟩, by show q + 1 ≤ i; omega, ?_⟩
    ·show Value.slice _ _ _ = Value.slice _ _ _
     rw [hsk]
    show St w w17 (CkI _ Ab (beP N1 N2 B1 B2 PL i (q + 1)).length cb _ :: _)
    rw [hsk]; exact hS17.tail
   have hsk := hskip (fun h => h5 h.1)
   refine Ops.k O O O O O (Ops.k O O O O O (Ops.k O O O O O (Ops.k O O O O O (Ops.k O O O O O (Gdc O ?_)))))
   refine Cd.cond_f O ?_
   refine Gao O (Ops.add O O O (by omega) (Gdn O (tQ ?_)))
   refine ⟨(q + 1, Ab, cb), by show i - (q + 1) < i - q; omega, ⟨O, O, O, O, O, O, O, O, O, O, ?_, O, O, O, trivial⟩, by show q + 1 ≤ i; omega, ?_⟩
   ·show Value.slice _ _ _ = Value.slice _ _ _
    rw [hsk]
   show St w w17 (CkI _ Ab (beP N1 N2 B1 B2 PL i (q + 1)).length cb _ :: _)
   rw [hsk]; exact hS17.tail
  obtain rfl : q = i := by omega
  rw [hbai] at hS ⊢
  refine Gax O (thenQ_x (Gfo O ?_))
  refine Ops.fld (hS.rd 3 O) O O O O inferInstance (Ops.ldf_s (j := 2) (hS.rd 3 O) (by exact congrArg Value.pointer O) O O O O (Gdo O (Ops.bs1R hS O O O ?_)))
  intro A9 w16 hS16
  refine Ops.appR 9 hS16 O (hS16.rdR 0 O) O O O (by omega) (by omega) O ?_
  intro AZ cZ w17 hS17
  refine Ops.fld (hS17.rd 4 O) O O O O inferInstance (Ops.stf 4 (j := 2) hS17 O O O O O ?_)
  intro w18 hS18
  have hS18 := hS18.tail
  have hS18 := (hS18.perm (perm_h _ _ _ _ _ _ _ _ _ _)).tail
  refine Gdo O (Ops.add O O O (by omega) (Gdn O (tQ ?_)))
  refine ⟨(q + 1, (AQ, cQ), (AZ, cZ), rsD ++ [⟨Ab, (prBe (UndP N1 B1) (UndP N2 B2) PL (q : Int)).length, cb⟩]), by show PL.length - (q + 1) < PL.length - q; omega, ⟨O, O, O, O, O, O, O, O, trivial⟩, by show q + 1 ≤ PL.length; omega, by show (rsD ++ [_]).length = q + 1; rw [List.length_append, hrD]; rfl, ?_⟩
  show St w w18 (pdK AQ (q + 1) cQ _ A10 k AZ cZ Ap PL.length cp ds A6 A4 A3 v4 v3 (rsD ++ [_]) (prBt N1 N2 B1 B2 PL (q + 1)))
  rw [hbti]
  unfold pdK mat
  rw [rowsCk_snoc (by rw [hrD, prBt_len])]
  exact hS18
 obtain rfl : i = PL.length := by omega
 refine Gax O (thenQ_x (Gfo O ?_))
 refine Ops.ld_agg 2 (hS.rd 1 O) O O O (Ops.st_agg 3 3 hS O O O O O O O ?_)
 intro w10 hS10
 refine Gdr O (retc2_r O (hS10.rd 3 O) O ?_)
 have hml : (PL.map (rkP (gi X1) (gi X2) kind)).length = PL.length := List.length_map _
 refine .inr ⟨⟨hk5, by omega⟩, AR, cR, AD, cD, rsD, by rw [hml]; rfl, by omega, by rw [hml]; exact prBt_len N1 N2 B1 B2 PL PL.length, ?_⟩
 rw [hml]
 have h9 := hS10.sub (show List.Sublist (CkI 2 AR PL.length cR ((PL.map (rkP (gi X1) (gi X2) kind)).take PL.length) :: (mat 32 2 AD PL.length cD rsD (prBt N1 N2 B1 B2 PL PL.length) ++ [])) _ from (((((List.Sublist.refl _).cons _).cons _).cons _).cons _).cons _ |>.cons_cons _)
 rw [List.take_of_length_le (by omega)] at h9
 exact h9
/-
 The product of two maniplexes' posets, walked in the program. Conditions: the library's table of powers of ten holds what the program's text lays there.
-/
abbrev rkM (M : List (List Int)) : Int → Int := gi (fcR M.length (fpR M M.length))
noncomputable abbrev unM (M : List (List Int)) : Int → Int → Prop := UndP (offP M M.length) (fpB M)
theorem latM {M : List (List Int)} (hM : Mani M) (h : offP M M.length ≤ 500) : Lat (offP M M.length + 2) M.length (rkM M) (unM M) := by
 have := lat_of (posP_of hM h)
 rwa [fpR_len] at this
theorem fcR_of {M : List (List Int)} {w w' : World} {A8 : Option Addr} {c8 : Nat} {AR : Option Addr} {cR : Nat} {AD : Option Addr} {cD : Nat} {rs : List SlV} {ks : List Ck} (hM : Mani M) (hb : offP M M.length ≤ 500) (h : St w w' (CkI 2 A8 (offP M M.length + 2) c8 (fcR M.length (fpR M M.length)) :: CkI 2 AR (offP M M.length) cR (fpR M M.length) :: (mat 32 2 AD (offP M M.length) cD rs (fpB M) ++ ks))) :
  FcR w' A8 (fcR M.length (fpR M M.length)) (offP M M.length) AD rs (fpB M) := by
 have hP := posP_of hM hb
 have hl := fpR_len M M.length
 refine ⟨by rw [fcR_len, hl], hb, h.rdI 0 O, ?_, fpB_len M, fun e h0 h1 => ?_⟩
 ·exact (h.sub (show (mat 32 2 AD (offP M M.length) cD rs (fpB M)).Sublist _ from ((List.sublist_append_left _ _).cons _).cons _)).rowsI1 (fpB_len M)
 have h2 := hP.at_ (e := e) h0 (by rw [hl]; exact h1)
 refine ⟨h2.1, ?_⟩
 have := nodup_le_int (N := (fpR M M.length).length) h2.1.nodup fun x hx => by have := (h2.2.1 x hx).1; omega
 omega
/-
 The reference's codes of products; what lies within what, walked.
-/
theorem l09Good_c (A : Option Addr) (n c : Nat) (rs : List SlV) (M : List (List Int)) (w : World) (hR : RowsI w A n rs M) (hn9 : n ≤ 9223372036854775807) (hM : Mani M) :
  Ret Tryz.prog 111 [.agg #[.slice A n c]] w (fun v w' => v = .int .i64 (gdC M) ∧ St w w' []) := by
 refine Ret.of_cd Tryz.func111 O Tryz.ntmps111 O (post1 O) (Gbo O (Ops.box1 (St.refl w) O O ?_))
 intro A1 w1 hS1
 refine Gdo O (Ops.ld_agg 0 (hS1.rd 0 O) O O O (Ops.call (l03Polytopal_c A n c rs M _ (hS1.oldRows hR) hn9 hM) O O O ?_))
 rintro _ w2 ⟨b, rfl, hb, hst⟩
 have hS2 := hS1.later hst.below
 rw [bool_dec b]
 refine Gdo O ?_
 refine Ops.split_p 12 O (fun h1 => ?_) (fun h1 => ?_)
 ·refine Ops.g O O O (Gdo O (Ops.g O O O ?_))
  first | refine Ops.not_p rfl rfl ?_ | refine Ops.not rfl rfl ?_
  refine Gdc O ?_
  refine Cd.cond_p _ O (fun h2 => ?_) (fun h2 => ?_)
  ·refine Gar O (ret1_i O ?_)
   exact ⟨by rw [gdC_bad hM h1 (fun h => h2 (hb.2 h))], hS2.none⟩
  refine Gar O (ret1_i O ?_)
  exact ⟨by rw [gdC_good hM (hb.1 (Classical.not_not.1 h2)), h1], hS2.none⟩
 refine Ops.k O O O O O (Ops.k O O O O O (Gdc O ?_))
 refine Cd.cond_f O (Gar O (ret1_i O ?_))
 exact ⟨by rw [gdC_lim hM h1, ptC_3 h1], hS2.none⟩
theorem l09Within_c (q : Int) (A8 : Option Addr) (m8 c8 : Nat) (Ab : Option Addr) (m cb : Nat) (rsb : List SlV) (BB : List (List Int)) (a b : Int) (w : World) (hB : RowsI w Ab m rsb BB) (hl : BB.length = m) (hb : 0 ≤ b ∧ b < (m : Int)) (hn : (gl BB b).length ≤ 1000000) :
  Ret Tryz.prog 167 [.agg #[.int .i64 q, .slice A8 m8 c8, .slice Ab m cb], .int .i64 a, .int .i64 b] w (fun v w' => v = .bool (decide (a = b ∨ a ∈ gl BB b)) ∧ St w w' []) := by
 refine Ret.of_cd Tryz.func167 O Tryz.ntmps167 O (post1 O) (Gbo O (Ops.box3T (St.refl w) O O ?_))
 intro A3 w1 hS1
 have h1 := hS1.rd 0 O
 have hB := hS1.oldRows hB
 have hro := hB.at_ (i := b) (by omega) (by omega)
 have hrn := hro.1
 refine Gdo O ?_
 refine Ops.split_p 10 O (fun h2 => ?_) (fun h2 => ?_)
 ·refine Ops.k O O O O O (Ops.k O O O O O (Ops.k O O O O O (Ops.k O O O O O (Ops.k O O O O O (Ops.k O O O O O (Ops.k O O O O O (Gdr O ?_)))))))
  refine ret1_b O ?_
  exact ⟨congrArg Value.bool (decide_eq_true (.inl h2)).symm, hS1.none⟩
 refine Ops.g O O O (Ops.fld h1 O O O O inferInstance (Ops.g O O O (Ops.ldf_s (j := 2) h1 (by exact congrArg Value.pointer O) O O O O ?_)))
 refine Ops.g O O O (Gdo O (Ops.g O O O ?_))
 refine Ops.idx hB.top.2 O O O (by omega) (by omega) (Ops.g O O O (Ops.ld_sl hB.top O (by omega) O O ?_))
 refine Ops.g O O O (Gdo O (Ops.g O O O ?_))
 refine Ops.call (l01Has_c _ _ _ (gl BB b) a _ hro (by omega)) O O O ?_
 rintro _ w2 ⟨rfl, rfl⟩
 refine Gdr O (ret1_b O ?_)
 exact ⟨congrArg Value.bool (decide_eq_decide.2 ⟨fun h => .inr h, fun h => h.resolve_left h2⟩), hS1.none⟩
/-
 All faces with what lies below them, as the reference builds them: plain parts.
-/
def alB (B : List (List Int)) (i : Nat) : List (List Int) := [] :: ((rngI i).map fun e => 0 :: (gl B e).map (· + 1))
def alBB (N : Nat) (B : List (List Int)) : List (List Int) := alB B N ++ [rngI (N + 1)]
theorem alB_len (B : List (List Int)) (i : Nat) : (alB B i).length = i + 1 := by simp [alB, rngI]
theorem alBB_len (N : Nat) (B : List (List Int)) : (alBB N B).length = N + 2 := by simp [alBB, alB_len]
theorem alB_next (B : List (List Int)) (i : Nat) : alB B (i + 1) = alB B i ++ [0 :: (gl B (i : Int)).map (· + 1)] := by
 unfold alB
 rw [rngI_snoc, List.map_append, List.cons_append]; rfl
theorem alBB_0 (N : Nat) (B : List (List Int)) : gl (alBB N B) 0 = [] := by simp [alBB, alB, gl]
theorem alBB_mid (N : Nat) (B : List (List Int)) {b : Int} (h0 : 0 < b) (h1 : b < (N : Int) + 1) : gl (alBB N B) b = 0 :: (gl B (b - 1)).map (· + 1) := by
 obtain ⟨k, rfl⟩ : ∃ k : Nat, b = ((k + 1 : Nat) : Int) := ⟨(b - 1).toNat, by omega⟩
 rw [gl_mem (by rw [alBB_len]; omega)]
 unfold alBB
 rw [List.getElem_append_left (by rw [alB_len]; omega)]
 have e1 : ((k + 1 : Nat) : Int) - 1 = (k : Int) := by omega
 rw [e1]
 simp [alB, rngI]
theorem alBB_top (N : Nat) (B : List (List Int)) : gl (alBB N B) ((N : Int) + 1) = rngI (N + 1) := by
 have e1 : ((N : Int) + 1) = ((N + 1 : Nat) : Int) := by omega
 rw [e1, gl_mem (by rw [alBB_len]; omega)]
 unfold alBB
 rw [List.getElem_append_right (by rw [alB_len]; omega)]
 simp [alB_len]
theorem alBB_und {N : Nat} {B : List (List Int)} {a b : Int} (ha : 0 ≤ a ∧ a < (N : Int) + 2) (hb : 0 ≤ b ∧ b < (N : Int) + 2) (hB : ∀ e : Int, 0 ≤ e → e < N → ∀ d ∈ gl B e, 0 ≤ d ∧ d < (N : Int)) : (a = b ∨ a ∈ gl (alBB N B) b) ↔ UndP N B a b := by
 unfold UndP
 by_cases c0 : b = 0
 ·subst c0
  rw [alBB_0]
  constructor
  ·rintro (h | h)
   ·exact .inl h
   cases h
  rintro (h | h | h | h)
  ·exact .inl h
  ·exact .inl h
  ·omega
  omega
 by_cases c1 : b = (N : Int) + 1
 ·subst c1
  rw [alBB_top, rngI_mem]
  constructor
  ·intro _; exact .inr (.inr (.inl rfl))
  intro _
  by_cases e : a = (N : Int) + 1
  ·exact .inl e
  exact .inr (by omega)
 rw [alBB_mid N B (by omega) (by omega), List.mem_cons, List.mem_map]
 constructor
 ·rintro (h | h | ⟨d, h, e⟩)
  ·exact .inl h
  ·exact .inr (.inl h)
  have := hB (b - 1) (by omega) (by omega) d h
  exact .inr (.inr (.inr ⟨by omega, by omega, by omega, by omega, by rw [← e, Int.add_sub_cancel]; exact h⟩))
 rintro (h | h | h | h)
 ·exact .inl h
 ·exact .inr (.inl h)
 ·exact absurd h c1
 exact .inr (.inr ⟨a - 1, h.2.2.2.2, by omega⟩)
theorem alBB_len_at {N : Nat} {B : List (List Int)} (hl : ∀ e : Int, 0 ≤ e → e < N → (gl B e).length ≤ 500) (hN : N ≤ 500) {b : Int} (hb : 0 ≤ b ∧ b < (N : Int) + 2) : (gl (alBB N B) b).length ≤ 501 := by
 by_cases c0 : b = 0
 ·subst c0; rw [alBB_0]; exact Nat.zero_le _
 by_cases c1 : b = (N : Int) + 1
 ·subst c1; rw [alBB_top, rngI, List.length_map, List.length_range]; omega
 rw [alBB_mid N B (by omega) (by omega), List.length_cons, List.length_map]
 have := hl (b - 1) (by omega) (by omega)
 omega
theorem l01UnitX_c (n : Nat) (w : World) (hn : n ≤ 1000000) :
  Ret Tryz.prog 168 [.int .i64 (n : Int)] w (fun v w' => ∃ A c, v = .slice A n c ∧ St w w' [CkI 2 A n c (rngI n)]) := by
 refine Ret.of_cd Tryz.func168 O Tryz.ntmps168 O (post1 O) (Gbo O (Ops.bs0 (St.refl w) O ?_))
 intro A1 w1 hS1
 refine Gdc O ?_
 refine Cd.loop (α := Nat × Option Addr × Nat) (fun s => [(0, .int .i64 (n : Int)), (3, .slice s.2.1 s.1 s.2.2), (4, .int .i64 (s.1 : Int))]) (fun s w' => s.1 ≤ n ∧ St w w' [CkI 2 s.2.1 s.1 s.2.2 (rngI s.1)]) (fun s => n - s.1) (0, A1, 0) ⟨O, O, O, trivial⟩ ⟨Nat.zero_le _, hS1⟩ ?_
 clear hS1
 rintro ⟨i, A2, c2⟩ e w2 ⟨hi, hS2⟩
 dsimp only at hS2 hi ⊢
 refine Gbc O ?_
 refine Cd.cond_p _ O (fun h1 => ?_) (fun h1 => ?_)
 ·refine Gao O (Ops.bs1I hS2 O O O ?_)
  intro A3 w3 hS3
  refine Ops.appI 1 hS3 O (hS3.rdI 0 O) O O O (by omega) (by omega) O ?_
  intro A4 c4 w4 hS4
  have hS4 := hS4.tail
  refine Gdo O (Ops.add O O O (by omega) (Gdn O (tQ ?_)))
  exact ⟨(i + 1, A4, c4), by show n - (i + 1) < n - i; omega, ⟨O, O, O, trivial⟩, by show i + 1 ≤ n; omega, by show St w w4 [CkI _ A4 (i + 1) c4 (rngI (i + 1))]; rw [rngI_snoc]; exact hS4⟩
 have hin : i = n := by omega
 subst hin
 refine Gax O (thenQ_x (Gfr O ?_))
 refine ret1_s O ?_
 exact ⟨A2, c2, O, hS2⟩
/-
 All faces of a maniplex, walked in the reference.
-/
abbrev faB (A : Option Addr) (n : Int) (X : Option Addr) (m cx : Nat) (Y : Option Addr) (k cy : Nat) : Ck := Bx 93 3 A [.int .i64 n, .slice X m cx, .slice Y k cy]
section
variable {P : Program} {N : Nat} {ops : Array Oper} {K : Env → World → Prop} {rest : List Oper} {e : Env} {w0 w w' : World} {ks : List Ck} {d : Nat} {ty : TypeId} {pos : String} {af : Array Edge}
theorem Ops.bldP3 {t : TypeId} {f0 f1 f2 : Field} {z0 z1 z2 y0 y1 y2 : Value} {b b0 b1 b2 : Nat} [Und P t (.struct #[f0, f1, f2])] [Inf P t (.agg #[z0, z1, z2]) 3 b] {x0 x1 x2 : Operand} {v0 v1 v2 : Value} (hI0 : Inf P f0.type y0 1 b0) (hI1 : Inf P f1.type y1 1 b1) (hI2 : Inf P f2.type y2 1 b2) (ho : f0.offset = 0) (ho1 : f1.offset = 1) (ho2 : f2.offset = 2) (h0 : ev e x0 = v0) (h1 : ev e x1 = v1) (h2 : ev e x2 = v2) (c0 : v0.oneCell' = true) (c1 : v1.oneCell' = true) (c2 : v2.oneCell' = true) (hb : Nat.blt d N = true) (hK : Ops P N ops K rest (upd e d (.agg #[v0, v1, v2])) w) : Ops P N ops K (⟨some d, .build t #[(0, x0), (1, x1), (2, x2)], ty, pos, af, none⟩ :: rest) e w := by
 obtain ⟨inf, hi, hz0, hs, hby⟩ := Inf.get P t
 obtain ⟨inf0, hi0, _, hs0, _⟩ := hI0.get P f0.type
 obtain ⟨inf1, hi1, _, hs1, _⟩ := hI1.get P f1.type
 obtain ⟨inf2, hi2, _, hs2, _⟩ := hI2.get P f2.type
 have e0 : v0.cells = #[v0] := by cases v0 <;> simp [Value.oneCell'] at c0 <;> rfl
 have e1 : v1.cells = #[v1] := by cases v1 <;> simp [Value.oneCell'] at c1 <;> rfl
 have e2 : v2.cells = #[v2] := by cases v2 <;> simp [Value.oneCell'] at c2 <;> rfl
 have ez : (Value.agg #[z0, z1, z2]).cells = #[z0, z1, z2] := O
 refine .val (w' := w) ?_ hb hK
 simp [execOp, Instr.build, run_underlying (Und.out (P := P) (t := t)), sizeOf, typeInfo, zeroValue, hi, hz0, hi0, hs0, hi1, hs1, hi2, hs2, ho, ho1, ho2, h0, h1, h2, e0, e1, e2, ez, Instr.fill]
end
theorem perm_m {α : Type} (a b c d : α) : [a, b, c, d].Perm [a, d, b, c] := by
 classical
 refine List.perm_iff_count.2 fun z => ?_
 simp only [List.count_cons, List.count_nil]
 omega
theorem perm_n {α : Type} (s a b m : α) (X : List α) : (s :: a :: b :: m :: (X ++ [])).Perm (a :: b :: m :: ((X ++ [s]) ++ [])) := by
 classical
 refine List.perm_iff_count.2 fun z => ?_
 simp only [List.count_append, List.count_cons, List.count_nil]
 omega
set_option maxHeartbeats 4000000 in
theorem l09All_c (A : Option Addr) (n c : Nat) (rs : List SlV) (M : List (List Int)) (w : World) (hR : RowsI w A n rs M) (hM : Mani M) (hbig : offP M M.length ≤ 500) :
  Ret Tryz.prog 104 [.agg #[.slice A n c]] w (fun v w' => ∃ X cx Y cy ys, v = .agg #[.int .i64 (M.length : Int), .slice X (offP M M.length + 2) cx, .slice Y (offP M M.length + 2) cy] ∧ ys.length = offP M M.length + 2 ∧ St w w' (CkI 2 X (offP M M.length + 2) cx (fcR M.length (fpR M M.length)) :: (mat 32 2 Y (offP M M.length + 2) cy ys (alBB (offP M M.length) (fpB M)) ++ []))) := by
 have h5 := hM.1
 have hP := posP_of hM hbig
 have hRl := fpR_len M M.length
 have hBl := fpB_len M
 have hrl : ∀ e : Int, 0 ≤ e → e < ((fpR M M.length).length : Int) → (gl (fpB M) e).length ≤ 500 ∧ ∀ d ∈ gl (fpB M) e, 0 ≤ d ∧ d < ((fpR M M.length).length : Int) := fun e h0 h => by
  have h2 := hP.at_ (e := e) h0 h
  refine ⟨?_, fun d hd => by have := (h2.2.1 d hd).1; omega⟩
  have := nodup_le_int (N := (fpR M M.length).length) h2.1.nodup fun x hx => by have := (h2.2.1 x hx).1; omega
  omega
 have hrr := fun (e : Int) (h0 : 0 ≤ e) (h : e < ((fpR M M.length).length : Int)) => hP.ri h0 h
 have hpo := l03Poset_c A n c rs M
 generalize fpR M M.length = R at *
 generalize fpB M = B at *
 generalize M.length = d at *
 generalize offP M d = N at *
 rw [hRl] at hrl hrr
 refine Ret.of_cd Tryz.func104 O Tryz.ntmps104 O (postc O O) (Gbo O (Ops.box1 (St.refl w) O O ?_))
 intro A1 w1 hS1
 refine Ops.newP hS1 O ?_
 intro A2 w2 hS2
 refine Gdo O (Ops.ld_agg 0 (hS2.rd 1 O) O O O (Ops.call (hpo _ (hS2.oldRows hR) hM) O O O ?_))
 rintro _ w3 ⟨AR, cR, AD, cD, rsD, rfl, hrD, hst⟩
 have hS3 := (hS2.call hst).perm List.perm_append_comm
 refine Ops.newP hS3 O ?_
 intro A3 w4 hS4
 refine Ops.st_agg 3 0 hS4 O O O O O O O ?_
 intro w5 hS5
 have hb3 : Rd w5 A3 3 (fun q => [Value.int .i64 (d : Int), .slice AR N cR, .slice AD N cD].getD q undef) := hS5.rd 0 O
 have hS5 : St w w5 (poB A3 (d : Int) AR N cR AD N cD :: faB A2 0 none 0 0 none 0 0 :: Bx 24 1 A1 [.slice A n c] :: (CkI 2 AR N cR R :: (mat 32 2 AD N cD rsD B ++ []))) := hS5
 have hR5 : RdI w5 AR N R := hS5.rdI 3 O
 have hB5 : RowsI w5 AD N rsD B := (hS5.sub (show (mat 32 2 AD N cD rsD B).Sublist _ from (((((by rw [List.append_nil]; exact List.Sublist.refl _ : (mat 32 2 AD N cD rsD B).Sublist (mat 32 2 AD N cD rsD B ++ [])).cons _).cons _).cons _).cons _))).rowsI1 hBl
 clear hS3 hS2 hS1
 refine Gdo O (Ops.fld hb3 O O O O inferInstance (Ops.ldf_i (j := 0) hb3 (by exact congrArg Value.pointer O) O O O O (Ops.bs1I (i := -1) (St.refl w5) O O O ?_)))
 intro X w6 hT6
 refine Ops.bs0 hT6 O ?_
 intro A13 w7 hT7
 refine Ops.bs1R hT7 O O O ?_
 intro Y w8 hT8
 refine Ops.bldP3 (by exact inferInstance) (by exact inferInstance) (by exact inferInstance) O O O O O O O O O O (Ops.newP hT8 O ?_)
 intro A4 w9 hT9
 refine Ops.st_agg 3 0 hT9 O O O O O O O ?_
 intro w10 hT10
 have hT10 : St w5 w10 (faB A4 (d : Int) X 1 1 Y 1 1 :: CkI 2 X 1 1 (-1 :: R.take 0) :: (mat 32 2 Y 1 1 [⟨A13, 0, 0⟩] (alB B 0) ++ [])) := hT10.perm (perm_m _ _ _ _)
 clear hT9 hT8 hT7 hT6
 refine Gdc O ?_
 refine Cd.loop (α := Nat × (Option Addr × Nat) × (Option Addr × Nat) × List SlV) (fun z => [(2, .pointer A2), (3, .pointer A3), (4, .pointer A4), (5, .int .i64 (z.1 : Int))]) (fun z w' => z.1 ≤ N ∧ z.2.2.2.length = z.1 + 1 ∧ St w5 w' (faB A4 (d : Int) z.2.1.1 (z.1 + 1) z.2.1.2 z.2.2.1.1 (z.1 + 1) z.2.2.1.2 :: CkI 2 z.2.1.1 (z.1 + 1) z.2.1.2 (-1 :: R.take z.1) :: (mat 32 2 z.2.2.1.1 (z.1 + 1) z.2.2.1.2 z.2.2.2 (alB B z.1) ++ []))) (fun z => N - z.1) (0, (X, 1), (Y, 1), [⟨A13, 0, 0⟩]) ⟨O, O, O, O, trivial⟩ ⟨Nat.zero_le _, O, hT10⟩ ?_
 clear hT10
 rintro ⟨i, ⟨X, cX⟩, ⟨Y, cY⟩, ys⟩ e w11 ⟨hi, hys, hT⟩
 dsimp only at hi hys hT ⊢
 have hb3i := Rd.below hb3 hT.below
 refine Gbo O (Ops.fld hb3i O O O O inferInstance (Ops.ldf_s (j := 1) hb3i (by exact congrArg Value.pointer O) O O O O ?_))
 refine Ops.len O O (Gdc O ?_)
 refine Cd.cond_p _ O (fun h1 => ?_) (fun h1 => ?_)
 ·have hiN : i < N := by omega
  have hrli := hrl (i : Int) (by omega) (by omega)
  refine Gao O (Ops.bs1I (i := 0) hT O O O ?_)
  intro A6 w12 hT12
  refine Gdc O ?_
  refine Cd.loop (α := Nat × Option Addr × Nat) (fun z => [(2, .pointer A2), (3, .pointer A3), (4, .pointer A4), (5, .int .i64 (i : Int)), (6, .slice z.2.1 (z.1 + 1) z.2.2), (7, .int .i64 (z.1 : Int))]) (fun z w' => z.1 ≤ (gl B (i : Int)).length ∧ St w5 w' (CkI 2 z.2.1 (z.1 + 1) z.2.2 (0 :: ((gl B (i : Int)).take z.1).map (· + 1)) :: faB A4 (d : Int) X (i + 1) cX Y (i + 1) cY :: CkI 2 X (i + 1) cX (-1 :: R.take i) :: (mat 32 2 Y (i + 1) cY ys (alB B i) ++ []))) (fun z => (gl B (i : Int)).length - z.1) (0, A6, 1) ⟨O, O, O, O, O, O, trivial⟩ ⟨Nat.zero_le _, hT12⟩ ?_
  clear hT12 hT
  rintro ⟨j, A6, c6⟩ e w13 ⟨hj, hT⟩
  dsimp only at hj hT ⊢
  have hb3j := Rd.below hb3 hT.below
  have hBj := hB5.later hT.below
  have hro := hBj.at_ (i := (i : Int)) (by omega) (by omega)
  have hrn := hro.1
  refine Gbo O (Ops.fld hb3j O O O O inferInstance (Ops.ldf_s (j := 2) hb3j (by exact congrArg Value.pointer O) O O O O (Gdo O (Ops.idx hBj.top.2 O O O (by omega) (by omega) (Ops.ld_sl hBj.top O (by omega) O O ?_)))))
  refine Ops.len O O (Gdc O ?_)
  refine Cd.cond_p _ O (fun h2 => ?_) (fun h2 => ?_)
  ·have hjl : j < (gl B (i : Int)).length := by omega
   have hdm := hrli.2 _ (gi_in hjl)
   refine Gao O (Ops.fld hb3j O O O O inferInstance (Ops.ldf_s (j := 2) hb3j (by exact congrArg Value.pointer O) O O O O (Gdo O (Ops.idx hBj.top.2 O O O (by omega) (by omega) (Ops.ld_sl hBj.top O (by omega) O O (Gdo O (Ops.idx hro.2 O O O (by omega) (by omega) (Ops.ld_int hro O (by omega) O O (Ops.add O O O (by omega) ?_)))))))))
   refine Ops.bs1I hT O O O ?_
   intro A9 w14 hT14
   refine Ops.appI 1 hT14 O (hT14.rdI 0 O) O O O (by omega) (by omega) O ?_
   intro AZ cZ w15 hT15
   have hT15 := hT15.tail
   refine Gdo O (Ops.add O O O (by omega) (Gdn O (tQ ?_)))
   refine ⟨(j + 1, AZ, cZ), by show (gl B (i : Int)).length - (j + 1) < (gl B (i : Int)).length - j; omega, ⟨O, O, O, O, O, O, trivial⟩, by show j + 1 ≤ _; omega, ?_⟩
   show St w5 w15 (CkI _ AZ (j + 1 + 1) cZ (0 :: ((gl B (i : Int)).take (j + 1)).map (· + 1)) :: _)
   rw [take_snoc hjl, List.map_append]
   exact hT15
  have hje : (gl B (i : Int)).take j = gl B (i : Int) := List.take_of_length_le (by omega)
  rw [hje] at hT
  have hR6 := hR5.later hT.below
  have hA4 := hT.rd 1 O
  have hrg := hrr (i : Int) (by omega) (by omega)
  have htk : R.take (i + 1) = R.take i ++ [gi R (i : Int)] := take_snoc (by omega)
  refine Gax O (thenQ_x (Gfc O ?_))
  refine Cd.drawP [8, 10] [yP (ptrAt (A4) 1), yS (X) (i + 1) (cX), yP (ptrAt (A3) 1), yS (AR) (N) (cR), yI ((i : Int)), yP (ptrAt (AR) ((i : Int)).toNat), yI (gi (R) ((i : Int))), .pr (fun v w' => ∃ A9, v = .slice A9 1 1 ∧ St w5 w' (CkI 2 A9 1 1 [gi R (i : Int)] :: CkI 2 A6 (j + 1) c6 (0 :: (gl B (i : Int)).map (· + 1)) :: faB A4 (d : Int) X (i + 1) cX Y (i + 1) cY :: CkI 2 X (i + 1) cX (-1 :: R.take i) :: (mat 32 2 Y (i + 1) cY ys (alB B i) ++ []))), .pr (fun v w' => ∃ AZ cZ, v = .slice AZ (i + 1 + 1) cZ ∧ St w5 w' (CkI 2 A6 (j + 1) c6 (0 :: (gl B (i : Int)).map (· + 1)) :: faB A4 (d : Int) X (i + 1) cX Y (i + 1) cY :: CkI 2 AZ (i + 1 + 1) cZ ((-1 :: R.take i) ++ [gi R (i : Int)]) :: (mat 32 2 Y (i + 1) cY ys (alB B i) ++ []))), yP (ptrAt A4 1), .pr (fun _ w' => ∃ AZ cZ, St w5 w' (CkI 2 A6 (j + 1) c6 (0 :: (gl B (i : Int)).map (· + 1)) :: faB A4 (d : Int) AZ (i + 1 + 1) cZ Y (i + 1) cY :: CkI 2 AZ (i + 1 + 1) cZ ((-1 :: R.take i) ++ [gi R (i : Int)]) :: (mat 32 2 Y (i + 1) cY ys (alB B i) ++ [])))] (by kernel_rfl) (by kernel_rfl) (ly (ly (ly (ly (ly (ly (ly (List.forall_mem_cons.2 ⟨Ye.lasts_pr (fun v w w' h hb => by obtain ⟨A9, hv, hT⟩ := h; exact ⟨A9, hv, hT.later hb⟩), (List.forall_mem_cons.2 ⟨Ye.lasts_pr (fun v w w' h hb => by obtain ⟨AZ, cZ, hv, hT⟩ := h; exact ⟨AZ, cZ, hv, hT.later hb⟩), (ly (List.forall_mem_cons.2 ⟨Ye.lasts_pr (fun v w w' h hb => by obtain ⟨AZ, cZ, hT⟩ := h; exact ⟨AZ, cZ, hT.later hb⟩), (fun _ h => by cases h)⟩))⟩)⟩)))))))) ?_ ?_
  ·refine ⟨cP fun _ _ hb _ _ _ => Ops.fld (hA4.below hb) O O O O inferInstance (AzP O O), cP fun _ _ hb _ _ _ => Ops.ldf_s (hA4.below hb) O O O O O (AzP O O), cP fun _ _ hb _ _ _ => Ops.fld (hb3j.below hb) O O O O inferInstance (AzP O O), cP fun _ _ hb _ _ _ => Ops.ldf_s (hb3j.below hb) O O O O O (AzP O O), DrP O, cP fun _ _ hb _ _ _ => Ops.idx (hR6.later hb).2 O O O (by omega) (by omega) (AzP O O), cP fun _ _ hb _ _ _ => Ops.ld_int (hR6.later hb) O (by omega) O O (AzP O O), ?_, ?_, ?_, ?_, trivial⟩
   ·refine cP fun e1 w1 hb hp hun hq => ?_
    refine Ops.bs1I (St.refl _) O O O ?_
    intro A9 w9 hst
    refine Ops.n ?_
    exact AfterP.dn O hst.below ⟨A9, O, (hT.later hb).call hst⟩
   ·refine cPT fun e1 w1 hb hp hun hq => ?_
    obtain ⟨A9, h53, hT9⟩ := (hp 7 _ _ (by kernel_rfl) rfl rfl (by kernel_rfl))
    refine Ops.appI 3 hT9 O (hT9.rdI 0 O) O (by exact h53) O (by omega) (by omega) O ?_
    intro AZ cZ wZ hZ
    refine Ops.n ?_
    exact AfterU.dn O ⟨AZ, cZ, O, hZ.tail⟩
   ·intro e1 w1 cc hlo hhi hb0 hp hun hq; show Ops _ _ _ _ _ _ _
    have hX : Rd w1 A4 3 (fun q => [Value.int .i64 (d : Int), .slice X (i + 1) cX, .slice Y (i + 1) cY].getD q undef) := by { have hhi := le_of_hi hhi (b := 1) (by kernel_rfl); rcases (show cc = 0 ∨ cc = 1 by omega) with h | h; { exact Rd.below hA4 (hb0 h) }; { subst h; obtain ⟨AZ, cZ, _, hTT⟩ := hq 8 _ _ (by kernel_rfl) (by kernel_rfl) (by kernel_rfl) rfl rfl (by kernel_rfl); exact hTT.rd 1 rfl } }
    refine Ops.fld hX O O O O inferInstance (Ops.n (p0_ O (by exact O)))
   refine dPT 1 fun e1 w1 hp hun hq => ?_
   have hph := hp 8 _ _ (by kernel_rfl) O O (by kernel_rfl)
   obtain ⟨AZ, cZ, h54, hTT⟩ := hph
   refine Ops.stf 1 hTT O O (by exact h54) O O ?_
   intro w11 hT11
   refine Ops.n ?_
   exact AfterU.st O ⟨AZ, cZ, hT11⟩
  intro u w14 _ hu _ _
  obtain ⟨AZ, cZ, hT14⟩ := hu 10 _ rfl (by kernel_rfl)
  clear hT hA4
  refine post_ext (F := [(2, .pointer A2), (3, .pointer A3), (4, .pointer A4), (5, .int .i64 (i : Int)), (6, .slice A6 (j + 1) c6)]) ⟨O, O, O, O, O, trivial⟩ (Geo O (Ops.fld (hT14.rd 1 O) O O O O inferInstance (Ops.ldf_s (j := 2) (hT14.rd 1 O) (by exact congrArg Value.pointer O) O O O O (Gdo O (Ops.bs1R hT14 O O O ?_)))))
  intro A9 w15 hT15
  refine Ops.appR 4 hT15 O (hT15.rdR 0 O) O O O (by omega) (by omega) O ?_
  intro AQ cQ w16 hT16
  refine Ops.fld (hT16.rd 2 O) O O O O inferInstance (Ops.stf 2 (j := 2) hT16 O O O O O ?_)
  intro w17 hT17
  have hT17 := hT17.tail
  have hT18 : St w5 w17 (CkI 2 A6 (j + 1) c6 (0 :: (gl B (i : Int)).map (· + 1)) :: faB A4 (d : Int) AZ (i + 1 + 1) cZ AQ (i + 1 + 1) cQ :: CkI 2 AZ (i + 1 + 1) cZ ((-1 :: R.take i) ++ [gi R (i : Int)]) :: CkR 32 AQ (i + 1 + 1) cQ (ys ++ [⟨A6, j + 1, c6⟩]) :: (rowsCk 2 ys (alB B i) ++ [])) := hT17
  have hT18 := hT18.perm (perm_n _ _ _ _ _)
  rw [← rowsCk_snoc (by rw [hys, alB_len]), ← alB_next] at hT18
  refine Gdo O (Ops.add O O O (by omega) (Gdn O (tQ ?_)))
  refine ⟨(i + 1, (AZ, cZ), (AQ, cQ), ys ++ [⟨A6, j + 1, c6⟩]), by show N - (i + 1) < N - i; omega, ⟨O, O, O, O, trivial⟩, by show i + 1 ≤ N; omega, by simp [hys], ?_⟩
  show St w5 w17 (_ :: CkI _ AZ (i + 1 + 1) cZ (-1 :: R.take (i + 1)) :: _)
  rw [htk]
  exact hT18
 obtain rfl : i = N := by omega
 have hA4 := hT.rd 0 O
 have hRt : R.take i = R := List.take_of_length_le (by omega)
 rw [hRt] at hT
 refine Gax O (thenQ_x (Gfc O ?_))
 refine Cd.drawP [7, 9] [yP (ptrAt (A4) 2), yS (Y) (i + 1) (cY), yP (ptrAt (A4) 1), yS (X) (i + 1) (cX), yI (((i + 1 : Nat) : Int)), .pr (fun v w' => ∃ A7 c7, v = .slice A7 (i + 1) c7 ∧ St w5 w' (CkI 2 A7 (i + 1) c7 (rngI (i + 1)) :: faB A4 (d : Int) X (i + 1) cX Y (i + 1) cY :: CkI 2 X (i + 1) cX (-1 :: R) :: (mat 32 2 Y (i + 1) cY ys (alB B i) ++ []))), .pr (fun v w' => ∃ A8 A7 c7, v = .slice A8 1 1 ∧ St w5 w' (CkR 32 A8 1 1 [⟨A7, i + 1, c7⟩] :: CkI 2 A7 (i + 1) c7 (rngI (i + 1)) :: faB A4 (d : Int) X (i + 1) cX Y (i + 1) cY :: CkI 2 X (i + 1) cX (-1 :: R) :: (mat 32 2 Y (i + 1) cY ys (alB B i) ++ []))), .pr (fun v w' => ∃ AQ cQ A7 c7, v = .slice AQ (i + 1 + 1) cQ ∧ St w5 w' (CkI 2 A7 (i + 1) c7 (rngI (i + 1)) :: faB A4 (d : Int) X (i + 1) cX Y (i + 1) cY :: CkI 2 X (i + 1) cX (-1 :: R) :: CkR 32 AQ (i + 1 + 1) cQ (ys ++ [⟨A7, i + 1, c7⟩]) :: (rowsCk 2 ys (alB B i) ++ []))), yP (ptrAt A4 2), .pr (fun _ w' => ∃ AQ cQ A7 c7, St w5 w' (CkI 2 A7 (i + 1) c7 (rngI (i + 1)) :: faB A4 (d : Int) X (i + 1) cX AQ (i + 1 + 1) cQ :: CkI 2 X (i + 1) cX (-1 :: R) :: CkR 32 AQ (i + 1 + 1) cQ (ys ++ [⟨A7, i + 1, c7⟩]) :: (rowsCk 2 ys (alB B i) ++ [])))] (by kernel_rfl) (by kernel_rfl) (ly (ly (ly (ly (ly (List.forall_mem_cons.2 ⟨Ye.lasts_pr (fun v w w' h hb => by obtain ⟨A9, c9, hv, hT⟩ := h; exact ⟨A9, c9, hv, hT.later hb⟩), (List.forall_mem_cons.2 ⟨Ye.lasts_pr (fun v w w' h hb => by obtain ⟨A8, A9, c9, hv, hT⟩ := h; exact ⟨A8, A9, c9, hv, hT.later hb⟩), (List.forall_mem_cons.2 ⟨Ye.lasts_pr (fun v w w' h hb => by obtain ⟨AQ, cQ, A7, c7, hv, hT⟩ := h; exact ⟨AQ, cQ, A7, c7, hv, hT.later hb⟩), (ly (List.forall_mem_cons.2 ⟨Ye.lasts_pr (fun v w w' h hb => by obtain ⟨AQ, cQ, A7, c7, hT⟩ := h; exact ⟨AQ, cQ, A7, c7, hT.later hb⟩), (fun _ h => by cases h)⟩))⟩)⟩)⟩)))))) ?_ ?_
 ·refine ⟨cP fun _ _ hb _ _ _ => Ops.fld (hA4.below hb) O O O O inferInstance (AzP O O), cP fun _ _ hb _ _ _ => Ops.ldf_s (hA4.below hb) O O O O O (AzP O O), cP fun _ _ hb _ _ _ => Ops.fld (hA4.below hb) O O O O inferInstance (AzP O O), cP fun _ _ hb _ _ _ => Ops.ldf_s (hA4.below hb) O O O O O (AzP O O), aP fun _ _ => Ops.len O O (AzP O O), ?_, ?_, ?_, ?_, ?_, trivial⟩
  ·refine cP fun e1 w1 hb hp hun hq => ?_
   refine Ops.call (l01UnitX_c (i + 1) _ (by omega)) O O O ?_
   rintro _ w9 ⟨A7, c7, rfl, hst9⟩
   refine Ops.n ?_
   exact AfterP.dn O hst9.below ⟨A7, c7, O, (hT.later hb).call hst9⟩
  ·refine cP fun e1 w1 hb hp hun hq => ?_
   obtain ⟨A7, c7, h67, hT9⟩ := (hp 5 _ _ (by kernel_rfl) rfl rfl (by kernel_rfl))
   refine Ops.bs1R (St.refl _) (by exact h67) O O ?_
   intro A8 w9 hst9
   refine Ops.n ?_
   exact AfterP.dn O hst9.below ⟨A8, A7, c7, O, hT9.call hst9⟩
  ·refine cPT fun e1 w1 hb hp hun hq => ?_
   obtain ⟨A8, A7, c7, h68, hT9⟩ := (hp 6 _ _ (by kernel_rfl) rfl rfl (by kernel_rfl))
   refine Ops.appR 4 hT9 O (hT9.rdR 0 O) O (by exact h68) O (by omega) (by omega) O ?_
   intro AQ cQ wZ hZ
   refine Ops.n ?_
   exact AfterU.dn O ⟨AQ, cQ, A7, c7, O, hZ.tail⟩
  ·intro e1 w1 cc hlo hhi hb0 hp hun hq; show Ops _ _ _ _ _ _ _
   have hX : Rd w1 A4 3 (fun q => [Value.int .i64 (d : Int), .slice X (i + 1) cX, .slice Y (i + 1) cY].getD q undef) := by { have hhi := le_of_hi hhi (b := 1) (by kernel_rfl); rcases (show cc = 0 ∨ cc = 1 by omega) with h | h; { exact Rd.below hA4 (hb0 h) }; { subst h; obtain ⟨AQ, cQ, A7, c7, _, hTT⟩ := hq 7 _ _ (by kernel_rfl) (by kernel_rfl) (by kernel_rfl) rfl rfl (by kernel_rfl); exact hTT.rd 1 rfl } }
   refine Ops.fld hX O O O O inferInstance (Ops.n (p0_ O (by exact O)))
  refine dPT 1 fun e1 w1 hp hun hq => ?_
  have hph := hp 7 _ _ (by kernel_rfl) O O (by kernel_rfl)
  obtain ⟨AQ, cQ, A7, c7, h69, hTT⟩ := hph
  refine Ops.stf 1 hTT O O (by exact h69) O O ?_
  intro w11 hT11
  refine Ops.n ?_
  exact AfterU.st O ⟨AQ, cQ, A7, c7, hT11⟩
 intro u w14 _ hu _ _
 obtain ⟨AQ, cQ, A7, c7, hT14⟩ := hu 9 _ rfl (by kernel_rfl)
 clear hT hA4
 have hT14 := hT14.perm (perm_n _ _ _ _ _)
 rw [← rowsCk_snoc (by rw [hys, alB_len])] at hT14
 have hb3k := Rd.below hb3 hT14.below
 refine post_ext (F := [(2, .pointer A2), (3, .pointer A3), (4, .pointer A4)]) ⟨O, O, O, trivial⟩ (Geo O (Ops.fld (hT14.rd 0 O) O O O O inferInstance (Ops.ldf_s (j := 1) (hT14.rd 0 O) (by exact congrArg Value.pointer O) O O O O (Ops.fld hb3k O O O O inferInstance (Ops.ldf_i (j := 0) hb3k (by exact congrArg Value.pointer O) O O O O (Ops.bs1I hT14 O O O ?_))))))
 intro A9 w15 hT15
 refine Ops.appI 2 hT15 O (hT15.rdI 0 O) O O O (by omega) (by omega) O ?_
 intro AZ cZ w16 hT16
 refine Ops.fld (hT16.rd 1 O) O O O O inferInstance (Ops.stf 1 (j := 1) hT16 O O O O O ?_)
 intro w17 hT17
 have hT17 := hT17.tail
 have hT18 : St w5 w17 (faB A4 (d : Int) AZ (i + 2) cZ AQ (i + 2) cQ :: CkI 2 AZ (i + 2) cZ (fcR d R) :: (mat 32 2 AQ (i + 2) cQ (ys ++ [⟨A7, i + 1, c7⟩]) (alBB i B) ++ [])) := hT17
 have hS18 := (hS5.call hT18).perm List.perm_append_comm
 refine Gdo O (Ops.ld_agg 2 (hT18.rd 0 O) O O O (Ops.st_agg 3 1 hS18 O O O O O O O ?_))
 intro w18 hS19
 refine Gdr O (retc_r O (hS19.rd 1 O) ?_)
 refine ⟨AZ, cZ, AQ, cQ, ys ++ [⟨A7, i + 1, c7⟩], O, by simp [hys], hS19.sub (show List.Sublist _ (_ :: _ :: _ :: _ :: ((mat 32 2 AD i cD rsD B ++ []) ++ (faB A4 (d : Int) AZ (i + 2) cZ AQ (i + 2) cQ :: _))) from ((((((List.Sublist.refl _).cons _).trans (List.sublist_append_right _ _)).cons _).cons _).cons _).cons _)⟩
end Go.Proofs.YtopgfgdgfjddpaaGreatDoor.Vc
/-
 The reference's order of the pairs of a product, so far as they are gathered: plain.
-/
namespace Go.Proofs.YtopgfgdgfjddpaaGreatDoor.Vc
section
variable (m1 m2 : Nat) (rk1 rk2 : Int → Int) (kind : Int)
def pxR (i : Int) (a : Int) (b : Nat) : List (Int × Int) := ((rngI b).filter fun b => decide (rkP rk1 rk2 kind (a, b) = i ∧ ¬ ExcP m1 m2 kind (a, b))).map fun b => (a, b)
def pxL (i a b : Nat) : List (Int × Int) := prL m1 m2 rk1 rk2 kind i ++ ((rngI a).flatMap (fun a => pxR m1 m2 rk1 rk2 kind i a m2) ++ pxR m1 m2 rk1 rk2 kind i (a : Int) b)
end
section
variable {m1 m2 : Nat} {rk1 rk2 : Int → Int} {kind : Int} {i a b : Nat}
theorem pxL_0 : pxL m1 m2 rk1 rk2 kind i 0 0 = prL m1 m2 rk1 rk2 kind i := by simp [pxL, pxR, rngI]
theorem pxL_row : pxL m1 m2 rk1 rk2 kind i (a + 1) 0 = pxL m1 m2 rk1 rk2 kind i a m2 := by
 unfold pxL
 rw [rngI_snoc, List.flatMap_append]
 simp [pxR, rngI]
theorem pxL_rank : pxL m1 m2 rk1 rk2 kind i m1 0 = pxL m1 m2 rk1 rk2 kind (i + 1) 0 0 := by
 rw [pxL_0]
 unfold pxL
 rw [prL]
 congr 1
 have : pxR m1 m2 rk1 rk2 kind (i : Int) (m1 : Int) 0 = [] := O
 rw [this, List.append_nil]
 rfl
theorem pxL_put (h : rkP rk1 rk2 kind ((a : Int), (b : Int)) = i ∧ ¬ ExcP m1 m2 kind ((a : Int), (b : Int))) : pxL m1 m2 rk1 rk2 kind i a (b + 1) = pxL m1 m2 rk1 rk2 kind i a b ++ [((a : Int), (b : Int))] := by
 unfold pxL
 have e : pxR m1 m2 rk1 rk2 kind (i : Int) (a : Int) (b + 1) = pxR m1 m2 rk1 rk2 kind (i : Int) (a : Int) b ++ [((a : Int), (b : Int))] := by
  unfold pxR
  rw [rngI_snoc, List.filter_append, List.map_append, List.filter_cons_of_pos (by simpa using h)]; rfl
 rw [e, ← List.append_assoc, ← List.append_assoc, ← List.append_assoc]
theorem pxL_skip (h : ¬ (rkP rk1 rk2 kind ((a : Int), (b : Int)) = i ∧ ¬ ExcP m1 m2 kind ((a : Int), (b : Int)))) : pxL m1 m2 rk1 rk2 kind i a (b + 1) = pxL m1 m2 rk1 rk2 kind i a b := by
 unfold pxL
 have e : pxR m1 m2 rk1 rk2 kind (i : Int) (a : Int) (b + 1) = pxR m1 m2 rk1 rk2 kind (i : Int) (a : Int) b := by
  unfold pxR
  rw [rngI_snoc, List.filter_append, List.map_append, List.filter_cons_of_neg (by simpa using h)]; simp
 rw [e]
theorem prL_mono : ∀ {k j : Nat}, j ≤ k → (prL m1 m2 rk1 rk2 kind j).length ≤ (prL m1 m2 rk1 rk2 kind k).length
 | 0, j, h => by
  obtain rfl : j = 0 := by omega
  exact Nat.le_refl _
 | k + 1, j, h => by
  by_cases e : j = k + 1
  ·subst e; exact Nat.le_refl _
  ·have := prL_mono (k := k) (j := j) (by omega)
   rw [prL, List.length_append]; omega
theorem pxR_len (i a : Int) (b : Nat) : (pxR m1 m2 rk1 rk2 kind i a b).length ≤ b := by
 unfold pxR
 rw [List.length_map]
 refine Nat.le_trans (List.length_filter_le _ _) ?_
 rw [rngI, List.length_map, List.length_range]; exact Nat.le_refl _
theorem pxF_len (i : Int) : ∀ a : Nat, ((rngI a).flatMap (fun a => pxR m1 m2 rk1 rk2 kind i a m2)).length ≤ a * m2
 | 0 => by simp [rngI]
 | a + 1 => by
  have h1 := pxF_len i a
  have h2 := pxR_len (m1 := m1) (m2 := m2) (rk1 := rk1) (rk2 := rk2) (kind := kind) i (a : Int) m2
  rw [rngI_snoc, List.flatMap_append, List.length_append, Nat.succ_mul]
  simp only [List.flatMap_cons, List.flatMap_nil, List.append_nil]
  omega
theorem pxL_len (h : (prL m1 m2 rk1 rk2 kind i).length ≤ 500) (hb : b ≤ m2) : (pxL m1 m2 rk1 rk2 kind i a b).length ≤ 500 + (a * m2 + b) := by
 unfold pxL
 have h1 := pxF_len (m1 := m1) (m2 := m2) (rk1 := rk1) (rk2 := rk2) (kind := kind) (i : Int) a
 have h2 := pxR_len (m1 := m1) (m2 := m2) (rk1 := rk1) (rk2 := rk2) (kind := kind) (i : Int) (a : Int) b
 rw [List.length_append, List.length_append]
 omega
end
end Go.Proofs.YtopgfgdgfjddpaaGreatDoor.Vc
/-
 The reference's product of the faces of two polytopes, walked.
-/
namespace Go.Proofs.YtopgfgdgfjddpaaGreatDoor.Vc
open Go.RowKit
structure FaR (w : World) (X8 : Option Addr) (X : List Int) (N : Nat) (Y8 : Option Addr) (ys : List SlV) (B : List (List Int)) : Prop where
 len : X.length = N + 2
 big : N ≤ 500
 rk : RdI w X8 (N + 2) X
 bl : RowsI w Y8 (N + 2) ys (alBB N B)
 bd : ∀ e : Int, 0 ≤ e → e < (N : Int) → (gl B e).length ≤ 500 ∧ ∀ d ∈ gl B e, 0 ≤ d ∧ d < (N : Int)
theorem FaR.later {w w' : World} {X8 : Option Addr} {X : List Int} {N : Nat} {Y8 : Option Addr} {ys : List SlV} {B : List (List Int)} (h : FaR w X8 X N Y8 ys B) (hb : Below w.heap.size w w') : FaR w' X8 X N Y8 ys B := ⟨h.len, h.big, h.rk.later hb, h.bl.later hb, h.bd⟩
def AnsPx (k : Nat) (RL : List Int) (BL : List (List Int)) (w : World) (v : Value) (w' : World) : Prop := ((5 < k ∨ 500 < RL.length) ∧ v = .tuple #[.agg #[.int .i64 0, .slice none 0 0, .slice none 0 0], .bool false] ∧ St w w' []) ∨ ((k ≤ 5 ∧ RL.length ≤ 500) ∧ ∃ AR c AD d rs, v = .tuple #[.agg #[.int .i64 (k : Int), .slice AR RL.length c, .slice AD RL.length d], .bool true] ∧ rs.length = RL.length ∧ BL.length = RL.length ∧ St w w' (CkI 2 AR RL.length c RL :: (mat 32 2 AD RL.length d rs BL ++ [])))
abbrev pxK (A10 A11 A12 AR : Option Addr) (c10 c11 cR : Nat) (L : List (Int × Int)) (rk : Int × Int → Int) (k : Int) (KK : List Ck) : List Ck :=
 CkI 2 A10 L.length c10 (L.map Prod.fst) :: CkI 2 A11 L.length c11 (L.map Prod.snd) :: poB A12 k AR L.length cR none 0 0 :: CkI 2 AR L.length cR (L.map rk) :: KK
abbrev pyK (A10 A11 A12 AR AD : Option Addr) (c10 c11 cR cD e : Nat) (L : List (Int × Int)) (rk : Int × Int → Int) (k : Int) (A6 A4 A3 : Option Addr) (v4 v3 : List Value) (rsD : List SlV) (B : List (List Int)) : List Ck :=
 CkI 2 A10 L.length c10 (L.map Prod.fst) :: CkI 2 A11 L.length c11 (L.map Prod.snd) :: poB A12 k AR L.length cR AD e cD :: CkI 2 AR L.length cR (L.map rk) :: poB A6 0 none 0 0 none 0 0 :: Bx 93 3 A4 v4 :: Bx 93 3 A3 v3 :: (mat 32 2 AD e cD rsD B ++ [])
theorem perm_j9 {α : Type} (b m q1 q2 q3 q4 q5 q6 q7 : α) (X : List α) : (b :: q1 :: q2 :: q3 :: q4 :: q5 :: q6 :: q7 :: m :: (X ++ [])).Perm (q1 :: q2 :: q3 :: q4 :: q5 :: q6 :: q7 :: m :: ((X ++ [b]) ++ [])) := by
 classical
 refine List.perm_iff_count.2 fun z => ?_
 simp only [List.count_append, List.count_cons, List.count_nil]
 omega
theorem perm_q {α : Type} (a b c d : α) (X : List α) : (a :: b :: c :: d :: X).Perm (d :: c :: b :: a :: X) := by
 classical
 refine List.perm_iff_count.2 fun z => ?_
 simp only [List.count_cons]
 omega
set_option maxHeartbeats 8000000 in
theorem l09Poset_c (X8 Z8 Y8 W8 : Option Addr) (cx cz cy cw : Nat) (N1 N2 : Nat) (X1 X2 : List Int) (ys1 ys2 : List SlV) (B1 B2 : List (List Int)) (n1 n2 kind : Int) (k : Nat) (w : World) (hF1 : FaR w X8 X1 N1 Y8 ys1 B1) (hF2 : FaR w Z8 X2 N2 W8 ys2 B2) (hL1 : Lat (N1 + 2) n1 (gi X1) (UndP N1 B1)) (hL2 : Lat (N2 + 2) n2 (gi X2) (UndP N2 B2)) (hk : 0 ≤ kind ∧ kind ≤ 2) (hkn : (k : Int) = rnP n1 n2 kind) (hn1 : n1 ≤ 5) (hn2 : n2 ≤ 5) :
  Ret Tryz.prog 103 [.agg #[.int .i64 n1, .slice X8 (N1 + 2) cx, .slice Y8 (N1 + 2) cy], .agg #[.int .i64 n2, .slice Z8 (N2 + 2) cz, .slice W8 (N2 + 2) cw], .int .i64 kind] w (AnsPx k ((prL (N1 + 2) (N2 + 2) (gi X1) (gi X2) kind k).map (rkP (gi X1) (gi X2) kind)) (prB (UndP N1 B1) (UndP N2 B2) (prL (N1 + 2) (N2 + 2) (gi X1) (gi X2) kind k)) w) := by
 have hb1 := hF1.big; have hb2 := hF2.big
 have hx1 := hF1.len; have hx2 := hF2.len
 have hn10 := hL1.n0; have hn20 := hL2.n0
 have hkr : (k : Int) = n1 + n2 + (if kind = 0 then 1 else 0) := by rw [hkn]; unfold rnP; split <;> omega
 refine Ret.of_cd Tryz.func103 O Tryz.ntmps103 O (postc2 O O) (Gbo O (Ops.box3T (St.refl w) O O ?_))
 intro A3 w1 hS1
 refine Ops.box3T hS1 O O ?_
 intro A4 w2 hS2
 refine Ops.newP hS2 O ?_
 intro A6 w3 hS3
 have hr3 := hS3.rd 2 O
 have hr4 := hS3.rd 1 O
 refine Gdo O (Ops.fld hr3 O O O O inferInstance (Ops.ldf_i (j := 0) hr3 (by exact congrArg Value.pointer O) O O O O (Ops.fld hr4 O O O O inferInstance (Ops.ldf_i (j := 0) hr4 (by exact congrArg Value.pointer O) O O O O ?_))))
 refine Ops.add O O O (by omega) (Gdj 0 O ?_)
 refine Cd.join (α := Unit) (fun _ => [(2, .int .i64 kind), (3, .pointer A3), (4, .pointer A4), (6, .pointer A6), (8, .int .i64 (k : Int)), (9, .int .i64 1)]) (fun _ w' => w' = w3) ?_ ?_
 ·refine Gbc O ?_
  refine Cd.cond_p _ O (fun h1 => ?_) (fun h1 => ?_)
  ·refine Gao O (Ops.add O O O (by omega) (Gdn O (tQ ?_)))
   exact ⟨(), ⟨O, O, O, O, congrArg (Value.int .i64) (by rw [hkr, if_pos h1]), O, trivial⟩, O⟩
  refine Gan O (tQ ?_)
  exact ⟨(), ⟨O, O, O, O, congrArg (Value.int .i64) (by rw [hkr, if_neg h1, Int.add_zero]), O, trivial⟩, O⟩
 rintro _ e w4 rfl
 refine Cd.join (α := Unit) (fun _ => [(2, .int .i64 kind), (3, .pointer A3), (4, .pointer A4), (6, .pointer A6), (8, .int .i64 (k : Int)), (9, .int .i64 (shP kind))]) (fun _ w' => w' = w4) ?_ ?_
 ·refine Gbc O ?_
  refine Cd.cond_p _ O (fun h1 => ?_) (fun h1 => ?_)
  ·refine Gan O (tQ ?_)
   exact ⟨(), ⟨O, O, O, O, O, congrArg (Value.int .i64) (by unfold shP; rw [if_pos h1]), trivial⟩, O⟩
  refine Gan O (tQ ?_)
  exact ⟨(), ⟨O, O, O, O, O, congrArg (Value.int .i64) (by unfold shP; rw [if_neg h1]), trivial⟩, O⟩
 rintro _ e w5 rfl
 refine Gac O ?_
 refine Cd.cond_p _ O (fun h1 => ?_) (fun h1 => ?_)
 ·refine Gao O (Ops.bldP0 (by exact inferInstance) (by exact inferInstance) (by exact inferInstance) O (Ops.st_agg 3 0 hS3 O O O O O O O ?_))
  intro w7 hS7
  refine Gdr O (retc2_r O (hS7.rd 0 O) O ?_)
  exact .inl ⟨.inl (by omega), O, hS7.none⟩
 have hk5 : k ≤ 5 := by omega
 obtain ⟨KK, hKK⟩ : ∃ KK : List Ck, KK = [poB A6 0 none 0 0 none 0 0, Bx 93 3 A4 [.int .i64 n2, .slice Z8 (N2 + 2) cz, .slice W8 (N2 + 2) cw], Bx 93 3 A3 [.int .i64 n1, .slice X8 (N1 + 2) cx, .slice Y8 (N1 + 2) cy]] := ⟨_, rfl⟩
 have hS3 : St w w5 KK := by rw [hKK]; exact hS3
 refine Gao O (Ops.bs0 hS3 O ?_)
 intro A10 w6 hS6
 refine Ops.bs0 hS6 O ?_
 intro A11 w7 hS7
 refine Gdo O (Ops.bldP1 (by exact inferInstance) (by exact inferInstance) (by exact inferInstance) O O O O O O (Ops.newP hS7 O ?_))
 intro A12 w8 hS8
 refine Gdo O (Ops.st_agg 3 0 hS8 O O O O O O O ?_)
 intro w9 hS9
 have hS9 : St w w9 (pxK A10 A11 A12 none 0 0 0 (pxL (N1 + 2) (N2 + 2) (gi X1) (gi X2) kind 0 0 0) (rkP (gi X1) (gi X2) kind) k KK) := by
  have h9 := hS9.nil 2
  rw [pxL_0]
  exact h9.perm (perm_q _ _ _ _ _)
 clear hS8 hS7 hS6
 have hp3 : ∀ {w' : World} {ks : List Ck}, St w w' (ks ++ KK) → Rd w' A3 3 (fun j => [Value.int .i64 n1, .slice X8 (N1 + 2) cx, .slice Y8 (N1 + 2) cy].getD j undef) := fun h => by
  have h9 := h.sub (List.sublist_append_right _ _)
  rw [hKK] at h9
  exact h9.rd 2 O
 have hp4 : ∀ {w' : World} {ks : List Ck}, St w w' (ks ++ KK) → Rd w' A4 3 (fun j => [Value.int .i64 n2, .slice Z8 (N2 + 2) cz, .slice W8 (N2 + 2) cw].getD j undef) := fun h => by
  have h9 := h.sub (List.sublist_append_right _ _)
  rw [hKK] at h9
  exact h9.rd 1 O
 have hsq : ∀ a : Nat, a ≤ N1 + 2 → a * (N2 + 2) ≤ 502 * 502 := fun a h => Nat.mul_le_mul (by omega) (by omega)
 refine Gdc O ?_
 refine Cd.loop (α := Nat × (Option Addr × Nat) × (Option Addr × Nat) × (Option Addr × Nat)) (fun z => [(2, .int .i64 kind), (3, .pointer A3), (4, .pointer A4), (6, .pointer A6), (8, .int .i64 (k : Int)), (9, .int .i64 (shP kind)), (12, .pointer A12), (10, .slice z.2.1.1 (pxL (N1 + 2) (N2 + 2) (gi X1) (gi X2) kind z.1 0 0).length z.2.1.2), (11, .slice z.2.2.1.1 (pxL (N1 + 2) (N2 + 2) (gi X1) (gi X2) kind z.1 0 0).length z.2.2.1.2), (13, .int .i64 (z.1 : Int))]) (fun z w' => z.1 ≤ k ∧ (prL (N1 + 2) (N2 + 2) (gi X1) (gi X2) kind z.1).length ≤ 500 ∧ St w w' (pxK z.2.1.1 z.2.2.1.1 A12 z.2.2.2.1 z.2.1.2 z.2.2.1.2 z.2.2.2.2 (pxL (N1 + 2) (N2 + 2) (gi X1) (gi X2) kind z.1 0 0) (rkP (gi X1) (gi X2) kind) k KK)) (fun z => k - z.1) (0, (A10, 0), (A11, 0), (none, 0)) ⟨O, O, O, O, O, O, O, O, O, O, trivial⟩ ⟨Nat.zero_le _, Nat.zero_le _, hS9⟩ ?_
 clear hS9
 rintro ⟨i, ⟨A10, c10⟩, ⟨A11, c11⟩, ⟨AR, cR⟩⟩ e w10 ⟨hi, hlen, hS⟩
 dsimp only at hi hlen hS ⊢
 refine Gbc O ?_
 refine Cd.cond_p _ O (fun h2 => ?_) (fun h2 => ?_)
 ·have hik : i < k := by omega
  refine Gac O ?_
  refine Cd.loop (α := Nat × (Option Addr × Nat) × (Option Addr × Nat) × (Option Addr × Nat)) (fun z => [(2, .int .i64 kind), (3, .pointer A3), (4, .pointer A4), (6, .pointer A6), (8, .int .i64 (k : Int)), (9, .int .i64 (shP kind)), (12, .pointer A12), (10, .slice z.2.1.1 (pxL (N1 + 2) (N2 + 2) (gi X1) (gi X2) kind i z.1 0).length z.2.1.2), (11, .slice z.2.2.1.1 (pxL (N1 + 2) (N2 + 2) (gi X1) (gi X2) kind i z.1 0).length z.2.2.1.2), (13, .int .i64 (i : Int)), (14, .int .i64 (z.1 : Int))]) (fun z w' => z.1 ≤ N1 + 2 ∧ St w w' (pxK z.2.1.1 z.2.2.1.1 A12 z.2.2.2.1 z.2.1.2 z.2.2.1.2 z.2.2.2.2 (pxL (N1 + 2) (N2 + 2) (gi X1) (gi X2) kind i z.1 0) (rkP (gi X1) (gi X2) kind) k KK)) (fun z => N1 + 2 - z.1) (0, (A10, c10), (A11, c11), (AR, cR)) ⟨O, O, O, O, O, O, O, O, O, O, O, trivial⟩ ⟨Nat.zero_le _, hS⟩ ?_
  clear hS
  rintro ⟨a, ⟨A10, c10⟩, ⟨A11, c11⟩, ⟨AR, cR⟩⟩ e w11 ⟨ha, hS⟩
  dsimp only at ha hS ⊢
  have h3a := hp3 (ks := [_, _, _, _]) hS
  refine Gbo O (Ops.fld h3a O O O O inferInstance (Ops.ldf_s (j := 1) h3a (by exact congrArg Value.pointer O) O O O O ?_))
  refine Ops.len O O (Gdc O ?_)
  refine Cd.cond_p _ O (fun h3 => ?_) (fun h3 => ?_)
  ·have haN : a < N1 + 2 := by omega
   have hsqa := hsq a (by omega)
   refine Gac O ?_
   refine Cd.loop (α := Nat × (Option Addr × Nat) × (Option Addr × Nat) × (Option Addr × Nat)) (fun z => [(2, .int .i64 kind), (3, .pointer A3), (4, .pointer A4), (6, .pointer A6), (8, .int .i64 (k : Int)), (9, .int .i64 (shP kind)), (12, .pointer A12), (10, .slice z.2.1.1 (pxL (N1 + 2) (N2 + 2) (gi X1) (gi X2) kind i a z.1).length z.2.1.2), (11, .slice z.2.2.1.1 (pxL (N1 + 2) (N2 + 2) (gi X1) (gi X2) kind i a z.1).length z.2.2.1.2), (13, .int .i64 (i : Int)), (14, .int .i64 (a : Int)), (15, .int .i64 (z.1 : Int))]) (fun z w' => z.1 ≤ N2 + 2 ∧ St w w' (pxK z.2.1.1 z.2.2.1.1 A12 z.2.2.2.1 z.2.1.2 z.2.2.1.2 z.2.2.2.2 (pxL (N1 + 2) (N2 + 2) (gi X1) (gi X2) kind i a z.1) (rkP (gi X1) (gi X2) kind) k KK)) (fun z => N2 + 2 - z.1) (0, (A10, c10), (A11, c11), (AR, cR)) ⟨O, O, O, O, O, O, O, O, O, O, O, O, trivial⟩ ⟨Nat.zero_le _, hS⟩ ?_
   clear hS h3a
   rintro ⟨b, ⟨A10, c10⟩, ⟨A11, c11⟩, ⟨AR, cR⟩⟩ e w12 ⟨hb, hS⟩
   dsimp only at hb hS ⊢
   have h3b := hp3 (ks := [_, _, _, _]) hS
   have h4b := hp4 (ks := [_, _, _, _]) hS
   have hlL := pxL_len (a := a) hlen hb
   refine Gbo O (Ops.fld h4b O O O O inferInstance (Ops.ldf_s (j := 1) h4b (by exact congrArg Value.pointer O) O O O O ?_))
   refine Ops.len O O (Gdc O ?_)
   refine Cd.cond_p _ O (fun h4 => ?_) (fun h4 => ?_)
   ·have hbN : b < N2 + 2 := by omega
    have hx3 := (hF1.later hS.below).rk
    have hx4 := (hF2.later hS.below).rk
    have ga := hL1.rng (a := (a : Int)) (by omega)
    have gb := hL2.rng (a := (b : Int)) (by omega)
    have gs0 : 0 ≤ shP kind ∧ shP kind ≤ 1 := by unfold shP; split <;> omega
    have hrk : rkP (gi X1) (gi X2) kind ((a : Int), (b : Int)) = gi X1 (a : Int) + gi X2 (b : Int) + shP kind := O
    have hsk := pxL_skip (m1 := N1 + 2) (m2 := N2 + 2) (rk1 := gi X1) (rk2 := gi X2) (kind := kind) (i := i) (a := a) (b := b)
    have hpt := pxL_put (m1 := N1 + 2) (m2 := N2 + 2) (rk1 := gi X1) (rk2 := gi X2) (kind := kind) (i := i) (a := a) (b := b)
    have hex : ExcP (N1 + 2) (N2 + 2) kind ((a : Int), (b : Int)) ↔ ((kind = 1 ∧ ((a : Int) = 0 ∨ (b : Int) = 0)) ∨ (kind = 2 ∧ ((a : Int) = ((N1 + 2 : Nat) : Int) - 1 ∨ (b : Int) = ((N2 + 2 : Nat) : Int) - 1))) := Iff.rfl
    have hcase : (gi X1 (a : Int) + gi X2 (b : Int) + shP kind ≠ (i : Int)) ∨ (gi X1 (a : Int) + gi X2 (b : Int) + shP kind = (i : Int) ∧ ((kind = 1 ∧ (a : Int) = 0) ∨ (kind = 1 ∧ (a : Int) ≠ 0 ∧ (b : Int) = 0) ∨ (kind = 1 ∧ (a : Int) ≠ 0 ∧ (b : Int) ≠ 0) ∨ (kind = 2 ∧ (a : Int) = ((N1 + 2 : Nat) : Int) - 1) ∨ (kind = 2 ∧ (a : Int) ≠ ((N1 + 2 : Nat) : Int) - 1 ∧ (b : Int) = ((N2 + 2 : Nat) : Int) - 1) ∨ (kind = 2 ∧ (a : Int) ≠ ((N1 + 2 : Nat) : Int) - 1 ∧ (b : Int) ≠ ((N2 + 2 : Nat) : Int) - 1) ∨ kind = 0)) := by omega
    rcases hcase with q1 | ⟨q1, ⟨k1, p1⟩ | ⟨k1, p1, p2⟩ | ⟨k1, p1, p2⟩ | ⟨k1, p1⟩ | ⟨k1, p1, p2⟩ | ⟨k1, p1, p2⟩ | k1⟩
    ·
     refine Gac O ?_
     refine Cd.draw [xP (ptrAt (A3) 1), xS (X8) (N1 + 2) (cx), xI ((a : Int)), xP (ptrAt (X8) ((a : Int)).toNat), xI (gi (X1) ((a : Int))), xP (ptrAt (A4) 1), xS (Z8) (N2 + 2) (cz), xI ((b : Int)), xP (ptrAt (Z8) ((b : Int)).toNat), xI (gi (X2) ((b : Int))), xI ((gi (X1) ((a : Int))) + (gi (X2) ((b : Int)))), xI ((shP kind)), xI (((gi (X1) ((a : Int))) + (gi (X2) ((b : Int)))) + ((shP kind))), xI ((i : Int)), xB (decide (¬ (((gi (X1) ((a : Int))) + (gi (X2) ((b : Int)))) + ((shP kind))) = ((i : Int)))), xB (true), xU, xU, xU, xU, xU, xU, xU, xU, xU, xU, xB (true), xB (true), xU, xU, xU, xU, xU, xU, xU, xU, xU, xU, xU, xU, xU, xU, xU, xU, xU, xU, xB (true)] (by kernel_rfl) (by kernel_rfl) O (exL O) ?_ ?_
     ·exact ⟨fun _ _ hb _ _ => Ops.fld (h3b.below hb) O O O O inferInstance (Az O), fun _ _ hb _ _ => Ops.ldf_s (h3b.below hb) O O O O O (Az O), Dr O, fun _ _ hb _ _ => Ops.idx (hx3.later hb).2 O O O (by omega) (by omega) (Az O), fun _ _ hb _ _ => Ops.ld_int (hx3.later hb) O (by omega) O O (Az O), fun _ _ hb _ _ => Ops.fld (h4b.below hb) O O O O inferInstance (Az O), fun _ _ hb _ _ => Ops.ldf_s (h4b.below hb) O O O O O (Az O), Dr O, fun _ _ hb _ _ => Ops.idx (hx4.later hb).2 O O O (by omega) (by omega) (Az O), fun _ _ hb _ _ => Ops.ld_int (hx4.later hb) O (by omega) O O (Az O), fun _ _ _ _ _ => Ops.add O O O (by omega) (Az O), Dr O, fun _ _ _ _ _ => Ops.add O O O (by omega) (Az O), Dr O, Dr O, fun _ _ _ _ _ => Dk O (by exact congrArg Value.bool (decide_eq_true q1)), Dr O, Dr O, Dr O, Dr O, Dr O, Dr O, Dr O, Dr O, Dr O, Dr O, Dr O, fun _ _ _ _ _ => Dk O (by exact congrArg Value.bool (O)), Dr O, Dr O, Dr O, Dr O, Dr O, Dr O, Dr O, Dr O, Dr O, Dr O, Dr O, Dr O, Dr O, Dr O, Dr O, Dr O, Dr O, Dr O, Dr O, trivial⟩
     intro u w13 hb13 _
     have hS := hS.later hb13
     refine Gec O (Cd.cond_t O ?_)
     have hsk := hsk (fun h => q1 (by rw [hrk] at h; exact h.1))
     refine Gao O (Ops.add O O O (by omega) (Gdn O (tQ ?_)))
     exact ⟨(b + 1, (A10, c10), (A11, c11), (AR, cR)), by show N2 + 2 - (b + 1) < N2 + 2 - b; omega, ⟨O, O, O, O, O, O, O, congrArg (fun L : List (Int × Int) => Value.slice A10 L.length c10) hsk.symm, congrArg (fun L : List (Int × Int) => Value.slice A11 L.length c11) hsk.symm, O, O, O, trivial⟩, by show b + 1 ≤ N2 + 2; omega, by show St w w13 (pxK A10 A11 A12 AR c10 c11 cR (pxL _ _ _ _ kind i a (b + 1)) _ k KK); rw [hsk]; exact hS⟩
    ·refine Gac O ?_
     refine Cd.draw [xP (ptrAt (A3) 1), xS (X8) (N1 + 2) (cx), xI ((a : Int)), xP (ptrAt (X8) ((a : Int)).toNat), xI (gi (X1) ((a : Int))), xP (ptrAt (A4) 1), xS (Z8) (N2 + 2) (cz), xI ((b : Int)), xP (ptrAt (Z8) ((b : Int)).toNat), xI (gi (X2) ((b : Int))), xI ((gi (X1) ((a : Int))) + (gi (X2) ((b : Int)))), xI ((shP kind)), xI (((gi (X1) ((a : Int))) + (gi (X2) ((b : Int)))) + ((shP kind))), xI ((i : Int)), xB (decide (¬ (((gi (X1) ((a : Int))) + (gi (X2) ((b : Int)))) + ((shP kind))) = ((i : Int)))), xB (false), xI (kind), xB (decide ((kind) = ((1 : Int)))), xB (true), xI ((a : Int)), xB (decide (((a : Int)) = ((0 : Int)))), xB (true), xU, xU, xB (true), xB (true), xB (true), xB (true), xU, xU, xU, xU, xU, xU, xU, xU, xU, xU, xU, xU, xU, xU, xU, xU, xU, xU, xB (true)] (by kernel_rfl) (by kernel_rfl) O (exL O) ?_ ?_
     ·exact ⟨fun _ _ hb _ _ => Ops.fld (h3b.below hb) O O O O inferInstance (Az O), fun _ _ hb _ _ => Ops.ldf_s (h3b.below hb) O O O O O (Az O), Dr O, fun _ _ hb _ _ => Ops.idx (hx3.later hb).2 O O O (by omega) (by omega) (Az O), fun _ _ hb _ _ => Ops.ld_int (hx3.later hb) O (by omega) O O (Az O), fun _ _ hb _ _ => Ops.fld (h4b.below hb) O O O O inferInstance (Az O), fun _ _ hb _ _ => Ops.ldf_s (h4b.below hb) O O O O O (Az O), Dr O, fun _ _ hb _ _ => Ops.idx (hx4.later hb).2 O O O (by omega) (by omega) (Az O), fun _ _ hb _ _ => Ops.ld_int (hx4.later hb) O (by omega) O O (Az O), fun _ _ _ _ _ => Ops.add O O O (by omega) (Az O), Dr O, fun _ _ _ _ _ => Ops.add O O O (by omega) (Az O), Dr O, Dr O, fun _ _ _ _ _ => Dk O (by exact congrArg Value.bool (decide_eq_false (fun h => h q1))), Dr O, Dr O, fun _ _ _ _ _ => Dk O (by exact congrArg Value.bool (decide_eq_true k1)), Dr O, Dr O, fun _ _ _ _ _ => Dk O (by exact congrArg Value.bool (decide_eq_true p1)), Dr O, Dr O, Dr O, Dr O, Dr O, fun _ _ _ _ _ => Dk O (by exact congrArg Value.bool (O)), Dr O, Dr O, Dr O, Dr O, Dr O, Dr O, Dr O, Dr O, Dr O, Dr O, Dr O, Dr O, Dr O, Dr O, Dr O, Dr O, Dr O, Dr O, Dr O, trivial⟩
     intro u w13 hb13 _
     have hS := hS.later hb13
     refine Gec O (Cd.cond_t O ?_)
     have hsk := hsk (fun h => h.2 (hex.2 (.inl ⟨k1, .inl p1⟩)))
     refine Gao O (Ops.add O O O (by omega) (Gdn O (tQ ?_)))
     exact ⟨(b + 1, (A10, c10), (A11, c11), (AR, cR)), by show N2 + 2 - (b + 1) < N2 + 2 - b; omega, ⟨O, O, O, O, O, O, O, congrArg (fun L : List (Int × Int) => Value.slice A10 L.length c10) hsk.symm, congrArg (fun L : List (Int × Int) => Value.slice A11 L.length c11) hsk.symm, O, O, O, trivial⟩, by show b + 1 ≤ N2 + 2; omega, by show St w w13 (pxK A10 A11 A12 AR c10 c11 cR (pxL _ _ _ _ kind i a (b + 1)) _ k KK); rw [hsk]; exact hS⟩
    ·refine Gac O ?_
     refine Cd.draw [xP (ptrAt (A3) 1), xS (X8) (N1 + 2) (cx), xI ((a : Int)), xP (ptrAt (X8) ((a : Int)).toNat), xI (gi (X1) ((a : Int))), xP (ptrAt (A4) 1), xS (Z8) (N2 + 2) (cz), xI ((b : Int)), xP (ptrAt (Z8) ((b : Int)).toNat), xI (gi (X2) ((b : Int))), xI ((gi (X1) ((a : Int))) + (gi (X2) ((b : Int)))), xI ((shP kind)), xI (((gi (X1) ((a : Int))) + (gi (X2) ((b : Int)))) + ((shP kind))), xI ((i : Int)), xB (decide (¬ (((gi (X1) ((a : Int))) + (gi (X2) ((b : Int)))) + ((shP kind))) = ((i : Int)))), xB (false), xI (kind), xB (decide ((kind) = ((1 : Int)))), xB (true), xI ((a : Int)), xB (decide (((a : Int)) = ((0 : Int)))), xB (false), xI ((b : Int)), xB (decide (((b : Int)) = ((0 : Int)))), xB (decide (((b : Int)) = ((0 : Int)))), xB (decide (((b : Int)) = ((0 : Int)))), xB (decide (((b : Int)) = ((0 : Int)))), xB (true), xU, xU, xU, xU, xU, xU, xU, xU, xU, xU, xU, xU, xU, xU, xU, xU, xU, xU, xB (true)] (by kernel_rfl) (by kernel_rfl) O (exL O) ?_ ?_
     ·exact ⟨fun _ _ hb _ _ => Ops.fld (h3b.below hb) O O O O inferInstance (Az O), fun _ _ hb _ _ => Ops.ldf_s (h3b.below hb) O O O O O (Az O), Dr O, fun _ _ hb _ _ => Ops.idx (hx3.later hb).2 O O O (by omega) (by omega) (Az O), fun _ _ hb _ _ => Ops.ld_int (hx3.later hb) O (by omega) O O (Az O), fun _ _ hb _ _ => Ops.fld (h4b.below hb) O O O O inferInstance (Az O), fun _ _ hb _ _ => Ops.ldf_s (h4b.below hb) O O O O O (Az O), Dr O, fun _ _ hb _ _ => Ops.idx (hx4.later hb).2 O O O (by omega) (by omega) (Az O), fun _ _ hb _ _ => Ops.ld_int (hx4.later hb) O (by omega) O O (Az O), fun _ _ _ _ _ => Ops.add O O O (by omega) (Az O), Dr O, fun _ _ _ _ _ => Ops.add O O O (by omega) (Az O), Dr O, Dr O, fun _ _ _ _ _ => Dk O (by exact congrArg Value.bool (decide_eq_false (fun h => h q1))), Dr O, Dr O, fun _ _ _ _ _ => Dk O (by exact congrArg Value.bool (decide_eq_true k1)), Dr O, Dr O, fun _ _ _ _ _ => Dk O (by exact congrArg Value.bool (decide_eq_false p1)), Dr O, Dr O, Dr O, Dr O, Dr O, fun _ _ _ _ _ => Dk O (by exact congrArg Value.bool (decide_eq_true p2)), Dr O, Dr O, Dr O, Dr O, Dr O, Dr O, Dr O, Dr O, Dr O, Dr O, Dr O, Dr O, Dr O, Dr O, Dr O, Dr O, Dr O, Dr O, Dr O, trivial⟩
     intro u w13 hb13 _
     have hS := hS.later hb13
     refine Gec O (Cd.cond_t O ?_)
     have hsk := hsk (fun h => h.2 (hex.2 (.inl ⟨k1, .inr p2⟩)))
     refine Gao O (Ops.add O O O (by omega) (Gdn O (tQ ?_)))
     exact ⟨(b + 1, (A10, c10), (A11, c11), (AR, cR)), by show N2 + 2 - (b + 1) < N2 + 2 - b; omega, ⟨O, O, O, O, O, O, O, congrArg (fun L : List (Int × Int) => Value.slice A10 L.length c10) hsk.symm, congrArg (fun L : List (Int × Int) => Value.slice A11 L.length c11) hsk.symm, O, O, O, trivial⟩, by show b + 1 ≤ N2 + 2; omega, by show St w w13 (pxK A10 A11 A12 AR c10 c11 cR (pxL _ _ _ _ kind i a (b + 1)) _ k KK); rw [hsk]; exact hS⟩
    ·refine Gac O ?_
     refine Cd.draw [xP (ptrAt (A3) 1), xS (X8) (N1 + 2) (cx), xI ((a : Int)), xP (ptrAt (X8) ((a : Int)).toNat), xI (gi (X1) ((a : Int))), xP (ptrAt (A4) 1), xS (Z8) (N2 + 2) (cz), xI ((b : Int)), xP (ptrAt (Z8) ((b : Int)).toNat), xI (gi (X2) ((b : Int))), xI ((gi (X1) ((a : Int))) + (gi (X2) ((b : Int)))), xI ((shP kind)), xI (((gi (X1) ((a : Int))) + (gi (X2) ((b : Int)))) + ((shP kind))), xI ((i : Int)), xB (decide (¬ (((gi (X1) ((a : Int))) + (gi (X2) ((b : Int)))) + ((shP kind))) = ((i : Int)))), xB (false), xI (kind), xB (decide ((kind) = ((1 : Int)))), xB (true), xI ((a : Int)), xB (decide (((a : Int)) = ((0 : Int)))), xB (false), xI ((b : Int)), xB (decide (((b : Int)) = ((0 : Int)))), xB (decide (((b : Int)) = ((0 : Int)))), xB (decide (((b : Int)) = ((0 : Int)))), xB (decide (((b : Int)) = ((0 : Int)))), xB (false), xI (kind), xB (decide ((kind) = ((2 : Int)))), xB (false), xU, xU, xU, xU, xU, xU, xU, xU, xU, xU, xU, xU, xU, xU, xB (false), xB (false)] (by kernel_rfl) (by kernel_rfl) O (exL O) ?_ ?_
     ·exact ⟨fun _ _ hb _ _ => Ops.fld (h3b.below hb) O O O O inferInstance (Az O), fun _ _ hb _ _ => Ops.ldf_s (h3b.below hb) O O O O O (Az O), Dr O, fun _ _ hb _ _ => Ops.idx (hx3.later hb).2 O O O (by omega) (by omega) (Az O), fun _ _ hb _ _ => Ops.ld_int (hx3.later hb) O (by omega) O O (Az O), fun _ _ hb _ _ => Ops.fld (h4b.below hb) O O O O inferInstance (Az O), fun _ _ hb _ _ => Ops.ldf_s (h4b.below hb) O O O O O (Az O), Dr O, fun _ _ hb _ _ => Ops.idx (hx4.later hb).2 O O O (by omega) (by omega) (Az O), fun _ _ hb _ _ => Ops.ld_int (hx4.later hb) O (by omega) O O (Az O), fun _ _ _ _ _ => Ops.add O O O (by omega) (Az O), Dr O, fun _ _ _ _ _ => Ops.add O O O (by omega) (Az O), Dr O, Dr O, fun _ _ _ _ _ => Dk O (by exact congrArg Value.bool (decide_eq_false (fun h => h q1))), Dr O, Dr O, fun _ _ _ _ _ => Dk O (by exact congrArg Value.bool (decide_eq_true k1)), Dr O, Dr O, fun _ _ _ _ _ => Dk O (by exact congrArg Value.bool (decide_eq_false p1)), Dr O, Dr O, Dr O, Dr O, Dr O, fun _ _ _ _ _ => Dk O (by exact congrArg Value.bool (decide_eq_false p2)), Dr O, Dr O, fun _ _ _ _ _ => Dk O (by exact congrArg Value.bool (decide_eq_false (by omega))), Dr O, Dr O, Dr O, Dr O, Dr O, Dr O, Dr O, Dr O, Dr O, Dr O, Dr O, Dr O, Dr O, Dr O, Dr O, Dr O, trivial⟩
     intro u w13 hb13 _
     have hS := hS.later hb13
     refine Gec O (Cd.cond_f O ?_)
     have hpt := hpt ⟨by rw [hrk]; exact q1, fun h => by have := hex.1 h; omega⟩
     have hl1 : (pxL (N1 + 2) (N2 + 2) (gi X1) (gi X2) kind i a (b + 1)).length = (pxL (N1 + 2) (N2 + 2) (gi X1) (gi X2) kind i a b).length + 1 := by rw [hpt, List.length_append]; rfl
     refine Gao O (Ops.bs1I hS O O O ?_)
     intro A91 w14 hS14
     refine Ops.appI 1 hS14 O (hS14.rdI 0 O) O O O (by omega) (by omega) O ?_
     intro AZ cZ w15 hS15
     have hS15 := hS15.tail
     refine Gdo O (Ops.bs1I hS15 O O O ?_)
     intro A92 w16 hS16
     refine Ops.appI 2 hS16 O (hS16.rdI 0 O) O O O (by omega) (by omega) O ?_
     intro AQ cQ w17 hS17
     have hS17 := hS17.tail
     refine Gdo O (Ops.fld (hS17.rd 2 O) O O O O inferInstance (Ops.ldf_s (j := 1) (hS17.rd 2 O) (by exact congrArg Value.pointer O) O O O O (Gdo O (Ops.bs1I hS17 O O O ?_))))
     intro A93 w18 hS18
     refine Ops.appI 4 hS18 O (hS18.rdI 0 O) O O O (by omega) (by omega) O ?_
     intro AW cW w19 hS19
     refine Ops.fld (hS19.rd 3 O) O O O O inferInstance (Ops.stf 3 (j := 1) hS19 O O O O O ?_)
     intro w20 hS20
     have hS20 := hS20.tail
     refine Gdo O (Ops.add O O O (by omega) (Gdn O (tQ ?_)))
     refine ⟨(b + 1, (AZ, cZ), (AQ, cQ), (AW, cW)), by show N2 + 2 - (b + 1) < N2 + 2 - b; omega, ⟨O, O, O, O, O, O, O, congrArg (fun m : Nat => Value.slice AZ m cZ) hl1.symm, congrArg (fun m : Nat => Value.slice AQ m cQ) hl1.symm, O, O, O, trivial⟩, by show b + 1 ≤ N2 + 2; omega, ?_⟩
     show St w w20 (pxK AZ AQ A12 AW cZ cQ cW (pxL _ _ _ _ kind i a (b + 1)) _ k KK)
     unfold pxK
     rw [hl1, hpt, List.map_append, List.map_append, List.map_append]
     rw [show [((a : Int), (b : Int))].map (rkP (gi X1) (gi X2) kind) = [(i : Int)] from congrArg (fun x => [x]) (hrk.trans q1)]
     exact hS20
    ·refine Gac O ?_
     refine Cd.draw [xP (ptrAt (A3) 1), xS (X8) (N1 + 2) (cx), xI ((a : Int)), xP (ptrAt (X8) ((a : Int)).toNat), xI (gi (X1) ((a : Int))), xP (ptrAt (A4) 1), xS (Z8) (N2 + 2) (cz), xI ((b : Int)), xP (ptrAt (Z8) ((b : Int)).toNat), xI (gi (X2) ((b : Int))), xI ((gi (X1) ((a : Int))) + (gi (X2) ((b : Int)))), xI ((shP kind)), xI (((gi (X1) ((a : Int))) + (gi (X2) ((b : Int)))) + ((shP kind))), xI ((i : Int)), xB (decide (¬ (((gi (X1) ((a : Int))) + (gi (X2) ((b : Int)))) + ((shP kind))) = ((i : Int)))), xB (false), xI (kind), xB (decide ((kind) = ((1 : Int)))), xB (false), xU, xU, xU, xU, xU, xU, xB (false), xB (false), xB (false), xI (kind), xB (decide ((kind) = ((2 : Int)))), xB (true), xI ((a : Int)), xP (ptrAt (A3) 1), xS (X8) (N1 + 2) (cx), xI (((N1 + 2 : Nat) : Int)), xI ((((N1 + 2 : Nat) : Int)) - ((1 : Int))), xB (decide (((a : Int)) = ((((N1 + 2 : Nat) : Int)) - ((1 : Int))))), xB (true), xU, xU, xU, xU, xU, xU, xB (true), xB (true), xB (true)] (by kernel_rfl) (by kernel_rfl) O (exL O) ?_ ?_
     ·exact ⟨fun _ _ hb _ _ => Ops.fld (h3b.below hb) O O O O inferInstance (Az O), fun _ _ hb _ _ => Ops.ldf_s (h3b.below hb) O O O O O (Az O), Dr O, fun _ _ hb _ _ => Ops.idx (hx3.later hb).2 O O O (by omega) (by omega) (Az O), fun _ _ hb _ _ => Ops.ld_int (hx3.later hb) O (by omega) O O (Az O), fun _ _ hb _ _ => Ops.fld (h4b.below hb) O O O O inferInstance (Az O), fun _ _ hb _ _ => Ops.ldf_s (h4b.below hb) O O O O O (Az O), Dr O, fun _ _ hb _ _ => Ops.idx (hx4.later hb).2 O O O (by omega) (by omega) (Az O), fun _ _ hb _ _ => Ops.ld_int (hx4.later hb) O (by omega) O O (Az O), fun _ _ _ _ _ => Ops.add O O O (by omega) (Az O), Dr O, fun _ _ _ _ _ => Ops.add O O O (by omega) (Az O), Dr O, Dr O, fun _ _ _ _ _ => Dk O (by exact congrArg Value.bool (decide_eq_false (fun h => h q1))), Dr O, Dr O, fun _ _ _ _ _ => Dk O (by exact congrArg Value.bool (decide_eq_false (by omega))), Dr O, Dr O, Dr O, Dr O, Dr O, Dr O, Dr O, Dr O, fun _ _ _ _ _ => Dk O (by exact congrArg Value.bool (O)), Dr O, Dr O, fun _ _ _ _ _ => Dk O (by exact congrArg Value.bool (decide_eq_true k1)), Dr O, fun _ _ hb _ _ => Ops.g O O O (Ops.fld (h3b.below hb) O O O O inferInstance (Az O)), fun _ _ hb _ _ => Ops.g O O O (Ops.ldf_s (h3b.below hb) O O O O O (Az O)), fun _ _ _ _ _ => Ops.g O O O (Ops.len O O (Az O)), fun _ _ _ _ _ => Ops.g O O O (Ops.sub O O O (by omega) (Az O)), Dr O, fun _ _ _ _ _ => Dk O (by exact congrArg Value.bool (decide_eq_true p1)), Dr O, Dr O, Dr O, Dr O, Dr O, Dr O, Dr O, Dr O, Dr O, trivial⟩
     intro u w13 hb13 _
     have hS := hS.later hb13
     refine Gec O (Cd.cond_t O ?_)
     have hsk := hsk (fun h => h.2 (hex.2 (.inr ⟨k1, .inl p1⟩)))
     refine Gao O (Ops.add O O O (by omega) (Gdn O (tQ ?_)))
     exact ⟨(b + 1, (A10, c10), (A11, c11), (AR, cR)), by show N2 + 2 - (b + 1) < N2 + 2 - b; omega, ⟨O, O, O, O, O, O, O, congrArg (fun L : List (Int × Int) => Value.slice A10 L.length c10) hsk.symm, congrArg (fun L : List (Int × Int) => Value.slice A11 L.length c11) hsk.symm, O, O, O, trivial⟩, by show b + 1 ≤ N2 + 2; omega, by show St w w13 (pxK A10 A11 A12 AR c10 c11 cR (pxL _ _ _ _ kind i a (b + 1)) _ k KK); rw [hsk]; exact hS⟩
    ·refine Gac O ?_
     refine Cd.draw [xP (ptrAt (A3) 1), xS (X8) (N1 + 2) (cx), xI ((a : Int)), xP (ptrAt (X8) ((a : Int)).toNat), xI (gi (X1) ((a : Int))), xP (ptrAt (A4) 1), xS (Z8) (N2 + 2) (cz), xI ((b : Int)), xP (ptrAt (Z8) ((b : Int)).toNat), xI (gi (X2) ((b : Int))), xI ((gi (X1) ((a : Int))) + (gi (X2) ((b : Int)))), xI ((shP kind)), xI (((gi (X1) ((a : Int))) + (gi (X2) ((b : Int)))) + ((shP kind))), xI ((i : Int)), xB (decide (¬ (((gi (X1) ((a : Int))) + (gi (X2) ((b : Int)))) + ((shP kind))) = ((i : Int)))), xB (false), xI (kind), xB (decide ((kind) = ((1 : Int)))), xB (false), xU, xU, xU, xU, xU, xU, xB (false), xB (false), xB (false), xI (kind), xB (decide ((kind) = ((2 : Int)))), xB (true), xI ((a : Int)), xP (ptrAt (A3) 1), xS (X8) (N1 + 2) (cx), xI (((N1 + 2 : Nat) : Int)), xI ((((N1 + 2 : Nat) : Int)) - ((1 : Int))), xB (decide (((a : Int)) = ((((N1 + 2 : Nat) : Int)) - ((1 : Int))))), xB (false), xI ((b : Int)), xP (ptrAt (A4) 1), xS (Z8) (N2 + 2) (cz), xI (((N2 + 2 : Nat) : Int)), xI ((((N2 + 2 : Nat) : Int)) - ((1 : Int))), xB (decide (((b : Int)) = ((((N2 + 2 : Nat) : Int)) - ((1 : Int))))), xB (decide (((b : Int)) = ((((N2 + 2 : Nat) : Int)) - ((1 : Int))))), xB (decide (((b : Int)) = ((((N2 + 2 : Nat) : Int)) - ((1 : Int))))), xB (decide (((b : Int)) = ((((N2 + 2 : Nat) : Int)) - ((1 : Int)))))] (by kernel_rfl) (by kernel_rfl) O (exL O) ?_ ?_
     ·exact ⟨fun _ _ hb _ _ => Ops.fld (h3b.below hb) O O O O inferInstance (Az O), fun _ _ hb _ _ => Ops.ldf_s (h3b.below hb) O O O O O (Az O), Dr O, fun _ _ hb _ _ => Ops.idx (hx3.later hb).2 O O O (by omega) (by omega) (Az O), fun _ _ hb _ _ => Ops.ld_int (hx3.later hb) O (by omega) O O (Az O), fun _ _ hb _ _ => Ops.fld (h4b.below hb) O O O O inferInstance (Az O), fun _ _ hb _ _ => Ops.ldf_s (h4b.below hb) O O O O O (Az O), Dr O, fun _ _ hb _ _ => Ops.idx (hx4.later hb).2 O O O (by omega) (by omega) (Az O), fun _ _ hb _ _ => Ops.ld_int (hx4.later hb) O (by omega) O O (Az O), fun _ _ _ _ _ => Ops.add O O O (by omega) (Az O), Dr O, fun _ _ _ _ _ => Ops.add O O O (by omega) (Az O), Dr O, Dr O, fun _ _ _ _ _ => Dk O (by exact congrArg Value.bool (decide_eq_false (fun h => h q1))), Dr O, Dr O, fun _ _ _ _ _ => Dk O (by exact congrArg Value.bool (decide_eq_false (by omega))), Dr O, Dr O, Dr O, Dr O, Dr O, Dr O, Dr O, Dr O, fun _ _ _ _ _ => Dk O (by exact congrArg Value.bool (O)), Dr O, Dr O, fun _ _ _ _ _ => Dk O (by exact congrArg Value.bool (decide_eq_true k1)), Dr O, fun _ _ hb _ _ => Ops.g O O O (Ops.fld (h3b.below hb) O O O O inferInstance (Az O)), fun _ _ hb _ _ => Ops.g O O O (Ops.ldf_s (h3b.below hb) O O O O O (Az O)), fun _ _ _ _ _ => Ops.g O O O (Ops.len O O (Az O)), fun _ _ _ _ _ => Ops.g O O O (Ops.sub O O O (by omega) (Az O)), Dr O, fun _ _ _ _ _ => Dk O (by exact congrArg Value.bool (decide_eq_false p1)), Dr O, fun _ _ hb _ _ => Ops.g O O O (Ops.fld (h4b.below hb) O O O O inferInstance (Az O)), fun _ _ hb _ _ => Ops.g O O O (Ops.ldf_s (h4b.below hb) O O O O O (Az O)), fun _ _ _ _ _ => Ops.g O O O (Ops.len O O (Az O)), fun _ _ _ _ _ => Ops.g O O O (Ops.sub O O O (by omega) (Az O)), Dr O, Dr O, Dr O, Dr O, trivial⟩
     intro u w13 hb13 _
     have hS := hS.later hb13
     refine Gec O (Cd.cond_pt O p2 ?_)
     have hsk := hsk (fun h => h.2 (hex.2 (.inr ⟨k1, .inr p2⟩)))
     refine Gao O (Ops.add O O O (by omega) (Gdn O (tQ ?_)))
     exact ⟨(b + 1, (A10, c10), (A11, c11), (AR, cR)), by show N2 + 2 - (b + 1) < N2 + 2 - b; omega, ⟨O, O, O, O, O, O, O, congrArg (fun L : List (Int × Int) => Value.slice A10 L.length c10) hsk.symm, congrArg (fun L : List (Int × Int) => Value.slice A11 L.length c11) hsk.symm, O, O, O, trivial⟩, by show b + 1 ≤ N2 + 2; omega, by show St w w13 (pxK A10 A11 A12 AR c10 c11 cR (pxL _ _ _ _ kind i a (b + 1)) _ k KK); rw [hsk]; exact hS⟩
    ·refine Gac O ?_
     refine Cd.draw [xP (ptrAt (A3) 1), xS (X8) (N1 + 2) (cx), xI ((a : Int)), xP (ptrAt (X8) ((a : Int)).toNat), xI (gi (X1) ((a : Int))), xP (ptrAt (A4) 1), xS (Z8) (N2 + 2) (cz), xI ((b : Int)), xP (ptrAt (Z8) ((b : Int)).toNat), xI (gi (X2) ((b : Int))), xI ((gi (X1) ((a : Int))) + (gi (X2) ((b : Int)))), xI ((shP kind)), xI (((gi (X1) ((a : Int))) + (gi (X2) ((b : Int)))) + ((shP kind))), xI ((i : Int)), xB (decide (¬ (((gi (X1) ((a : Int))) + (gi (X2) ((b : Int)))) + ((shP kind))) = ((i : Int)))), xB (false), xI (kind), xB (decide ((kind) = ((1 : Int)))), xB (false), xU, xU, xU, xU, xU, xU, xB (false), xB (false), xB (false), xI (kind), xB (decide ((kind) = ((2 : Int)))), xB (true), xI ((a : Int)), xP (ptrAt (A3) 1), xS (X8) (N1 + 2) (cx), xI (((N1 + 2 : Nat) : Int)), xI ((((N1 + 2 : Nat) : Int)) - ((1 : Int))), xB (decide (((a : Int)) = ((((N1 + 2 : Nat) : Int)) - ((1 : Int))))), xB (false), xI ((b : Int)), xP (ptrAt (A4) 1), xS (Z8) (N2 + 2) (cz), xI (((N2 + 2 : Nat) : Int)), xI ((((N2 + 2 : Nat) : Int)) - ((1 : Int))), xB (decide (((b : Int)) = ((((N2 + 2 : Nat) : Int)) - ((1 : Int))))), xB (decide (((b : Int)) = ((((N2 + 2 : Nat) : Int)) - ((1 : Int))))), xB (decide (((b : Int)) = ((((N2 + 2 : Nat) : Int)) - ((1 : Int))))), xB (decide (((b : Int)) = ((((N2 + 2 : Nat) : Int)) - ((1 : Int)))))] (by kernel_rfl) (by kernel_rfl) O (exL O) ?_ ?_
     ·exact ⟨fun _ _ hb _ _ => Ops.fld (h3b.below hb) O O O O inferInstance (Az O), fun _ _ hb _ _ => Ops.ldf_s (h3b.below hb) O O O O O (Az O), Dr O, fun _ _ hb _ _ => Ops.idx (hx3.later hb).2 O O O (by omega) (by omega) (Az O), fun _ _ hb _ _ => Ops.ld_int (hx3.later hb) O (by omega) O O (Az O), fun _ _ hb _ _ => Ops.fld (h4b.below hb) O O O O inferInstance (Az O), fun _ _ hb _ _ => Ops.ldf_s (h4b.below hb) O O O O O (Az O), Dr O, fun _ _ hb _ _ => Ops.idx (hx4.later hb).2 O O O (by omega) (by omega) (Az O), fun _ _ hb _ _ => Ops.ld_int (hx4.later hb) O (by omega) O O (Az O), fun _ _ _ _ _ => Ops.add O O O (by omega) (Az O), Dr O, fun _ _ _ _ _ => Ops.add O O O (by omega) (Az O), Dr O, Dr O, fun _ _ _ _ _ => Dk O (by exact congrArg Value.bool (decide_eq_false (fun h => h q1))), Dr O, Dr O, fun _ _ _ _ _ => Dk O (by exact congrArg Value.bool (decide_eq_false (by omega))), Dr O, Dr O, Dr O, Dr O, Dr O, Dr O, Dr O, Dr O, fun _ _ _ _ _ => Dk O (by exact congrArg Value.bool (O)), Dr O, Dr O, fun _ _ _ _ _ => Dk O (by exact congrArg Value.bool (decide_eq_true k1)), Dr O, fun _ _ hb _ _ => Ops.g O O O (Ops.fld (h3b.below hb) O O O O inferInstance (Az O)), fun _ _ hb _ _ => Ops.g O O O (Ops.ldf_s (h3b.below hb) O O O O O (Az O)), fun _ _ _ _ _ => Ops.g O O O (Ops.len O O (Az O)), fun _ _ _ _ _ => Ops.g O O O (Ops.sub O O O (by omega) (Az O)), Dr O, fun _ _ _ _ _ => Dk O (by exact congrArg Value.bool (decide_eq_false p1)), Dr O, fun _ _ hb _ _ => Ops.g O O O (Ops.fld (h4b.below hb) O O O O inferInstance (Az O)), fun _ _ hb _ _ => Ops.g O O O (Ops.ldf_s (h4b.below hb) O O O O O (Az O)), fun _ _ _ _ _ => Ops.g O O O (Ops.len O O (Az O)), fun _ _ _ _ _ => Ops.g O O O (Ops.sub O O O (by omega) (Az O)), Dr O, Dr O, Dr O, Dr O, trivial⟩
     intro u w13 hb13 _
     have hS := hS.later hb13
     refine Gec O (Cd.cond_pf O p2 ?_)
     have hpt := hpt ⟨by rw [hrk]; exact q1, fun h => by have := hex.1 h; omega⟩
     have hl1 : (pxL (N1 + 2) (N2 + 2) (gi X1) (gi X2) kind i a (b + 1)).length = (pxL (N1 + 2) (N2 + 2) (gi X1) (gi X2) kind i a b).length + 1 := by rw [hpt, List.length_append]; rfl
     refine Gao O (Ops.bs1I hS O O O ?_)
     intro A91 w14 hS14
     refine Ops.appI 1 hS14 O (hS14.rdI 0 O) O O O (by omega) (by omega) O ?_
     intro AZ cZ w15 hS15
     have hS15 := hS15.tail
     refine Gdo O (Ops.bs1I hS15 O O O ?_)
     intro A92 w16 hS16
     refine Ops.appI 2 hS16 O (hS16.rdI 0 O) O O O (by omega) (by omega) O ?_
     intro AQ cQ w17 hS17
     have hS17 := hS17.tail
     refine Gdo O (Ops.fld (hS17.rd 2 O) O O O O inferInstance (Ops.ldf_s (j := 1) (hS17.rd 2 O) (by exact congrArg Value.pointer O) O O O O (Gdo O (Ops.bs1I hS17 O O O ?_))))
     intro A93 w18 hS18
     refine Ops.appI 4 hS18 O (hS18.rdI 0 O) O O O (by omega) (by omega) O ?_
     intro AW cW w19 hS19
     refine Ops.fld (hS19.rd 3 O) O O O O inferInstance (Ops.stf 3 (j := 1) hS19 O O O O O ?_)
     intro w20 hS20
     have hS20 := hS20.tail
     refine Gdo O (Ops.add O O O (by omega) (Gdn O (tQ ?_)))
     refine ⟨(b + 1, (AZ, cZ), (AQ, cQ), (AW, cW)), by show N2 + 2 - (b + 1) < N2 + 2 - b; omega, ⟨O, O, O, O, O, O, O, congrArg (fun m : Nat => Value.slice AZ m cZ) hl1.symm, congrArg (fun m : Nat => Value.slice AQ m cQ) hl1.symm, O, O, O, trivial⟩, by show b + 1 ≤ N2 + 2; omega, ?_⟩
     show St w w20 (pxK AZ AQ A12 AW cZ cQ cW (pxL _ _ _ _ kind i a (b + 1)) _ k KK)
     unfold pxK
     rw [hl1, hpt, List.map_append, List.map_append, List.map_append]
     rw [show [((a : Int), (b : Int))].map (rkP (gi X1) (gi X2) kind) = [(i : Int)] from congrArg (fun x => [x]) (hrk.trans q1)]
     exact hS20
    refine Gac O ?_
    refine Cd.draw [xP (ptrAt (A3) 1), xS (X8) (N1 + 2) (cx), xI ((a : Int)), xP (ptrAt (X8) ((a : Int)).toNat), xI (gi (X1) ((a : Int))), xP (ptrAt (A4) 1), xS (Z8) (N2 + 2) (cz), xI ((b : Int)), xP (ptrAt (Z8) ((b : Int)).toNat), xI (gi (X2) ((b : Int))), xI ((gi (X1) ((a : Int))) + (gi (X2) ((b : Int)))), xI ((shP kind)), xI (((gi (X1) ((a : Int))) + (gi (X2) ((b : Int)))) + ((shP kind))), xI ((i : Int)), xB (decide (¬ (((gi (X1) ((a : Int))) + (gi (X2) ((b : Int)))) + ((shP kind))) = ((i : Int)))), xB (false), xI (kind), xB (decide ((kind) = ((1 : Int)))), xB (false), xU, xU, xU, xU, xU, xU, xB (false), xB (false), xB (false), xI (kind), xB (decide ((kind) = ((2 : Int)))), xB (false), xU, xU, xU, xU, xU, xU, xU, xU, xU, xU, xU, xU, xU, xU, xB (false), xB (false)] (by kernel_rfl) (by kernel_rfl) O (exL O) ?_ ?_
    ·exact ⟨fun _ _ hb _ _ => Ops.fld (h3b.below hb) O O O O inferInstance (Az O), fun _ _ hb _ _ => Ops.ldf_s (h3b.below hb) O O O O O (Az O), Dr O, fun _ _ hb _ _ => Ops.idx (hx3.later hb).2 O O O (by omega) (by omega) (Az O), fun _ _ hb _ _ => Ops.ld_int (hx3.later hb) O (by omega) O O (Az O), fun _ _ hb _ _ => Ops.fld (h4b.below hb) O O O O inferInstance (Az O), fun _ _ hb _ _ => Ops.ldf_s (h4b.below hb) O O O O O (Az O), Dr O, fun _ _ hb _ _ => Ops.idx (hx4.later hb).2 O O O (by omega) (by omega) (Az O), fun _ _ hb _ _ => Ops.ld_int (hx4.later hb) O (by omega) O O (Az O), fun _ _ _ _ _ => Ops.add O O O (by omega) (Az O), Dr O, fun _ _ _ _ _ => Ops.add O O O (by omega) (Az O), Dr O, Dr O, fun _ _ _ _ _ => Dk O (by exact congrArg Value.bool (decide_eq_false (fun h => h q1))), Dr O, Dr O, fun _ _ _ _ _ => Dk O (by exact congrArg Value.bool (decide_eq_false (by omega))), Dr O, Dr O, Dr O, Dr O, Dr O, Dr O, Dr O, Dr O, fun _ _ _ _ _ => Dk O (by exact congrArg Value.bool (O)), Dr O, Dr O, fun _ _ _ _ _ => Dk O (by exact congrArg Value.bool (decide_eq_false (by omega))), Dr O, Dr O, Dr O, Dr O, Dr O, Dr O, Dr O, Dr O, Dr O, Dr O, Dr O, Dr O, Dr O, Dr O, Dr O, Dr O, trivial⟩
    intro u w13 hb13 _
    have hS := hS.later hb13
    refine Gec O (Cd.cond_f O ?_)
    have hpt := hpt ⟨by rw [hrk]; exact q1, fun h => by have := hex.1 h; omega⟩
    have hl1 : (pxL (N1 + 2) (N2 + 2) (gi X1) (gi X2) kind i a (b + 1)).length = (pxL (N1 + 2) (N2 + 2) (gi X1) (gi X2) kind i a b).length + 1 := by rw [hpt, List.length_append]; rfl
    refine Gao O (Ops.bs1I hS O O O ?_)
    intro A91 w14 hS14
    refine Ops.appI 1 hS14 O (hS14.rdI 0 O) O O O (by omega) (by omega) O ?_
    intro AZ cZ w15 hS15
    have hS15 := hS15.tail
    refine Gdo O (Ops.bs1I hS15 O O O ?_)
    intro A92 w16 hS16
    refine Ops.appI 2 hS16 O (hS16.rdI 0 O) O O O (by omega) (by omega) O ?_
    intro AQ cQ w17 hS17
    have hS17 := hS17.tail
    refine Gdo O (Ops.fld (hS17.rd 2 O) O O O O inferInstance (Ops.ldf_s (j := 1) (hS17.rd 2 O) (by exact congrArg Value.pointer O) O O O O (Gdo O (Ops.bs1I hS17 O O O ?_))))
    intro A93 w18 hS18
    refine Ops.appI 4 hS18 O (hS18.rdI 0 O) O O O (by omega) (by omega) O ?_
    intro AW cW w19 hS19
    refine Ops.fld (hS19.rd 3 O) O O O O inferInstance (Ops.stf 3 (j := 1) hS19 O O O O O ?_)
    intro w20 hS20
    have hS20 := hS20.tail
    refine Gdo O (Ops.add O O O (by omega) (Gdn O (tQ ?_)))
    refine ⟨(b + 1, (AZ, cZ), (AQ, cQ), (AW, cW)), by show N2 + 2 - (b + 1) < N2 + 2 - b; omega, ⟨O, O, O, O, O, O, O, congrArg (fun m : Nat => Value.slice AZ m cZ) hl1.symm, congrArg (fun m : Nat => Value.slice AQ m cQ) hl1.symm, O, O, O, trivial⟩, by show b + 1 ≤ N2 + 2; omega, ?_⟩
    show St w w20 (pxK AZ AQ A12 AW cZ cQ cW (pxL _ _ _ _ kind i a (b + 1)) _ k KK)
    unfold pxK
    rw [hl1, hpt, List.map_append, List.map_append, List.map_append]
    rw [show [((a : Int), (b : Int))].map (rkP (gi X1) (gi X2) kind) = [(i : Int)] from congrArg (fun x => [x]) (hrk.trans q1)]
    exact hS20
   have hbe : b = N2 + 2 := by omega
   subst hbe
   rw [← pxL_row] at hS ⊢
   refine Gax O (thenQ_x (Gfo O (Ops.add O O O (by omega) (Gdn O (tQ ?_)))))
   exact ⟨(a + 1, (A10, c10), (A11, c11), (AR, cR)), by show N1 + 2 - (a + 1) < N1 + 2 - a; omega, ⟨O, O, O, O, O, O, O, O, O, O, O, trivial⟩, by show a + 1 ≤ N1 + 2; omega, hS⟩
  have hae : a = N1 + 2 := by omega
  subst hae
  rw [pxL_rank] at hS ⊢
  have hmo := prL_mono (m1 := N1 + 2) (m2 := N2 + 2) (rk1 := gi X1) (rk2 := gi X2) (kind := kind) (show i + 1 ≤ k by omega)
  have hpl : pxL (N1 + 2) (N2 + 2) (gi X1) (gi X2) kind (i + 1) 0 0 = prL (N1 + 2) (N2 + 2) (gi X1) (gi X2) kind (i + 1) := pxL_0
  rw [hpl]
  refine Gax O (thenQ_x (Gfo O (Ops.len O O (Gdc O ?_))))
  refine Cd.cond_p _ O (fun h4 => ?_) (fun h4 => ?_)
  ·have hS' := hS
   rw [hKK] at hS'
   refine Gao O (Ops.bldP0 (by exact inferInstance) (by exact inferInstance) (by exact inferInstance) O (Ops.st_agg 3 4 hS' O O O O O O O ?_))
   intro w13 hS13
   refine Gdr O (thenQ_r (Qk_ret ?_))
   refine retc2_r O (hS13.rd 4 O) O ?_
   exact .inl ⟨.inr (by rw [List.length_map]; omega), O, hS13.none⟩
  refine Gao O (Ops.add O O O (by omega) (Gdn O (tQ ?_)))
  rw [← hpl]
  exact ⟨(i + 1, (A10, c10), (A11, c11), (AR, cR)), by show k - (i + 1) < k - i; omega, ⟨O, O, O, O, O, O, O, O, O, O, trivial⟩, by show i + 1 ≤ k; omega, by show (prL _ _ _ _ kind (i + 1)).length ≤ 500; omega, hS⟩
 obtain rfl : i = k := by omega
 rw [pxL_0] at hS ⊢
 have hel := fun (c : Int × Int) => (prL_mem (m1 := N1 + 2) (m2 := N2 + 2) (rk1 := gi X1) (rk2 := gi X2) (kind := kind) (k := i) (c := c))
 have hS9 := hS.nil 32
 generalize prL (N1 + 2) (N2 + 2) (gi X1) (gi X2) kind i = PL at *
 clear hS
 have hPL : PL.length ≤ 500 := hlen
 have hin : ∀ e : Nat, e < PL.length → (0 ≤ (gp PL (e : Int)).1 ∧ (gp PL (e : Int)).1 < (N1 : Int) + 2) ∧ (0 ≤ (gp PL (e : Int)).2 ∧ (gp PL (e : Int)).2 < (N2 : Int) + 2) := fun e he => by
  have hm : gp PL (e : Int) ∈ PL := by rw [gp_mem he]; exact List.getElem_mem _
  obtain ⟨j, hj, hE⟩ := (hel _).1 hm
  have q1 := hE.1; have q2 := hE.2.1
  refine ⟨⟨q1.1, ?_⟩, q2.1, ?_⟩
  ·have := q1.2; omega
  have := q2.2; omega
 have hfs : ∀ e : Nat, e < PL.length → gi (PL.map Prod.fst) (e : Int) = (gp PL (e : Int)).1 ∧ gi (PL.map Prod.snd) (e : Int) = (gp PL (e : Int)).2 := fun e he => by
  rw [gi_mem (by rw [List.length_map]; exact he), gi_mem (by rw [List.length_map]; exact he), List.getElem_map, List.getElem_map, gp_mem he]
  exact ⟨O, O⟩
 have hbt := fun i => prBt_next N1 N2 B1 B2 PL i
 have hbl := fun i => prBt_len N1 N2 B1 B2 PL i
 have hba := fun i (h : i ≤ PL.length) => beP_all N1 N2 B1 B2 PL h
 have hbn := fun i e => beP_next N1 N2 B1 B2 PL i e
 have hbe := fun i e => beP_len N1 N2 B1 B2 PL i e
 have hB1 : ∀ e : Int, 0 ≤ e → e < (N1 : Int) → ∀ d ∈ gl B1 e, 0 ≤ d ∧ d < (N1 : Int) := fun e h0 h1 => (hF1.bd e h0 h1).2
 have hB2 : ∀ e : Int, 0 ≤ e → e < (N2 : Int) → ∀ d ∈ gl B2 e, 0 ≤ d ∧ d < (N2 : Int) := fun e h0 h1 => (hF2.bd e h0 h1).2
 have hl1 := fun (b : Int) h => alBB_len_at (B := B1) (fun e h0 h1 => (hF1.bd e h0 h1).1) hb1 (b := b) h
 have hl2 := fun (b : Int) h => alBB_len_at (B := B2) (fun e h0 h1 => (hF2.bd e h0 h1).1) hb2 (b := b) h
 rw [hKK] at hS9
 have hS9 : St w w10 (pyK A10 A11 A12 AR none c10 c11 cR 0 0 PL (rkP (gi X1) (gi X2) kind) (i : Int) A6 A4 A3 [.int .i64 n2, .slice Z8 (N2 + 2) cz, .slice W8 (N2 + 2) cw] [.int .i64 n1, .slice X8 (N1 + 2) cx, .slice Y8 (N1 + 2) cy] [] (prBt N1 N2 B1 B2 PL 0)) := hS9.perm (List.perm_append_singleton _ _).symm
 clear hp3 hp4 hel
 refine Gax O (thenQ_x (Gfc O ?_))
 refine Cd.loop (α := Nat × (Option Addr × Nat) × List SlV) (fun z => [(3, .pointer A3), (4, .pointer A4), (6, .pointer A6), (10, .slice A10 PL.length c10), (11, .slice A11 PL.length c11), (12, .pointer A12), (16, .int .i64 (z.1 : Int))]) (fun z w' => z.1 ≤ PL.length ∧ z.2.2.length = z.1 ∧ St w w' (pyK A10 A11 A12 AR z.2.1.1 c10 c11 cR z.2.1.2 z.1 PL (rkP (gi X1) (gi X2) kind) (i : Int) A6 A4 A3 [.int .i64 n2, .slice Z8 (N2 + 2) cz, .slice W8 (N2 + 2) cw] [.int .i64 n1, .slice X8 (N1 + 2) cx, .slice Y8 (N1 + 2) cy] z.2.2 (prBt N1 N2 B1 B2 PL z.1))) (fun z => PL.length - z.1) (0, (none, 0), []) ⟨O, O, O, O, O, O, O, trivial⟩ ⟨Nat.zero_le _, O, hS9⟩ ?_
 clear hS9
 rintro ⟨e, ⟨AD, cD⟩, rsD⟩ e0 w11 ⟨he, hrD, hS⟩
 dsimp only at he hrD hS ⊢
 refine Gbo O (Ops.len O O (Gdc O ?_))
 refine Cd.cond_p _ O (fun h2 => ?_) (fun h2 => ?_)
 ·have heL : e < PL.length := by omega
  have hE := hin e heL
  have hEf := hfs e heL
  refine Gao O (Ops.bs0 hS O ?_)
  intro A17 w12 hS12
  refine Gdc O ?_
  refine Cd.loop (α := Nat × Option Addr × Nat) (fun z => [(3, .pointer A3), (4, .pointer A4), (6, .pointer A6), (10, .slice A10 PL.length c10), (11, .slice A11 PL.length c11), (12, .pointer A12), (16, .int .i64 (e : Int)), (17, .slice z.2.1 (beP N1 N2 B1 B2 PL e z.1).length z.2.2), (18, .int .i64 (z.1 : Int))]) (fun z w' => z.1 ≤ e ∧ St w w' (CkI 2 z.2.1 (beP N1 N2 B1 B2 PL e z.1).length z.2.2 (beP N1 N2 B1 B2 PL e z.1) :: pyK A10 A11 A12 AR AD c10 c11 cR cD e PL (rkP (gi X1) (gi X2) kind) (i : Int) A6 A4 A3 [.int .i64 n2, .slice Z8 (N2 + 2) cz, .slice W8 (N2 + 2) cw] [.int .i64 n1, .slice X8 (N1 + 2) cx, .slice Y8 (N1 + 2) cy] rsD (prBt N1 N2 B1 B2 PL e))) (fun z => e - z.1) (0, A17, 0) ⟨O, O, O, O, O, O, O, O, O, trivial⟩ ⟨Nat.zero_le _, hS12⟩ ?_
  clear hS12 hS
  rintro ⟨q, Ab, cb⟩ e1 w13 ⟨hq, hS⟩
  dsimp only at hq hS ⊢
  have hbq := hbe e q
  refine Gbc O ?_
  refine Cd.cond_p _ O (fun h3 => ?_) (fun h3 => ?_)
  ·have hqe : q < e := by omega
   have hQ := hin q (by omega)
   have hQf := hfs q (by omega)
   have hbnq := hbn e q
   have h3b := hS.rd 7 O
   have h4b := hS.rd 6 O
   have hf1 : RdI w13 A10 PL.length (PL.map Prod.fst) := hS.rdI 1 O
   have hf2 : RdI w13 A11 PL.length (PL.map Prod.snd) := hS.rdI 2 O
   have hr1 := (hF1.later hS.below).bl
   have hr2 := (hF2.later hS.below).bl
   have hi1 : 0 ≤ gi (PL.map Prod.fst) (e : Int) ∧ gi (PL.map Prod.fst) (e : Int) < ((N1 + 2 : Nat) : Int) := by rw [hEf.1]; omega
   have hi2 : 0 ≤ gi (PL.map Prod.snd) (e : Int) ∧ gi (PL.map Prod.snd) (e : Int) < ((N2 + 2 : Nat) : Int) := by rw [hEf.2]; omega
   have hn1' : (gl (alBB N1 B1) (gi (PL.map Prod.fst) (e : Int))).length ≤ 1000000 := by have := hl1 _ (show 0 ≤ gi (PL.map Prod.fst) (e : Int) ∧ gi (PL.map Prod.fst) (e : Int) < (N1 : Int) + 2 by omega); omega
   have hn2' : (gl (alBB N2 B2) (gi (PL.map Prod.snd) (e : Int))).length ≤ 1000000 := by have := hl2 _ (show 0 ≤ gi (PL.map Prod.snd) (e : Int) ∧ gi (PL.map Prod.snd) (e : Int) < (N2 : Int) + 2 by omega); omega
   have hu1 : (gi (PL.map Prod.fst) (q : Int) = gi (PL.map Prod.fst) (e : Int) ∨ gi (PL.map Prod.fst) (q : Int) ∈ gl (alBB N1 B1) (gi (PL.map Prod.fst) (e : Int))) ↔ UndP N1 B1 (gp PL (q : Int)).1 (gp PL (e : Int)).1 := by rw [hQf.1, hEf.1]; exact alBB_und hQ.1 hE.1 hB1
   have hu2 : (gi (PL.map Prod.snd) (q : Int) = gi (PL.map Prod.snd) (e : Int) ∨ gi (PL.map Prod.snd) (q : Int) ∈ gl (alBB N2 B2) (gi (PL.map Prod.snd) (e : Int))) ↔ UndP N2 B2 (gp PL (q : Int)).2 (gp PL (e : Int)).2 := by rw [hQf.2, hEf.2]; exact alBB_und hQ.2 hE.2 hB2
   have hskip : ¬ (UndP N1 B1 (gp PL (q : Int)).1 (gp PL (e : Int)).1 ∧ UndP N2 B2 (gp PL (q : Int)).2 (gp PL (e : Int)).2) → beP N1 N2 B1 B2 PL e (q + 1) = beP N1 N2 B1 B2 PL e q := fun h => by rw [hbnq, if_neg h]
   by_cases h5 : gi (PL.map Prod.fst) (q : Int) = gi (PL.map Prod.fst) (e : Int) ∨ gi (PL.map Prod.fst) (q : Int) ∈ gl (alBB N1 B1) (gi (PL.map Prod.fst) (e : Int))
   ·refine Gac O ?_
    refine Cd.draw [.ex (.agg #[.int .i64 (n1), .slice (X8) (N1 + 2) (cx), .slice (Y8) (N1 + 2) (cy)]), xS (A10) (PL.length) (c10), xI ((q : Int)), xP (ptrAt (A10) ((q : Int)).toNat), xI (gi (PL.map Prod.fst) ((q : Int))), xS (A10) (PL.length) (c10), xI ((e : Int)), xP (ptrAt (A10) ((e : Int)).toNat), xI (gi (PL.map Prod.fst) ((e : Int))), xB (true), xB (true), .ex (.agg #[.int .i64 (n2), .slice (Z8) (N2 + 2) (cz), .slice (W8) (N2 + 2) (cw)]), xS (A11) (PL.length) (c11), xI ((q : Int)), xP (ptrAt (A11) ((q : Int)).toNat), xI (gi (PL.map Prod.snd) ((q : Int))), xS (A11) (PL.length) (c11), xI ((e : Int)), xP (ptrAt (A11) ((e : Int)).toNat), xI (gi (PL.map Prod.snd) ((e : Int))), xB (decide (gi (PL.map Prod.snd) (q : Int) = gi (PL.map Prod.snd) (e : Int) ∨ gi (PL.map Prod.snd) (q : Int) ∈ gl (alBB N2 B2) (gi (PL.map Prod.snd) (e : Int)))), xB (decide (gi (PL.map Prod.snd) (q : Int) = gi (PL.map Prod.snd) (e : Int) ∨ gi (PL.map Prod.snd) (q : Int) ∈ gl (alBB N2 B2) (gi (PL.map Prod.snd) (e : Int))))] (by kernel_rfl) (by kernel_rfl) O (exL O) ?_ ?_
    ·refine ⟨fun _ _ hb _ _ => Ops.ld_agg 2 (h3b.below hb) O O O (Az O), Dr O, Dr O, fun _ _ hb _ _ => Ops.idx (hf1.later hb).2 O O O (by omega) (by omega) (Az O), fun _ _ hb _ _ => Ops.ld_int (hf1.later hb) O (by omega) O O (Az O), Dr O, Dr O, fun _ _ hb _ _ => Ops.idx (hf1.later hb).2 O O O (by omega) (by omega) (Az O), fun _ _ hb _ _ => Ops.ld_int (hf1.later hb) O (by omega) O O (Az O), ?_, Dr O, fun _ _ hb _ _ => Ops.g O O O (Ops.ld_agg 2 (h4b.below hb) O O O (Az O)), Dr O, Dr O, fun _ _ hb _ _ => Ops.g O O O (Ops.idx (hf2.later hb).2 O O O (by omega) (by omega) (Az O)), fun _ _ hb _ _ => Ops.g O O O (Ops.ld_int (hf2.later hb) O (by omega) O O (Az O)), Dr O, Dr O, fun _ _ hb _ _ => Ops.g O O O (Ops.idx (hf2.later hb).2 O O O (by omega) (by omega) (Az O)), fun _ _ hb _ _ => Ops.g O O O (Ops.ld_int (hf2.later hb) O (by omega) O O (Az O)), ?_, Dr O, trivial⟩
     ·intro e1 w1 hb hp hun; refine Ops.call (l09Within_c n1 X8 (N1 + 2) cx Y8 (N1 + 2) cy ys1 (alBB N1 B1) (gi (PL.map Prod.fst) (q : Int)) (gi (PL.map Prod.fst) (e : Int)) _ (hr1.later hb) (alBB_len _ _) hi1 hn1') O O O ?_
      rintro _ w2 ⟨rfl, hst⟩
      refine Ops.n ?_
      exact After.dn hst.below (by exact congrArg Value.bool (decide_eq_true h5))
     intro e1 w1 hb hp hun
     refine Ops.g O O O (Ops.call (l09Within_c n2 Z8 (N2 + 2) cz W8 (N2 + 2) cw ys2 (alBB N2 B2) (gi (PL.map Prod.snd) (q : Int)) (gi (PL.map Prod.snd) (e : Int)) _ (hr2.later hb) (alBB_len _ _) hi2 hn2') O O O ?_)
     rintro _ w2 ⟨rfl, hst⟩
     refine Ops.n ?_
     exact After.dn hst.below (by exact O)
    intro u w14 hb14 _
    have hS := hS.later hb14
    refine Gec O ?_
    refine Cd.cond_p _ O (fun h6 => ?_) (fun h6 => ?_)
    ·rw [if_pos ⟨hu1.1 h5, hu2.1 h6⟩] at hbnq
     refine Gao O (Ops.bs1I hS O O O ?_)
     intro A9 w15 hS15
     refine Ops.appI 1 hS15 O (hS15.rdI 0 O) O O O (by omega) (by omega) O ?_
     intro AZ cZ w16 hS16
     have hS16 := hS16.tail
     refine Gdo O (Ops.add O O O (by omega) (Gdn O (tQ ?_)))
     refine ⟨(q + 1, AZ, cZ), by show e - (q + 1) < e - q; omega, ⟨O, O, O, O, O, O, O, ?_, O, trivial⟩, by show q + 1 ≤ e; omega, ?_⟩
     ·show Value.slice _ _ _ = Value.slice _ _ _
      rw [hbnq, List.length_append]; rfl
     show St w w16 (CkI _ AZ (beP N1 N2 B1 B2 PL e (q + 1)).length cZ _ :: _)
     rw [hbnq, List.length_append]; exact hS16
    have hsk := hskip (fun h => h6 (hu2.2 h.2))
    refine Gao O (Ops.add O O O (by omega) (Gdn O (tQ ?_)))
    refine ⟨(q + 1, Ab, cb), by show e - (q + 1) < e - q; omega, ⟨O, O, O, O, O, O, O, ?_, O, trivial⟩, by show q + 1 ≤ e; omega, ?_⟩
    ·show Value.slice _ _ _ = Value.slice _ _ _
     rw [hsk]
    show St w w14 (CkI _ Ab (beP N1 N2 B1 B2 PL e (q + 1)).length cb _ :: _)
    rw [hsk]; exact hS
   refine Gac O ?_
   refine Cd.draw [.ex (.agg #[.int .i64 (n1), .slice (X8) (N1 + 2) (cx), .slice (Y8) (N1 + 2) (cy)]), xS (A10) (PL.length) (c10), xI ((q : Int)), xP (ptrAt (A10) ((q : Int)).toNat), xI (gi (PL.map Prod.fst) ((q : Int))), xS (A10) (PL.length) (c10), xI ((e : Int)), xP (ptrAt (A10) ((e : Int)).toNat), xI (gi (PL.map Prod.fst) ((e : Int))), xB (false), xB (false), xU, xU, xU, xU, xU, xU, xU, xU, xU, xU, xB (false)] (by kernel_rfl) (by kernel_rfl) O (exL O) ?_ ?_
   ·refine ⟨fun _ _ hb _ _ => Ops.ld_agg 2 (h3b.below hb) O O O (Az O), Dr O, Dr O, fun _ _ hb _ _ => Ops.idx (hf1.later hb).2 O O O (by omega) (by omega) (Az O), fun _ _ hb _ _ => Ops.ld_int (hf1.later hb) O (by omega) O O (Az O), Dr O, Dr O, fun _ _ hb _ _ => Ops.idx (hf1.later hb).2 O O O (by omega) (by omega) (Az O), fun _ _ hb _ _ => Ops.ld_int (hf1.later hb) O (by omega) O O (Az O), ?_, Dr O, Dr O, Dr O, Dr O, Dr O, Dr O, Dr O, Dr O, Dr O, Dr O, Dr O, Dr O, trivial⟩
    intro e1 w1 hb hp hun
    refine Ops.call (l09Within_c n1 X8 (N1 + 2) cx Y8 (N1 + 2) cy ys1 (alBB N1 B1) (gi (PL.map Prod.fst) (q : Int)) (gi (PL.map Prod.fst) (e : Int)) _ (hr1.later hb) (alBB_len _ _) hi1 hn1') O O O ?_
    rintro _ w2 ⟨rfl, hst⟩
    refine Ops.n ?_
    exact After.dn hst.below (by exact congrArg Value.bool (decide_eq_false h5))
   intro u w14 hb14 _
   have hS := hS.later hb14
   refine Gec O (Cd.cond_f O ?_)
   have hsk := hskip (fun h => h5 (hu1.2 h.1))
   refine Gao O (Ops.add O O O (by omega) (Gdn O (tQ ?_)))
   refine ⟨(q + 1, Ab, cb), by show e - (q + 1) < e - q; omega, ⟨O, O, O, O, O, O, O, ?_, O, trivial⟩, by show q + 1 ≤ e; omega, ?_⟩
   ·show Value.slice _ _ _ = Value.slice _ _ _
    rw [hsk]
   show St w w14 (CkI _ Ab (beP N1 N2 B1 B2 PL e (q + 1)).length cb _ :: _)
   rw [hsk]; exact hS
  obtain rfl : q = e := by omega
  have hbaq := hba q he
  have hbtq := hbt q
  rw [hbaq] at hS ⊢
  refine Gax O (thenQ_x (Gfo O ?_))
  refine Ops.fld (hS.rd 3 O) O O O O inferInstance (Ops.ldf_s (j := 2) (hS.rd 3 O) (by exact congrArg Value.pointer O) O O O O (Gdo O (Ops.bs1R hS O O O ?_)))
  intro A9 w16 hS16
  refine Ops.appR 9 hS16 O (hS16.rdR 0 O) O O O (by omega) (by omega) O ?_
  intro AZ cZ w17 hS17
  refine Ops.fld (hS17.rd 4 O) O O O O inferInstance (Ops.stf 4 (j := 2) hS17 O O O O O ?_)
  intro w18 hS18
  have hS18 := hS18.tail
  have hS18 := hS18.perm (perm_j9 _ _ _ _ _ _ _ _ _ _)
  refine Gdo O (Ops.add O O O (by omega) (Gdn O (tQ ?_)))
  refine ⟨(q + 1, (AZ, cZ), rsD ++ [⟨Ab, (prBe (UndP N1 B1) (UndP N2 B2) PL (q : Int)).length, cb⟩]), by show PL.length - (q + 1) < PL.length - q; omega, ⟨O, O, O, O, O, O, O, trivial⟩, by show q + 1 ≤ PL.length; omega, by show (rsD ++ [_]).length = q + 1; rw [List.length_append, hrD]; rfl, ?_⟩
  show St w w18 (pyK A10 A11 A12 AR AZ c10 c11 cR cZ (q + 1) PL (rkP (gi X1) (gi X2) kind) (i : Int) A6 A4 A3 [.int .i64 n2, .slice Z8 (N2 + 2) cz, .slice W8 (N2 + 2) cw] [.int .i64 n1, .slice X8 (N1 + 2) cx, .slice Y8 (N1 + 2) cy] (rsD ++ [_]) (prBt N1 N2 B1 B2 PL (q + 1)))
  rw [hbtq]
  unfold pyK mat
  rw [rowsCk_snoc (by rw [hrD, prBt_len])]
  exact hS18
 obtain rfl : e = PL.length := by omega
 refine Gax O (thenQ_x (Gfo O ?_))
 refine Ops.ld_agg 2 (hS.rd 2 O) O O O (Ops.st_agg 3 4 hS O O O O O O O ?_)
 intro w12 hS12
 refine Gdr O (retc2_r O (hS12.rd 4 O) O ?_)
 have hml : (PL.map (rkP (gi X1) (gi X2) kind)).length = PL.length := List.length_map _
 refine .inr ⟨⟨hk5, by omega⟩, AR, cR, AD, cD, rsD, by rw [hml]; rfl, by omega, by rw [hml]; exact prBt_len N1 N2 B1 B2 PL PL.length, ?_⟩
 rw [hml]
 exact hS12.sub (show List.Sublist (CkI 2 AR PL.length cR (PL.map (rkP (gi X1) (gi X2) kind)) :: (mat 32 2 AD PL.length cD rsD (prBt N1 N2 B1 B2 PL PL.length) ++ [])) _ from ((((((List.Sublist.refl _).cons _).cons _).cons _).cons_cons _).cons _).cons _ |>.cons _)
/-
 The product of two maniplexes' posets, walked in the reference.
-/
def AnsPb (n : Int) (R : List Int) (B : List (List Int)) (b : Bool) (w : World) (v : Value) (w' : World) : Prop :=
 ∃ AR c AD d rs, v = .tuple #[.agg #[.int .i64 n, .slice AR R.length c, .slice AD B.length d], .bool b] ∧ rs.length = B.length ∧ St w w' (CkI 2 AR R.length c R :: (mat 32 2 AD B.length d rs B ++ []))
theorem AnsPx.b {k : Nat} {RL : List Int} {BL : List (List Int)} {w w' : World} {v : Value} (h : AnsPx k RL BL w v w') : AnsPb (if k ≤ 5 ∧ RL.length ≤ 500 then (k : Int) else 0) (if k ≤ 5 ∧ RL.length ≤ 500 then RL else []) (if k ≤ 5 ∧ RL.length ≤ 500 then BL else []) (decide (k ≤ 5 ∧ RL.length ≤ 500)) w v w' := by
 rcases h with ⟨hb, rfl, hS⟩ | ⟨hb, AR, c, AD, d, rs, rfl, h1, h2, hS⟩
 ·have hn : ¬ (k ≤ 5 ∧ RL.length ≤ 500) := by omega
  rw [if_neg hn, if_neg hn, if_neg hn, decide_eq_false hn]
  exact ⟨none, 0, none, 0, [], O, O, (hS.nil _).nil _⟩
 rw [if_pos hb, if_pos hb, if_pos hb, decide_eq_true hb]
 exact ⟨AR, c, AD, d, rs, by rw [h2], by rw [h2]; exact h1, by rw [h2]; exact hS⟩
theorem faR_of {M : List (List Int)} {w w' : World} {X Y : Option Addr} {cx cy : Nat} {ys : List SlV} (hM : Mani M) (hb : offP M M.length ≤ 500) (h : St w w' (CkI 2 X (offP M M.length + 2) cx (fcR M.length (fpR M M.length)) :: (mat 32 2 Y (offP M M.length + 2) cy ys (alBB (offP M M.length) (fpB M)) ++ []))) :
  FaR w' X (fcR M.length (fpR M M.length)) (offP M M.length) Y ys (fpB M) := by
 have hP := posP_of hM hb
 have hl := fpR_len M M.length
 refine ⟨by rw [fcR_len, hl], hb, h.rdI 0 O, ?_, fun e h0 h1 => ?_⟩
 ·exact (h.sub (show (mat 32 2 Y (offP M M.length + 2) cy ys (alBB (offP M M.length) (fpB M))).Sublist _ from (List.sublist_append_left _ _).cons _)).rowsI1 (alBB_len _ _)
 have h2 := hP.at_ (e := e) h0 (by rw [hl]; exact h1)
 refine ⟨?_, fun d hd => ?_⟩
 ·have := nodup_le_int (N := (fpR M M.length).length) h2.1.nodup fun x hx => by have := (h2.2.1 x hx).1; omega
  omega
 have := (h2.2.1 d hd).1; omega
/-
 An answer: a maniplex and a code.
-/
def AnsX (L : List (List Int)) (K : Int) (w : World) (v : Value) (w' : World) : Prop := ∃ A c, ∃ rs : List SlV, v = .tuple #[.agg #[.slice A L.length c], .int .i64 K] ∧ rs.length = L.length ∧ St w w' (mat 32 2 A L.length c rs L)
theorem AnsX.none {w w' : World} {ks : List Ck} {K : Int} (h : St w w' ks) : AnsX [] K w (.tuple #[.agg #[.slice Option.none 0 0], .int .i64 K]) w' := ⟨Option.none, 0, [], rfl, rfl, h.none.nil _⟩
/-
 The laws' marks over lists of lists, told exactly.
-/
def tot (xss : List (List Int)) : Int := ((xss.map List.length).sum : Nat)
theorem tot_snoc (xs : List (List Int)) (x : List Int) : tot (xs ++ [x]) = tot xs + x.length := by simp [tot]
theorem tot_le {b : Nat} : ∀ (xs : List (List Int)), (∀ x ∈ xs, x.length ≤ b) → 0 ≤ tot xs ∧ tot xs ≤ (xs.length * b : Nat)
 | [], _ => by simp [tot]
 | x :: xs, h => by
  have h1 := tot_le xs (fun y hy => h y (by simp [hy]))
  have h2 := h x (by simp)
  have e : tot (x :: xs) = x.length + tot xs := by simp [tot]
  rw [e, List.length_cons, Nat.succ_mul]
  omega
def mkSS (k : Int) : List (List Int) → List (List Int)
 | [] => []
 | x :: xs => marks k x.length :: mkSS (k + x.length) xs
theorem mkSS_len : ∀ (xs : List (List Int)) (k : Int), (mkSS k xs).length = xs.length
 | [], _ => rfl
 | _ :: xs, k => by simp [mkSS, mkSS_len xs]
theorem mkSS_snoc (x : List Int) : ∀ (xs : List (List Int)) (k : Int), mkSS k (xs ++ [x]) = mkSS k xs ++ [marks (k + tot xs) x.length]
 | [], k => by simp [mkSS, tot]
 | y :: xs, k => by
  have e : tot (y :: xs) = y.length + tot xs := by simp [tot]
  simp only [List.cons_append, mkSS]
  rw [mkSS_snoc x xs, e, Int.add_assoc]
theorem mkSS_get {xs : List (List Int)} {k : Int} {i : Nat} (hi : i < xs.length) : (mkSS k xs)[i]? = some (marks (k + tot (xs.take i)) xs[i].length) := by
 have h1 : xs = (xs.take i ++ [xs[i]]) ++ xs.drop (i + 1) := by rw [← List.take_succ_eq_append_getElem hi, List.take_append_drop]
 have gen : ∀ (a b : List (List Int)) (k : Int), ∃ r, mkSS k (a ++ b) = mkSS k a ++ r := by
  intro a
  induction a with
  | nil => intro b k; exact ⟨_, rfl⟩
  | cons y a ih =>
   intro b k
   obtain ⟨r, hr⟩ := ih b (k + y.length)
   exact ⟨r, by simp only [List.cons_append, mkSS]; rw [hr]⟩
 obtain ⟨r, hr⟩ := gen (xs.take i ++ [xs[i]]) (xs.drop (i + 1)) k
 rw [← h1, mkSS_snoc] at hr
 have h2 : (mkSS k (xs.take i)).length = i := by rw [mkSS_len]; simp; omega
 rw [hr, List.append_assoc, List.getElem?_append_right (by omega), h2]
 simp
def mixM (k : Int) (xs : List (List Int)) (i : Nat) : List (List Int) := mkSS k (xs.take i) ++ xs.drop i
theorem mixM_len (k : Int) (xs : List (List Int)) (i : Nat) : (mixM k xs i).length = xs.length := by simp [mixM, mkSS_len]; omega
theorem mixM_get {k : Int} {xs : List (List Int)} {i : Nat} (h : i < xs.length) : (mixM k xs i).getD i [] = xs[i] := by
 have h2 : (mkSS k (xs.take i)).length = i := by rw [mkSS_len]; simp; omega
 rw [mixM, List.getD_eq_getElem?_getD, List.getElem?_append_right (by omega), h2]
 simp [h]
theorem mixM_step {k : Int} {xs : List (List Int)} {i : Nat} (h : i < xs.length) : (mixM k xs i).set i (marks (k + tot (xs.take i)) xs[i].length) = mixM k xs (i + 1) := by
 have h2 : (mkSS k (xs.take i)).length = i := by rw [mkSS_len]; simp; omega
 unfold mixM
 rw [List.set_append_right _ _ (by omega), h2, Nat.sub_self, List.take_succ_eq_append_getElem h, mkSS_snoc, List.append_assoc, List.drop_eq_getElem_cons h]
 rfl
theorem markSS_c {w0 w : World} {pre post : List Ck} {t1 t2 : TypeId} {A : Option Addr} {n c : Nat} {rs : List SlV} {xss : List (List Int)} (k : Int) (hS : St w0 w (pre ++ (mat t1 t2 A n c rs xss ++ post))) (hrl : rs.length = n) (hxl : xss.length = n) (hn : n ≤ 1000) (hr : ∀ x ∈ xss, x.length ≤ 1000) (hk0 : 0 ≤ k ∧ k ≤ 1000000000000000) :
  Ret Tryz.prog 77 [.slice A n c, .int .i64 k] w (fun v w' => v = .int .i64 (k + tot xss) ∧ St w0 w' (pre ++ (mat t1 t2 A n c rs (mkSS k xss) ++ post))) := by
 refine Ret.of_cd Tryz.func77 O Tryz.ntmps77 O (post1 O) (Gbc O ?_)
 refine Cd.loop (α := Nat) (fun i => [(0, .slice A n c), (1, .int .i64 (k + tot (xss.take i))), (5, .int .i64 (i : Int))]) (fun i w' => St w0 w' (pre ++ (mat t1 t2 A n c rs (mixM k xss i) ++ post)) ∧ i ≤ n) (fun i => n - i) 0 ⟨O, by show Value.int .i64 _ = .int .i64 _; simp [tot], O, trivial⟩ ⟨by simpa [mixM, mkSS] using hS, Nat.zero_le _⟩ ?_
 rintro i e w1 ⟨hS1, hi⟩
 have hyl := mixM_len k xss i
 have hM := (hS1.sub (List.sublist_append_right _ _)).rowsI (by omega)
 have htb := tot_le (b := 1000) (xss.take i) (fun x hx => hr x (List.mem_of_mem_take hx))
 have htl : (xss.take i).length ≤ 1000 := by simp; omega
 have htm : (xss.take i).length * 1000 ≤ 1000 * 1000 := Nat.mul_le_mul_right 1000 htl
 refine Gbo O (Ops.len O O (Gdc O ?_))
 refine Cd.cond_p _ O (fun h1 => ?_) (fun h1 => ?_)
 ·have hi' : i < xss.length := by omega
  have hget := mat_get (t1 := t1) (t2 := t2) (A := A) (n := n) (c := c) (rs := rs) (xss := mixM k xss i) (pre := pre) (ks := post) (i := i) (by omega) (by omega)
  have hset := fun l => mat_set (t1 := t1) (t2 := t2) (A := A) (n := n) (c := c) (rs := rs) (xss := mixM k xss i) (pre := pre) (ks := post) (i := i) (xs := l) (by omega) (by omega)
  rw [mixM_get hi'] at hget
  have hln := hS1.lenI _ hget
  have hxi := hr xss[i] (List.getElem_mem hi')
  have hst := mixM_step (k := k) hi'
  have htot : tot (xss.take (i + 1)) = tot (xss.take i) + xss[i].length := by rw [List.take_succ_eq_append_getElem hi', tot_snoc]
  refine Gao O (Ops.idx hM.top.2 O O O (by omega) h1 (Ops.ld_sl hM.top O (by omega) O O (Gdo O ?_)))
  refine Ops.call (markInt64S_c (pre.length + 1 + i) (k + tot (xss.take i)) hS1 hget ⟨by omega, by omega⟩) O O O ?_
  rintro _ w2 ⟨rfl, hS2⟩
  rw [hset, ← hln, hst] at hS2
  refine Gdo O (Ops.add O O O (by omega) (Gdn O (tQ ?_)))
  exact ⟨i + 1, by show n - (i + 1) < n - i; omega, ⟨O, by show Value.int .i64 _ = .int .i64 _; rw [htot, ← Int.add_assoc, hln], O, trivial⟩, hS2, by omega⟩
 refine Gax O (thenQ_x (Gfr O ?_))
 refine ret1_i O ?_
 have hin : i = n := by omega
 subst hin
 have e1 : xss.take i = xss := List.take_of_length_le (by omega)
 have e2 : mixM k xss i = mkSS k xss := by rw [mixM, e1, List.drop_of_length_le (by omega), List.append_nil]
 rw [e1]
 rw [e2] at hS1
 exact ⟨O, hS1⟩
theorem heldSS_c (A : Option Addr) (n c : Nat) (rs : List SlV) (xss : List (List Int)) (k : Int) (w : World) (hR : RowsI w A n rs (mkSS k xss)) (hn : n ≤ 1000) (hr : ∀ x ∈ xss, x.length ≤ 1000) (hk0 : 0 ≤ k ∧ k ≤ 1000000000000000) :
  Ret Tryz.prog 78 [.slice A n c, .int .i64 k] w (fun v w' => v = .int .i64 (k + tot xss) ∧ w' = w) := by
 have hxl : xss.length = n := by rw [← mkSS_len xss k]; exact hR.len
 refine Ret.of_cd Tryz.func78 O Tryz.ntmps78 O (post1 O) (Gbc O ?_)
 refine Cd.loop (α := Nat) (fun i => [(0, .slice A n c), (1, .int .i64 (k + tot (xss.take i))), (5, .int .i64 (i : Int))]) (fun i w' => w' = w ∧ i ≤ n) (fun i => n - i) 0 ⟨O, by show Value.int .i64 _ = .int .i64 _; simp [tot], O, trivial⟩ ⟨O, Nat.zero_le _⟩ ?_
 rintro i e w ⟨rfl, hi⟩
 have htb := tot_le (b := 1000) (xss.take i) (fun x hx => hr x (List.mem_of_mem_take hx))
 have htl : (xss.take i).length ≤ 1000 := by simp; omega
 have htm : (xss.take i).length * 1000 ≤ 1000 * 1000 := Nat.mul_le_mul_right 1000 htl
 refine Gbo O (Ops.len O O (Gdc O ?_))
 refine Cd.cond_p _ O (fun h1 => ?_) (fun h1 => ?_)
 ·have hi' : i < xss.length := by omega
  have hxi := hr xss[i] (List.getElem_mem hi')
  have htot : tot (xss.take (i + 1)) = tot (xss.take i) + xss[i].length := by rw [List.take_succ_eq_append_getElem hi', tot_snoc]
  have hrow := hR.at_ (i := (i : Int)) (by omega) h1
  have hg : gl (mkSS k xss) (i : Int) = marks (k + tot (xss.take i)) xss[i].length := by
   simp only [gl, Int.toNat_natCast, List.getD_eq_getElem?_getD, mkSS_get hi', Option.getD_some]
  rw [hg] at hrow
  have hln := hrow.1
  rw [marks_len] at hln
  rw [hln] at hrow
  refine Gao O (Ops.idx hR.top.2 O O O (by omega) h1 (Ops.ld_sl hR.top O (by omega) O O (Gdo O ?_)))
  refine Ops.call (heldInt64S_c (rg rs (i : Int)).a (rg rs (i : Int)).n (rg rs (i : Int)).c (k + tot (xss.take i)) _ hrow ⟨by omega, by omega⟩) O O O ?_
  rintro _ w ⟨rfl, rfl⟩
  refine Gdc O (Cd.cond_pf O (by omega) ?_)
  refine Gao O (Ops.add O O O (by omega) (Gdn O (tQ ?_)))
  exact ⟨i + 1, by show n - (i + 1) < n - i; omega, ⟨O, by show Value.int .i64 _ = .int .i64 _; rw [htot, ← Int.add_assoc, hln], O, trivial⟩, O, by omega⟩
 refine Gax O (thenQ_x (Gfr O ?_))
 refine ret1_i O ?_
 have hin : i = n := by omega
 subst hin
 rw [List.take_of_length_le (by omega)]
 exact ⟨O, O⟩
/-
 The laws' helpers for posets; marks on two arguments.
-/
end Go.Proofs.YtopgfgdgfjddpaaGreatDoor.Vc
/-
 Plain mathematics: a product of polytopes has a flag, and its maniplex.
-/
namespace Go.Proofs.YtopgfgdgfjddpaaGreatDoor.Vc
def ChnL (m : Nat) (n : Int) (rk : Int → Int) (und : Int → Int → Prop) : Prop := ∃ z : Int → Int, ∀ i : Int, -1 ≤ i → i ≤ n → (0 ≤ z i ∧ z i < m) ∧ rk (z i) = i ∧ ∀ j : Int, i ≤ j → j ≤ n → und (z i) (z j)
theorem chn_of {n : Nat} {R : List Int} {B : List (List Int)} (h : PosP n R B) (hf : flgP n R B ≠ []) : ChnL (R.length + 2) n (gi (fcR n R)) (UndP R.length B) := by
 have hn := h.n1
 have hn1 : 1 ≤ n := by omega
 obtain ⟨x, hx⟩ := List.exists_mem_of_ne_nil _ hf
 obtain ⟨hl, ha, hb⟩ := (flgP_mem hn1).1 hx
 have hab : ∀ i j : Nat, i < j → j < n → gi x (i : Int) ∈ gl B (gi x (j : Int)) := by
  intro i j hij
  induction j with
  | zero => omega
  | succ j ih =>
   intro hj
   have h1 := hb j (by omega)
   by_cases e : i = j
   ·subst e; exact h1
   ·have h2 := ih (by omega) (by omega)
    have h3 := ha (j + 1) (by omega)
    exact (h.at_ (e := gi x ((j + 1 : Nat) : Int)) h3.1.1 h3.1.2).2.2 _ h1 _ h2
 have key : ∀ i : Int, 0 ≤ i → i < n → 0 ≤ gi x i ∧ gi x i < R.length ∧ gi R (gi x i) = i := fun i h0 h1 => by
  obtain ⟨k, rfl⟩ : ∃ k : Nat, i = k := ⟨i.toNat, by omega⟩
  have := ha k (by omega)
  exact ⟨this.1.1, this.1.2, this.2⟩
 have keyB : ∀ i j : Int, 0 ≤ i → i < j → j < n → gi x i ∈ gl B (gi x j) := fun i j h0 h1 h2 => by
  obtain ⟨k, rfl⟩ : ∃ k : Nat, i = k := ⟨i.toNat, by omega⟩
  obtain ⟨q, rfl⟩ : ∃ q : Nat, j = q := ⟨j.toNat, by omega⟩
  exact hab k q (by omega) (by omega)
 refine ⟨fun i => if i < 0 then 0 else if i < n then gi x i + 1 else (R.length : Int) + 1, fun i h0 h1 => ?_⟩
 by_cases c0 : i < 0
 ·have e : i = -1 := by omega
  subst e
  refine ⟨by show (0 : Int) ≤ (if (-1 : Int) < 0 then 0 else _) ∧ (if (-1 : Int) < 0 then 0 else _) < _; rw [if_pos (by omega)]; omega, by show gi _ (if (-1 : Int) < 0 then 0 else _) = _; rw [if_pos (by omega)]; rfl, fun j _ _ => by show UndP _ _ (if (-1 : Int) < 0 then 0 else _) _; rw [if_pos (by omega)]; exact .inr (.inl O)⟩
 by_cases c1 : i < n
 ·have hk := key i (by omega) c1
  have hz : (if i < 0 then 0 else if i < n then gi x i + 1 else (R.length : Int) + 1) = gi x i + 1 := by rw [if_neg c0, if_pos c1]
  refine ⟨by show (0 : Int) ≤ (if i < 0 then 0 else if i < n then gi x i + 1 else (R.length : Int) + 1) ∧ (if i < 0 then 0 else if i < n then gi x i + 1 else (R.length : Int) + 1) < _; rw [hz]; omega, by show gi _ (if i < 0 then 0 else if i < n then gi x i + 1 else (R.length : Int) + 1) = _; rw [hz, fcR_mid _ _ (by omega) (by omega), Int.add_sub_cancel]; exact hk.2.2, fun j hj hj2 => ?_⟩
  show UndP _ _ (if i < 0 then 0 else if i < n then gi x i + 1 else (R.length : Int) + 1) (if j < 0 then 0 else if j < n then gi x j + 1 else (R.length : Int) + 1)
  rw [hz, if_neg (by omega)]
  by_cases c2 : j < n
  ·rw [if_pos c2]
   by_cases e : i = j
   ·subst e; exact .inl rfl
   ·have hk2 := key j (by omega) c2
    exact .inr (.inr (.inr ⟨by omega, by omega, by omega, by omega, by rw [Int.add_sub_cancel, Int.add_sub_cancel]; exact keyB i j (by omega) (by omega) c2⟩))
  ·rw [if_neg c2]; exact .inr (.inr (.inl rfl))
 ·have e : i = n := by omega
  have hz : (if i < 0 then 0 else if i < n then gi x i + 1 else (R.length : Int) + 1) = (R.length : Int) + 1 := by rw [if_neg c0, if_neg c1]
  refine ⟨by show (0 : Int) ≤ (if i < 0 then 0 else if i < n then gi x i + 1 else (R.length : Int) + 1) ∧ (if i < 0 then 0 else if i < n then gi x i + 1 else (R.length : Int) + 1) < _; rw [hz]; omega, by show gi _ (if i < 0 then 0 else if i < n then gi x i + 1 else (R.length : Int) + 1) = _; rw [hz, fcR_top]; exact e.symm, fun j hj hj2 => ?_⟩
  obtain rfl : j = i := by omega
  exact .inl O
theorem chn_pt : ChnL 2 0 (gi [-1, 0]) (UndP 0 []) := ⟨fun i => i + 1, fun i h0 h1 => by
 rcases (show i = -1 ∨ i = 0 by omega) with rfl | rfl
 ·exact ⟨by show (0 : Int) ≤ -1 + 1 ∧ (-1 : Int) + 1 < _; omega, O, fun j _ _ => .inr (.inl O)⟩
 exact ⟨by show (0 : Int) ≤ 0 + 1 ∧ (0 : Int) + 1 < _; omega, rfl, fun j _ _ => by obtain rfl : j = 0 := (by omega); exact .inl rfl⟩⟩
section
variable {m1 m2 : Nat} {n1 n2 : Int} {rk1 rk2 : Int → Int} {und1 und2 : Int → Int → Prop} [DecidableRel und1] [DecidableRel und2] {kind : Int}
theorem prod_flg (h1 : Lat m1 n1 rk1 und1) (h2 : Lat m2 n2 rk2 und2) (c1 : ChnL m1 n1 rk1 und1) (c2 : ChnL m2 n2 rk2 und2) (hkd : 0 ≤ kind ∧ kind ≤ 2) {k : Nat} (hk : (k : Int) = rnP n1 n2 kind) (hk1 : 1 ≤ k) (hneg : 1 ≤ n1 ∧ (1 ≤ n2 ∨ kind = 0)) :
  flgP k ((prL m1 m2 rk1 rk2 kind k).map (rkP rk1 rk2 kind)) (prB und1 und2 (prL m1 m2 rk1 rk2 kind k)) ≠ [] := by
 obtain ⟨z1, hz1⟩ := c1
 obtain ⟨z2, hz2⟩ := c2
 have hn1 := h1.n0; have hn2 := h2.n0
 have r10 := h1.r0; have r1t := h1.rt; have r20 := h2.r0; have r2t := h2.rt
 obtain ⟨t, ht⟩ : ∃ t : Int, t = if kind = 2 then n1 - 1 else n1 := ⟨_, rfl⟩
 obtain ⟨s, hs⟩ : ∃ s : Int, s = if kind = 1 then 0 else -1 := ⟨_, rfl⟩
 obtain ⟨p, hpd⟩ : ∃ p : Nat → Int, p = fun i : Nat => if (i : Int) ≤ t then (i : Int) else t := ⟨_, rfl⟩
 obtain ⟨q, hqd⟩ : ∃ q : Nat → Int, q = fun i : Nat => if (i : Int) ≤ t then s else s + ((i : Int) - t) := ⟨_, rfl⟩
 have hp : ∀ i : Nat, p i = if (i : Int) ≤ t then (i : Int) else t := fun i => by rw [hpd]
 have hq : ∀ i : Nat, q i = if (i : Int) ≤ t then s else s + ((i : Int) - t) := fun i => by rw [hqd]
 have hpq : ∀ i : Nat, i < k → (-1 ≤ p i ∧ p i ≤ n1) ∧ (-1 ≤ q i ∧ q i ≤ n2) ∧ p i + q i + shP kind = i ∧ (kind = 1 → 0 ≤ p i ∧ 0 ≤ q i) ∧ (kind = 2 → p i < n1 ∧ q i < n2) := fun i hi => by
  rw [hp, hq]
  rcases (show kind = 0 ∨ kind = 1 ∨ kind = 2 by omega) with rfl | rfl | rfl
  ·simp only [rnP, if_pos] at hk
   simp only [shP] at *
   simp at ht hs
   split <;> simp <;> omega
  ·simp only [rnP] at hk
   simp only [shP] at *
   simp at ht hs hk
   split <;> simp <;> omega
  simp only [rnP] at hk
  simp only [shP] at *
  simp at ht hs hk
  split <;> simp <;> omega
 have hmono : ∀ i : Nat, p i ≤ p (i + 1) ∧ q i ≤ q (i + 1) := fun i => by
  rw [hp, hq, hp, hq]
  split <;> split <;> omega
 have hel : ∀ i : Nat, i < k → ElP m1 m2 rk1 rk2 kind i (z1 (p i), z2 (q i)) := fun i hi => by
  have h := hpq i hi
  have a := hz1 (p i) h.1.1 h.1.2
  have b := hz2 (q i) h.2.1.1 h.2.1.2
  refine ⟨a.1, b.1, by show rk1 (z1 (p i)) + rk2 (z2 (q i)) + shP kind = i; rw [a.2.1, b.2.1]; exact h.2.2.1, fun hx => ?_⟩
  rcases hx with ⟨k1, e | e⟩ | ⟨k2, e | e⟩
  ·have e : z1 (p i) = 0 := e
   have := a.2.1; rw [e, r10] at this; have := (h.2.2.2.1 k1).1; omega
  ·have e : z2 (q i) = 0 := e
   have := b.2.1; rw [e, r20] at this; have := (h.2.2.2.1 k1).2; omega
  ·have e : z1 (p i) = (m1 : Int) - 1 := e
   have := a.2.1; rw [e, r1t] at this; have := (h.2.2.2.2 k2).1; omega
  have e : z2 (q i) = (m2 : Int) - 1 := e
  have := b.2.1; rw [e, r2t] at this; have := (h.2.2.2.2 k2).2; omega
 have hex : ∀ i : Nat, ∃ e : Int, i < k → (0 ≤ e ∧ e < (prL m1 m2 rk1 rk2 kind k).length) ∧ gp (prL m1 m2 rk1 rk2 kind k) e = (z1 (p i), z2 (q i)) := fun i => by
  by_cases hi : i < k
  ·obtain ⟨e, h, h'⟩ := el_gp hi (hel i hi)
   exact ⟨e, fun _ => ⟨h, h'⟩⟩
  exact ⟨0, fun h => absurd h hi⟩
 obtain ⟨E, hE⟩ := Classical.axiomOfChoice hex
 have hE : ∀ i : Nat, i < k → (0 ≤ E i ∧ E i < (prL m1 m2 rk1 rk2 kind k).length) ∧ gp (prL m1 m2 rk1 rk2 kind k) (E i) = (z1 (p i), z2 (q i)) := hE
 have hxi : ∀ i : Nat, i < k → gi ((List.range k).map E) (i : Int) = E i := fun i hi => by
  rw [gi_mem (by simpa using hi), List.getElem_map, List.getElem_range]
 have hm : (List.range k).map E ∈ flgP k ((prL m1 m2 rk1 rk2 kind k).map (rkP rk1 rk2 kind)) (prB und1 und2 (prL m1 m2 rk1 rk2 kind k)) := by
  refine (flgP_mem hk1).2 ⟨by simp, fun i hi => ?_, fun i hi => ?_⟩
  ·rw [hxi i hi, List.length_map]
   have h := hE i hi
   refine ⟨h.1, ?_⟩
   rw [prR_at h.1.1 h.1.2, h.2]
   exact (hel i hi).2.2.1
  rw [hxi i (by omega), hxi (i + 1) hi]
  have h := hE i (by omega)
  have h' := hE (i + 1) hi
  rw [prB_at h'.1.1 h'.1.2, prBe_mem h1 h2 h'.1]
  have b0 := hpq i (by omega); have b1 := hpq (i + 1) hi
  have hm := hmono i
  refine ⟨h.1, fun e => ?_, ?_, ?_⟩
  ·have e2 := h'.2
   rw [← e, h.2] at e2
   have r1 := (hel i (by omega)).2.2.1
   have r2 := (hel (i + 1) hi).2.2.1
   rw [e2, r2] at r1
   omega
  ·rw [h.2, h'.2]; exact (hz1 (p i) b0.1.1 b0.1.2).2.2 (p (i + 1)) hm.1 b1.1.2
  rw [h.2, h'.2]; exact (hz2 (q i) b0.2.1.1 b0.2.1.2).2.2 (q (i + 1)) hm.2 b1.2.1.2
 intro h
 rw [h] at hm
 cases hm
end
/-
 Plain mathematics of the program's way to find neighbours of flags: what its map and its moves hold.
-/
noncomputable def mvF (n : Nat) (fl : List (List Int)) (i f : Nat) : List Int := (List.range fl.length).map fun a => if a < f ∧ ptP n fl i a < f then (ptP n fl i a : Int) else 0
def FsP (n : Nat) (fl : List (List Int)) (i f : Nat) (L : List (ByteArray × Int)) : Prop := ∀ a : Nat, f ≤ a → a < fl.length → getA L (keyB (rstP (gl fl (a : Int)) i)) = if ptP n fl i a < f then some (ptP n fl i a : Int) else none
section
variable {n : Nat} {fl : List (List Int)} {i f : Nat} {L : List (ByteArray × Int)}
theorem mvF_len : (mvF n fl i f).length = fl.length := by simp [mvF]
theorem mvF_0 : mvF n fl i 0 = List.replicate fl.length 0 := by
 apply List.ext_getElem
 ·simp [mvF]
 intro a h1 h2
 simp [mvF]
theorem mvF_all (h : NbP n fl) (hi : i < n) : mvF n fl i fl.length = mvP n fl i := by
 rw [mv_pt h hi]
 unfold mvF
 refine List.map_congr_left fun a ha => ?_
 have ha := List.mem_range.1 ha
 rw [if_pos ⟨ha, h.lt ha hi⟩]
theorem mvF_miss (h : NbP n fl) (hi : i < n) (hf : f < fl.length) (hp : ¬ ptP n fl i f < f) : mvF n fl i (f + 1) = mvF n fl i f := by
 unfold mvF
 refine List.map_congr_left fun a ha => ?_
 have ha := List.mem_range.1 ha
 have h1 := (h.pt hf hi).1
 have h2 := h.pp ha hi
 by_cases e : a = f
 ·subst e
  rw [if_neg (by omega), if_neg (by omega)]
 by_cases e2 : ptP n fl i a = f
 ·have h3 : a = ptP n fl i f := by rw [← h2, e2]
  rw [if_neg (by omega), if_neg (by omega)]
 by_cases c : a < f ∧ ptP n fl i a < f
 ·rw [if_pos c, if_pos (by omega)]
 rw [if_neg c, if_neg (by omega)]
theorem mvF_hit (h : NbP n fl) (hi : i < n) (hf : f < fl.length) (hp : ptP n fl i f < f) : mvF n fl i (f + 1) = ((mvF n fl i f).set f (ptP n fl i f : Int)).set (ptP n fl i f) (f : Int) := by
 have hpp := h.pp hf hi
 apply List.ext_getElem
 ·simp [mvF]
 intro a h1 h2
 have ha : a < fl.length := by simpa [mvF] using h1
 have h3 := h.pp ha hi
 rw [List.getElem_set, List.getElem_set]
 simp only [mvF, List.getElem_map, List.getElem_range]
 by_cases e : ptP n fl i f = a
 ·subst e
  rw [if_pos rfl, hpp, if_pos (by omega)]
 rw [if_neg e]
 by_cases e2 : f = a
 ·subst e2
  rw [if_pos rfl, if_pos (by omega)]
 rw [if_neg e2]
 have h4 : ptP n fl i a ≠ f := fun e3 => e (by rw [← h3, e3])
 by_cases c : a < f ∧ ptP n fl i a < f
 ·rw [if_pos c, if_pos (by omega)]
 rw [if_neg c, if_neg (by omega)]
theorem FsP.zero : FsP n fl i 0 [] := fun a _ _ => by rw [if_neg (by omega)]; rfl
theorem FsP.at_ (h : FsP n fl i f L) (hf : f < fl.length) : getA L (keyB (rstP (gl fl (f : Int)) i)) = if ptP n fl i f < f then some (ptP n fl i f : Int) else none := h f (Nat.le_refl _) hf
theorem FsP.hit (hN : NbP n fl) (hi : i < n) (h : FsP n fl i f L) (hf : f < fl.length) (hp : ptP n fl i f < f) : FsP n fl i (f + 1) L := fun a h0 ha => by
 have h2 := hN.pp ha hi
 rw [h a (by omega) ha]
 have h4 : ptP n fl i a ≠ f := fun e => by rw [e] at h2; omega
 by_cases c : ptP n fl i a < f
 ·rw [if_pos c, if_pos (by omega)]
 rw [if_neg c, if_neg (by omega)]
theorem FsP.miss (hN : NbP n fl) (hl : ∀ x ∈ fl, x.length = n) (hi : i < n) (h : FsP n fl i f L) (hf : f < fl.length) (hp : ¬ ptP n fl i f < f) : FsP n fl i (f + 1) (putA L (keyB (rstP (gl fl (f : Int)) i)) (f : Int)) := fun a h0 ha => by
 have h1 := hN.pp hf hi
 have h2 := hN.pp ha hi
 have hk : keyB (rstP (gl fl (f : Int)) i) = keyB (rstP (gl fl (a : Int)) i) ↔ a = f ∨ a = ptP n fl i f := by
  have lf : (gl fl (f : Int)).length = n := hl _ (by rw [gl_mem hf]; exact List.getElem_mem _)
  have la : (gl fl (a : Int)).length = n := hl _ (by rw [gl_mem ha]; exact List.getElem_mem _)
  constructor
  ·intro e
   have e := (rst_same lf la).1 (keyB_inj e)
   by_cases c : a = f
   ·exact .inl c
   exact .inr (((hN.pt hf hi).2 a).1 ⟨⟨hf, ha, fun k hk hne => e k hk hne⟩, c⟩)
  intro e
  rcases e with e | e
  ·subst e; rfl
  have h3 := ((hN.pt hf hi).2 a).2 e
  exact congrArg keyB ((rst_same lf la).2 h3.1.2.2)
 rw [getA_put, h a (by omega) ha]
 by_cases e2 : a = ptP n fl i f
 ·rw [if_pos (hk.2 (.inr e2))]
  have h3 : ptP n fl i a = f := by rw [e2, h1]
  rw [if_pos (by omega), h3]
 rw [if_neg fun e3 => (hk.1 e3).elim (by omega) e2]
 have h4 : ptP n fl i a ≠ f := fun e3 => e2 (by rw [← h2, e3])
 by_cases c : ptP n fl i a < f
 ·rw [if_pos c, if_pos (by omega)]
 rw [if_neg c, if_neg (by omega)]
end
/-
 Plain mathematics: the maniplex of the flags of a polytope is a maniplex, and its faces are the polytope's elements.
-/
section
variable {n : Nat} {fl : List (List Int)}
theorem mn_len (n : Nat) (fl : List (List Int)) : (mnP n fl).length = n := by simp [mnP]
theorem mn_row (n : Nat) (fl : List (List Int)) {i : Nat} (hi : i < n) : gl (mnP n fl) (i : Int) = mvP n fl i := by
 rw [gl_mem (by rw [mn_len]; exact hi)]
 simp [mnP]
theorem mn_at (h : NbP n fl) {i : Nat} (hi : i < n) : gl (mnP n fl) (i : Int) = (List.range fl.length).map fun a => (ptP n fl i a : Int) := by rw [mn_row n fl hi, mv_pt h hi]
theorem mn_rl (h : NbP n fl) {i : Nat} (hi : i < n) : (gl (mnP n fl) (i : Int)).length = fl.length := by rw [mn_at h hi]; simp
theorem mn_mem (h : NbP n fl) {p : List Int} : p ∈ mnP n fl ↔ ∃ i : Nat, i < n ∧ p = gl (mnP n fl) (i : Int) := by
 constructor
 ·intro hp
  obtain ⟨i, hi, e⟩ := List.mem_iff_getElem.1 hp
  rw [mn_len] at hi
  exact ⟨i, hi, by rw [gl_mem (by rw [mn_len]; exact hi)]; exact e.symm⟩
 rintro ⟨i, hi, rfl⟩
 rw [gl_mem (by rw [mn_len]; exact hi)]
 exact List.getElem_mem _
end
section
variable {n : Nat} {R : List Int} {B : List (List Int)}
end
end Go.Proofs.YtopgfgdgfjddpaaGreatDoor.Vc
/-
 The maniplex of a poset's flags, walked in the reference.
-/
namespace Go.Proofs.YtopgfgdgfjddpaaGreatDoor.Vc
open Go.RowKit
/-! plain -/
open Classical in
noncomputable def nbB (n : Nat) (fl : List (List Int)) (i a b : Nat) : List Int := ((List.range b).filter fun b => decide (AdjP n fl i a b ∧ b ≠ a)).map fun b : Nat => (b : Int)
noncomputable def mvA (n : Nat) (fl : List (List Int)) (i a b : Nat) : List Int := (List.range a).flatMap (nbsP n fl i) ++ nbB n fl i a b
section
variable {n : Nat} {fl : List (List Int)} {i a b : Nat}
theorem nbB_all : nbB n fl i a fl.length = nbsP n fl i a := rfl
theorem mvA_row : mvA n fl i (a + 1) 0 = mvA n fl i a fl.length := by
 unfold mvA
 rw [List.range_succ, List.flatMap_append, nbB_all]
 simp [nbB]
theorem filter_snoc {p : Nat → Bool} {b : Nat} : ((List.range (b + 1)).filter p) = (List.range b).filter p ++ (if p b = true then [b] else []) := by
 rw [List.range_succ, List.filter_append]
 by_cases h : p b = true
 ·rw [if_pos h, List.filter_cons_of_pos h]; rfl
 rw [if_neg h, List.filter_cons_of_neg h]; rfl
open Classical in
theorem nbB_next : nbB n fl i a (b + 1) = nbB n fl i a b ++ (if AdjP n fl i a b ∧ b ≠ a then [(b : Int)] else []) := by
 unfold nbB
 rw [filter_snoc, List.map_append]
 by_cases h : AdjP n fl i a b ∧ b ≠ a
 ·rw [if_pos h, if_pos (decide_eq_true h)]; rfl
 rw [if_neg h, if_neg (fun h' => h (of_decide_eq_true h'))]; rfl
theorem mvA_put (h : AdjP n fl i a b ∧ b ≠ a) : mvA n fl i a (b + 1) = mvA n fl i a b ++ [(b : Int)] := by
 unfold mvA
 rw [nbB_next, if_pos h, List.append_assoc]
theorem mvA_skip (h : ¬ (AdjP n fl i a b ∧ b ≠ a)) : mvA n fl i a (b + 1) = mvA n fl i a b := by
 unfold mvA
 rw [nbB_next, if_neg h, List.append_nil]
theorem mvA_all : mvA n fl i fl.length 0 = mvP n fl i := by simp [mvA, nbB, mvP]
theorem nbB_len : (nbB n fl i a b).length ≤ b := by
 unfold nbB
 rw [List.length_map]
 refine Nat.le_trans (List.length_filter_le _ _) ?_
 rw [List.length_range]; exact Nat.le_refl _
theorem mvA_len (hb : b ≤ fl.length) : (mvA n fl i a b).length ≤ a * fl.length + b := by
 have key : ∀ a : Nat, ((List.range a).flatMap (nbsP n fl i)).length ≤ a * fl.length := by
  intro a
  induction a with
  | zero => simp
  | succ a ih =>
   rw [List.range_succ, List.flatMap_append, List.length_append, Nat.succ_mul]
   have h := nbB_len (n := n) (fl := fl) (i := i) (a := a) (b := fl.length)
   rw [nbB_all] at h
   simp only [List.flatMap_cons, List.flatMap_nil, List.append_nil]
   omega
 unfold mvA
 have h1 := key a
 have h2 := nbB_len (n := n) (fl := fl) (i := i) (a := a) (b := b)
 rw [List.length_append]; omega
theorem df_one (hn : fl.Nodup) (hl : ∀ x ∈ fl, x.length = n) (hi : i < n) (ha : a < fl.length) (hb : b < fl.length) : (a ≠ b ∧ dfN (gl fl (a : Int)) (gl fl (b : Int)) n = 1 ∧ gi (gl fl (a : Int)) (i : Int) ≠ gi (gl fl (b : Int)) (i : Int)) ↔ AdjP n fl i a b ∧ b ≠ a := by
 have key : ∀ p : Nat → Bool, (∀ c, c < n → (p c = true ↔ c = i)) → ((List.range n).filter p) = [i] := fun p hp => by
  refine List.Perm.eq_singleton ((List.perm_ext_iff_of_nodup (List.nodup_range.filter _) (by simp)).2 fun c => ?_)
  rw [List.mem_filter, List.mem_range, List.mem_singleton]
  exact ⟨fun h => (hp c h.1).1 h.2, fun h => by subst h; exact ⟨hi, (hp c hi).2 rfl⟩⟩
 constructor
 ·rintro ⟨hne, hd, hx⟩
  refine ⟨⟨ha, hb, fun k hk hki => Classical.byContradiction fun h => ?_⟩, fun e => hne e.symm⟩
  unfold dfN at hd
  obtain ⟨x, hx1⟩ := List.length_eq_one_iff.1 hd
  have m1 : i ∈ (List.range n).filter fun k : Nat => decide (gi (gl fl (a : Int)) (k : Int) ≠ gi (gl fl (b : Int)) (k : Int)) := List.mem_filter.2 ⟨List.mem_range.2 hi, decide_eq_true hx⟩
  have m2 : k ∈ (List.range n).filter fun k : Nat => decide (gi (gl fl (a : Int)) (k : Int) ≠ gi (gl fl (b : Int)) (k : Int)) := List.mem_filter.2 ⟨List.mem_range.2 hk, decide_eq_true h⟩
  rw [hx1, List.mem_singleton] at m1 m2
  exact hki (m2.trans m1.symm)
 rintro ⟨hA, hne⟩
 have hx : gi (gl fl (a : Int)) (i : Int) ≠ gi (gl fl (b : Int)) (i : Int) := fun e => hne (flg_same hn hl hb ha fun k hk => by
  by_cases c : k = i
  ·subst c; exact e.symm
  exact (hA.2.2 k hk c).symm)
 refine ⟨fun e => hne e.symm, ?_, hx⟩
 unfold dfN
 rw [key _ fun c hc => ?_]
 ·rfl
 rw [decide_eq_true_eq]
 constructor
 ·intro h
  exact Classical.byContradiction fun h' => h (hA.2.2 c hc h')
 rintro rfl; exact hx
end
noncomputable def mnT (n : Nat) (fl : List (List Int)) (i : Nat) : List (List Int) := (List.range i).map (mvP n fl)
theorem mnT_next (n : Nat) (fl : List (List Int)) (i : Nat) : mnT n fl (i + 1) = mnT n fl i ++ [mvP n fl i] := by
 unfold mnT
 rw [List.range_succ, List.map_append]; rfl
theorem mnT_len (n : Nat) (fl : List (List Int)) (i : Nat) : (mnT n fl i).length = i := by simp [mnT]
abbrev mxB (A : Option Addr) (B : Option Addr) (i c : Nat) : Ck := Bx 24 1 A [.slice B i c]
theorem perm_o {α : Type} (b m q1 q2 q3 : α) (X : List α) : (b :: q1 :: q2 :: q3 :: m :: (X ++ [])).Perm (q1 :: q2 :: q3 :: m :: ((X ++ [b]) ++ [])) := by
 classical
 refine List.perm_iff_count.2 fun z => ?_
 simp only [List.count_append, List.count_cons, List.count_nil]
 omega
set_option maxHeartbeats 4000000 in
theorem l03Maniplex_c (n : Nat) (A D F : Option Addr) (a1 cA d1 cD N cF : Nat) (rsF : List SlV) (fl : List (List Int)) (w : World) (hF : RowsI w F N rsF fl) (hl : ∀ x ∈ fl, x.length = n) (hn : fl.Nodup) (hN : N ≤ 400) (hn5 : n ≤ 1000) :
  Ret Tryz.prog 173 [.agg #[.int .i64 (n : Int), .slice A a1 cA, .slice D d1 cD], .slice F N cF] w (fun v w' => ∃ A' c' rs', v = .agg #[.slice A' n c'] ∧ rs'.length = n ∧ St w w' (mat 32 2 A' n c' rs' (mnP n fl) ++ [])) := by
 have hfl : fl.length = N := hF.len
 refine Ret.of_cd Tryz.func173 O Tryz.ntmps173 O (postc O O) (Gbo O (Ops.box3T (St.refl w) O O ?_))
 intro A2 w1 hS1
 refine Ops.new1 hS1 O ?_
 intro A4 w2 hS2
 refine Gdo O (Ops.bld0 (by exact inferInstance) O (Ops.new1 hS2 O ?_))
 intro A5 w3 hS3
 refine Ops.st_agg 1 0 hS3 O O O O O O O ?_
 intro w4 hS4
 have hS4 : St w w4 (mxB A5 none 0 0 :: mxB A4 none 0 0 :: Bx 34 3 A2 [.int .i64 (n : Int), .slice A a1 cA, .slice D d1 cD] :: (mat 32 2 none 0 0 [] (mnT n fl 0) ++ [])) := (hS4.nil 32).perm (List.perm_append_singleton _ _).symm
 clear hS3 hS2 hS1
 refine Gdc O ?_
 refine Cd.loop (α := Nat × (Option Addr × Nat) × List SlV) (fun z => [(1, .slice F N cF), (2, .pointer A2), (4, .pointer A4), (5, .pointer A5), (6, .int .i64 (z.1 : Int))]) (fun z w' => z.1 ≤ n ∧ z.2.2.length = z.1 ∧ St w w' (mxB A5 z.2.1.1 z.1 z.2.1.2 :: mxB A4 none 0 0 :: Bx 34 3 A2 [.int .i64 (n : Int), .slice A a1 cA, .slice D d1 cD] :: (mat 32 2 z.2.1.1 z.1 z.2.1.2 z.2.2 (mnT n fl z.1) ++ []))) (fun z => n - z.1) (0, (none, 0), []) ⟨O, O, O, O, O, trivial⟩ ⟨Nat.zero_le _, O, hS4⟩ ?_
 clear hS4
 rintro ⟨i, ⟨Am, cm⟩, rsm⟩ e w5 ⟨hi, hrm, hS⟩
 dsimp only at hi hrm hS ⊢
 refine Gbo O (Ops.fld (hS.rd 2 O) O O O O inferInstance (Ops.ldf_i (j := 0) (hS.rd 2 O) (by exact congrArg Value.pointer O) O O O O (Gdc O ?_)))
 refine Cd.cond_p _ O (fun h1 => ?_) (fun h1 => ?_)
 ·have hin : i < n := by omega
  refine Gao O (Ops.bs0 hS O ?_)
  intro A7 w6 hS6
  refine Gdc O ?_
  refine Cd.loop (α := Nat × Option Addr × Nat) (fun z => [(1, .slice F N cF), (2, .pointer A2), (4, .pointer A4), (5, .pointer A5), (6, .int .i64 (i : Int)), (7, .slice z.2.1 (mvA n fl i z.1 0).length z.2.2), (8, .int .i64 (z.1 : Int))]) (fun z w' => z.1 ≤ N ∧ St w w' (CkI 2 z.2.1 (mvA n fl i z.1 0).length z.2.2 (mvA n fl i z.1 0) :: mxB A5 Am i cm :: mxB A4 none 0 0 :: Bx 34 3 A2 [.int .i64 (n : Int), .slice A a1 cA, .slice D d1 cD] :: (mat 32 2 Am i cm rsm (mnT n fl i) ++ []))) (fun z => N - z.1) (0, A7, 0) ⟨O, O, O, O, O, O, O, trivial⟩ ⟨Nat.zero_le _, hS6⟩ ?_
  clear hS6 hS
  rintro ⟨a, Ab, cb⟩ e1 w7 ⟨ha, hS⟩
  dsimp only at ha hS ⊢
  refine Gbo O (Ops.len O O (Gdc O ?_))
  refine Cd.cond_p _ O (fun h2 => ?_) (fun h2 => ?_)
  ·have haN : a < N := by omega
   refine Gac O ?_
   refine Cd.loop (α := Nat × Option Addr × Nat) (fun z => [(1, .slice F N cF), (2, .pointer A2), (4, .pointer A4), (5, .pointer A5), (6, .int .i64 (i : Int)), (7, .slice z.2.1 (mvA n fl i a z.1).length z.2.2), (8, .int .i64 (a : Int)), (9, .int .i64 (z.1 : Int))]) (fun z w' => z.1 ≤ N ∧ St w w' (CkI 2 z.2.1 (mvA n fl i a z.1).length z.2.2 (mvA n fl i a z.1) :: mxB A5 Am i cm :: mxB A4 none 0 0 :: Bx 34 3 A2 [.int .i64 (n : Int), .slice A a1 cA, .slice D d1 cD] :: (mat 32 2 Am i cm rsm (mnT n fl i) ++ []))) (fun z => N - z.1) (0, Ab, cb) ⟨O, O, O, O, O, O, O, O, trivial⟩ ⟨Nat.zero_le _, hS⟩ ?_
   clear hS
   rintro ⟨b, Ab, cb⟩ e2 w8 ⟨hb, hS⟩
   dsimp only at hb hS ⊢
   have hml := mvA_len (n := n) (i := i) (a := a) (b := b) (show b ≤ fl.length by omega)
   have hsq : a * fl.length ≤ 400 * 400 := Nat.mul_le_mul (by omega) (by omega)
   refine Gbo O (Ops.len O O (Gdc O ?_))
   refine Cd.cond_p _ O (fun h3 => ?_) (fun h3 => ?_)
   ·have hbN : b < N := by omega
    have hF8 := hS.oldRows hF
    have hra := hF8.at_ (i := (a : Int)) (by omega) (by omega)
    have hrb := hF8.at_ (i := (b : Int)) (by omega) (by omega)
    have hla : (gl fl (a : Int)).length = n := hl _ (by rw [gl_mem (by omega)]; exact List.getElem_mem _)
    have hlb : (gl fl (b : Int)).length = n := hl _ (by rw [gl_mem (by omega)]; exact List.getElem_mem _)
    have hna : (rg rsF (a : Int)).n = n := by rw [← hra.1]; exact hla
    have hnb : (rg rsF (b : Int)).n = n := by rw [← hrb.1]; exact hlb
    have hdf := df_one hn hl hin (show a < fl.length by omega) (show b < fl.length by omega)
    have hput := mvA_put (n := n) (fl := fl) (i := i) (a := a) (b := b)
    have hskp := mvA_skip (n := n) (fl := fl) (i := i) (a := a) (b := b)
    rw [← hdf] at hput hskp
    have hT8 := hF8.top
    by_cases q1 : a = b
    ·refine Gac O ?_
     refine Cd.draw [xI ((a : Int)), xI ((b : Int)), xB (decide (¬ ((a : Int)) = ((b : Int)))), xB (false), xU, xU, xU, xU, xU, xU, xU, xU, xU, xU, xB (false), xB (false), xU, xU, xU, xU, xU, xU, xU, xU, xU, xU, xU, xU, xU, xU, xU, xB (false)] (by kernel_rfl) (by kernel_rfl) O (exL O) ?_ ?_
     ·exact ⟨Dr O, Dr O, Dr O, fun _ _ _ _ _ => Dk O (by exact congrArg Value.bool (decide_eq_false (by omega))), Dr O, Dr O, Dr O, Dr O, Dr O, Dr O, Dr O, Dr O, Dr O, Dr O, Dr O, Dr O, Dr O, Dr O, Dr O, Dr O, Dr O, Dr O, Dr O, Dr O, Dr O, Dr O, Dr O, Dr O, Dr O, Dr O, Dr O, Dr O, trivial⟩
     intro u w9 hb9 _
     have hS := hS.later hb9
     refine Gec O (Cd.cond_f O ?_)
     have hskp := hskp (fun h => h.1 q1)
     refine Gao O (Ops.add O O O (by omega) (Gdn O (tQ ?_)))
     exact ⟨(b + 1, Ab, cb), by show N - (b + 1) < N - b; omega, ⟨O, O, O, O, O, congrArg (fun L : List Int => Value.slice Ab L.length cb) hskp.symm, O, O, trivial⟩, by show b + 1 ≤ N; omega, by show St w w9 (CkI _ Ab (mvA n fl i a (b + 1)).length cb _ :: _); rw [hskp]; exact hS⟩
    by_cases q2 : dfN (gl fl (a : Int)) (gl fl (b : Int)) n = 1
    ·refine Gac O ?_
     refine Cd.draw [xI ((a : Int)), xI ((b : Int)), xB (decide (¬ ((a : Int)) = ((b : Int)))), xB (true), xS (F) (N) (cF), xI ((a : Int)), xP (ptrAt (F) ((a : Int)).toNat), xS ((rg (rsF) ((a : Int))).a) ((rg (rsF) ((a : Int))).n) ((rg (rsF) ((a : Int))).c), xS (F) (N) (cF), xI ((b : Int)), xP (ptrAt (F) ((b : Int)).toNat), xS ((rg (rsF) ((b : Int))).a) ((rg (rsF) ((b : Int))).n) ((rg (rsF) ((b : Int))).c), xI (((dfN (gl fl (a : Int)) (gl fl (b : Int)) (rg rsF (a : Int)).n : Nat) : Int)), xB (true), xB (true), xB (true), xS (F) (N) (cF), xI ((a : Int)), xP (ptrAt (F) ((a : Int)).toNat), xS ((rg (rsF) ((a : Int))).a) ((rg (rsF) ((a : Int))).n) ((rg (rsF) ((a : Int))).c), xI ((i : Int)), xP (ptrAt ((rg (rsF) ((a : Int))).a) ((i : Int)).toNat), xI (gi (gl fl (a : Int)) ((i : Int))), xS (F) (N) (cF), xI ((b : Int)), xP (ptrAt (F) ((b : Int)).toNat), xS ((rg (rsF) ((b : Int))).a) ((rg (rsF) ((b : Int))).n) ((rg (rsF) ((b : Int))).c), xI ((i : Int)), xP (ptrAt ((rg (rsF) ((b : Int))).a) ((i : Int)).toNat), xI (gi (gl fl (b : Int)) ((i : Int))), xB (decide (¬ (gi (gl fl (a : Int)) ((i : Int))) = (gi (gl fl (b : Int)) ((i : Int))))), xB (decide (¬ (gi (gl fl (a : Int)) ((i : Int))) = (gi (gl fl (b : Int)) ((i : Int)))))] (by kernel_rfl) (by kernel_rfl) O (exL O) ?_ ?_
     ·refine ⟨Dr O, Dr O, Dr O, fun _ _ _ _ _ => Dk O (by exact congrArg Value.bool (decide_eq_true (by omega))), Dr O, Dr O, fun _ _ hb _ _ => Ops.g O O O (Ops.idx (hT8.later hb).2 O O O (by omega) (by omega) (Az O)), fun _ _ hb _ _ => Ops.g O O O (Ops.ld_sl (hT8.later hb) O (by omega) O O (Az O)), Dr O, Dr O, fun _ _ hb _ _ => Ops.g O O O (Ops.idx (hT8.later hb).2 O O O (by omega) (by omega) (Az O)), fun _ _ hb _ _ => Ops.g O O O (Ops.ld_sl (hT8.later hb) O (by omega) O O (Az O)), ?_, fun _ _ _ _ _ => Dk O (by exact congrArg Value.bool (decide_eq_true (by rw [hna, q2]; rfl))), Dr O, Dr O, Dr O, Dr O, fun _ _ hb _ _ => Ops.g O O O (Ops.idx (hT8.later hb).2 O O O (by omega) (by omega) (Az O)), fun _ _ hb _ _ => Ops.g O O O (Ops.ld_sl (hT8.later hb) O (by omega) O O (Az O)), Dr O, fun _ _ hb _ _ => Ops.g O O O (Ops.idx (hra.later hb).2 O O O (by omega) (by omega) (Az O)), fun _ _ hb _ _ => Ops.g O O O (Ops.ld_int (hra.later hb) O (by omega) O O (Az O)), Dr O, Dr O, fun _ _ hb _ _ => Ops.g O O O (Ops.idx (hT8.later hb).2 O O O (by omega) (by omega) (Az O)), fun _ _ hb _ _ => Ops.g O O O (Ops.ld_sl (hT8.later hb) O (by omega) O O (Az O)), Dr O, fun _ _ hb _ _ => Ops.g O O O (Ops.idx (hrb.later hb).2 O O O (by omega) (by omega) (Az O)), fun _ _ hb _ _ => Ops.g O O O (Ops.ld_int (hrb.later hb) O (by omega) O O (Az O)), Dr O, Dr O, trivial⟩
      intro e1 w1 hb hp hun
      refine Ops.g O O O (Ops.call (l03Differ_c (rg rsF (a : Int)).a (rg rsF (b : Int)).a (rg rsF (a : Int)).n (rg rsF (a : Int)).c (rg rsF (b : Int)).n (rg rsF (b : Int)).c (gl fl (a : Int)) (gl fl (b : Int)) _ (hra.later hb) (hrb.later hb) (by omega) (by omega)) O O O ?_)
      rintro _ w2 ⟨rfl, hst⟩
      refine Ops.n ?_
      exact After.dn hst.below (by exact O)
     intro u w9 hb9 _
     have hS := hS.later hb9
     refine Gec O ?_
     refine Cd.cond_p _ O (fun h4 => ?_) (fun h4 => ?_)
     ·have hput := hput ⟨q1, q2, h4⟩
      refine Gao O (Ops.bs1I hS O O O ?_)
      intro A9 w10 hS10
      refine Ops.appI 1 hS10 O (hS10.rdI 0 O) O O O (by omega) (by omega) O ?_
      intro AZ cZ w11 hS11
      have hS11 := hS11.tail
      refine Gdo O (Ops.add O O O (by omega) (Gdn O (tQ ?_)))
      refine ⟨(b + 1, AZ, cZ), by show N - (b + 1) < N - b; omega, ⟨O, O, O, O, O, ?_, O, O, trivial⟩, by show b + 1 ≤ N; omega, ?_⟩
      ·show Value.slice _ _ _ = Value.slice _ _ _
       rw [hput, List.length_append]; rfl
      show St w w11 (CkI _ AZ (mvA n fl i a (b + 1)).length cZ _ :: _)
      rw [hput, List.length_append]; exact hS11
     have hskp := hskp (fun h => h4 h.2.2)
     refine Gao O (Ops.add O O O (by omega) (Gdn O (tQ ?_)))
     exact ⟨(b + 1, Ab, cb), by show N - (b + 1) < N - b; omega, ⟨O, O, O, O, O, congrArg (fun L : List Int => Value.slice Ab L.length cb) hskp.symm, O, O, trivial⟩, by show b + 1 ≤ N; omega, by show St w w9 (CkI _ Ab (mvA n fl i a (b + 1)).length cb _ :: _); rw [hskp]; exact hS⟩
    refine Gac O ?_
    refine Cd.draw [xI ((a : Int)), xI ((b : Int)), xB (decide (¬ ((a : Int)) = ((b : Int)))), xB (true), xS (F) (N) (cF), xI ((a : Int)), xP (ptrAt (F) ((a : Int)).toNat), xS ((rg (rsF) ((a : Int))).a) ((rg (rsF) ((a : Int))).n) ((rg (rsF) ((a : Int))).c), xS (F) (N) (cF), xI ((b : Int)), xP (ptrAt (F) ((b : Int)).toNat), xS ((rg (rsF) ((b : Int))).a) ((rg (rsF) ((b : Int))).n) ((rg (rsF) ((b : Int))).c), xI (((dfN (gl fl (a : Int)) (gl fl (b : Int)) (rg rsF (a : Int)).n : Nat) : Int)), xB (false), xB (false), xB (false), xU, xU, xU, xU, xU, xU, xU, xU, xU, xU, xU, xU, xU, xU, xU, xB (false)] (by kernel_rfl) (by kernel_rfl) O (exL O) ?_ ?_
    ·refine ⟨Dr O, Dr O, Dr O, fun _ _ _ _ _ => Dk O (by exact congrArg Value.bool (decide_eq_true (by omega))), Dr O, Dr O, fun _ _ hb _ _ => Ops.g O O O (Ops.idx (hT8.later hb).2 O O O (by omega) (by omega) (Az O)), fun _ _ hb _ _ => Ops.g O O O (Ops.ld_sl (hT8.later hb) O (by omega) O O (Az O)), Dr O, Dr O, fun _ _ hb _ _ => Ops.g O O O (Ops.idx (hT8.later hb).2 O O O (by omega) (by omega) (Az O)), fun _ _ hb _ _ => Ops.g O O O (Ops.ld_sl (hT8.later hb) O (by omega) O O (Az O)), ?_, fun _ _ _ _ _ => Dk O (by exact congrArg Value.bool (decide_eq_false (by rw [hna]; omega))), Dr O, Dr O, Dr O, Dr O, Dr O, Dr O, Dr O, Dr O, Dr O, Dr O, Dr O, Dr O, Dr O, Dr O, Dr O, Dr O, Dr O, Dr O, trivial⟩
     intro e1 w1 hb hp hun
     refine Ops.g O O O (Ops.call (l03Differ_c (rg rsF (a : Int)).a (rg rsF (b : Int)).a (rg rsF (a : Int)).n (rg rsF (a : Int)).c (rg rsF (b : Int)).n (rg rsF (b : Int)).c (gl fl (a : Int)) (gl fl (b : Int)) _ (hra.later hb) (hrb.later hb) (by omega) (by omega)) O O O ?_)
     rintro _ w2 ⟨rfl, hst⟩
     refine Ops.n ?_
     exact After.dn hst.below (by exact O)
    intro u w9 hb9 _
    have hS := hS.later hb9
    refine Gec O (Cd.cond_f O ?_)
    have hskp := hskp (fun h => q2 h.2.1)
    refine Gao O (Ops.add O O O (by omega) (Gdn O (tQ ?_)))
    exact ⟨(b + 1, Ab, cb), by show N - (b + 1) < N - b; omega, ⟨O, O, O, O, O, congrArg (fun L : List Int => Value.slice Ab L.length cb) hskp.symm, O, O, trivial⟩, by show b + 1 ≤ N; omega, by show St w w9 (CkI _ Ab (mvA n fl i a (b + 1)).length cb _ :: _); rw [hskp]; exact hS⟩
   have hbe : b = fl.length := by omega
   subst hbe
   rw [← mvA_row] at hS ⊢
   refine Gax O (thenQ_x (Gfo O (Ops.add O O O (by omega) (Gdn O (tQ ?_)))))
   exact ⟨(a + 1, Ab, cb), by show N - (a + 1) < N - a; omega, ⟨O, O, O, O, O, O, O, trivial⟩, by show a + 1 ≤ N; omega, hS⟩
  have hae : a = fl.length := by omega
  subst hae
  have hml := mvA_len (n := n) (i := i) (a := fl.length) (b := 0) (show 0 ≤ fl.length by omega)
  have hsq : fl.length * fl.length ≤ 400 * 400 := Nat.mul_le_mul (by omega) (by omega)
  rw [mvA_all] at hS hml ⊢
  have hmn := mnT_next n fl i
  refine Gax O (thenQ_x (Gfo O ?_))
  refine Ops.fld (hS.rd 1 O) O O O O inferInstance (Ops.ldf_s (j := 0) (hS.rd 1 O) O O O O O (Gdo O (Ops.bs1R hS O O O ?_)))
  intro A9 w8 hS8
  refine Ops.appR 5 hS8 O (hS8.rdR 0 O) O O O (by omega) (by omega) O ?_
  intro AZ cZ w9 hS9
  refine Ops.fld (hS9.rd 2 O) O O O O inferInstance (Ops.stf 2 (j := 0) hS9 O O O O O ?_)
  intro w10 hS10
  have hS10 := hS10.tail
  have hS10 := hS10.perm (perm_o _ _ _ _ _ _)
  refine Gdo O (Ops.add O O O (by omega) (Gdn O (tQ ?_)))
  refine ⟨(i + 1, (AZ, cZ), rsm ++ [⟨Ab, (mvP n fl i).length, cb⟩]), by show n - (i + 1) < n - i; omega, ⟨O, O, O, O, O, trivial⟩, by show i + 1 ≤ n; omega, by show (rsm ++ [_]).length = i + 1; rw [List.length_append, hrm]; rfl, ?_⟩
  show St w w10 (mxB A5 AZ (i + 1) cZ :: mxB A4 none 0 0 :: Bx 34 3 A2 [.int .i64 (n : Int), .slice A a1 cA, .slice D d1 cD] :: (mat 32 2 AZ (i + 1) cZ (rsm ++ [_]) (mnT n fl (i + 1)) ++ []))
  rw [hmn]
  unfold mat
  rw [rowsCk_snoc (by rw [hrm, mnT_len])]
  exact hS10
 obtain rfl : i = n := by omega
 refine Gax O (thenQ_x (Gfo O ?_))
 refine Ops.ld_agg 0 (hS.rd 0 O) O O O (Ops.st_agg 1 1 hS O O O O O O O ?_)
 intro w6 hS6
 refine Gdr O (retc_r O (hS6.rd 1 O) ?_)
 exact ⟨Am, cm, rsm, O, hrm, hS6.sub (show List.Sublist _ (_ :: _ :: _ :: _) from ((List.Sublist.refl _).cons _ |>.cons _ |>.cons _))⟩
/-
 The maniplex of a poset's flags, walked in the program. Conditions: the library's table of powers of ten holds what the program's text lays there.
-/
abbrev mvK (A6 : Option Addr) (N : Nat) (mv : List Int) (g : Nat) (L : List (ByteArray × Int)) (A3 A2 Am : Option Addr) (i cm : Nat) (rsm : List SlV) (T : List (List Int)) : List Ck :=
 CkI 2 A6 N N mv :: CkM 138 g (prV Value.string (Value.int .i64) L) :: mxB A3 Am i cm :: mxB A2 none 0 0 :: (mat 32 2 Am i cm rsm T ++ [])
theorem perm_q2 {α : Type} (b m q1 q2 : α) (X : List α) : (b :: q1 :: q2 :: m :: (X ++ [])).Perm (q1 :: q2 :: m :: ((X ++ [b]) ++ [])) := by
 classical
 refine List.perm_iff_count.2 fun z => ?_
 simp only [List.count_append, List.count_cons, List.count_nil]
 omega
set_option maxHeartbeats 4000000 in
theorem maniplexOf_c (n : Nat) (F : Option Addr) (N cF : Nat) (rsF : List SlV) (fl : List (List Int)) (w : World) (hT : Tab w) (hF : RowsI w F N rsF fl) (hl : ∀ x ∈ fl, x.length = n ∧ ∀ e ∈ x, 0 ≤ e ∧ e ≤ 1000) (hNb : NbP n fl) (hN : 0 < N ∧ N ≤ 400) (hn5 : n ≤ 1000) :
  Ret Tryz.prog 90 [.slice F N cF] w (fun v w' => ∃ A' c' rs', v = .agg #[.slice A' n c'] ∧ rs'.length = n ∧ St w w' (mat 32 2 A' n c' rs' (mnP n fl) ++ [])) := by
 have hfl : fl.length = N := hF.len
 have hln : ∀ x ∈ fl, x.length = n := fun x hx => (hl x hx).1
 refine Ret.of_cd Tryz.func90 O Tryz.ntmps90 O (postc O O) (Gbo O (Ops.new1 (St.refl w) O ?_))
 intro A2 w1 hS1
 refine Gdo O (Ops.new1 hS1 O ?_)
 intro A3 w2 hS2
 have hS2 : St w w2 (mxB A3 none 0 0 :: mxB A2 none 0 0 :: (mat 32 2 none 0 0 [] (mnT n fl 0) ++ [])) := (hS2.nil 32).perm (List.perm_append_singleton _ _).symm
 clear hS1
 have hF2 := hS2.oldRows hF
 have h00 := hF2.at_ (i := (0 : Int)) (by omega) (by omega)
 have hn0 : (rg rsF (0 : Int)).n = n := by rw [← h00.1]; exact hln _ (by rw [show (0 : Int) = ((0 : Nat) : Int) from O, gl_mem (by omega)]; exact List.getElem_mem _)
 refine Gdo O (Ops.idx hF2.top.2 O O O (by omega) (by omega) ?_)
 refine Ops.ld_sl hF2.top O (by show (0 : Int).toNat < N; exact hN.1) O O ?_
 refine Ops.len O O (Gdc O ?_)
 refine Cd.loop (α := Nat × (Option Addr × Nat) × List SlV) (fun z => [(0, .slice F N cF), (2, .pointer A2), (3, .pointer A3), (16, .int .i64 (n : Int)), (17, .int .i64 (z.1 : Int))]) (fun z w' => z.1 ≤ n ∧ z.2.2.length = z.1 ∧ St w w' (mxB A3 z.2.1.1 z.1 z.2.1.2 :: mxB A2 none 0 0 :: (mat 32 2 z.2.1.1 z.1 z.2.1.2 z.2.2 (mnT n fl z.1) ++ []))) (fun z => n - z.1) (0, (none, 0), []) ⟨O, O, O, congrArg (fun m : Nat => Value.int .i64 (m : Int)) hn0, O, trivial⟩ ⟨Nat.zero_le _, O, hS2⟩ ?_
 clear hS2 hF2 h00
 rintro ⟨i, ⟨Am, cm⟩, rsm⟩ e w5 ⟨hi, hrm, hS⟩
 dsimp only at hi hrm hS ⊢
 refine Gbc O ?_
 refine Cd.cond_p _ O (fun h1 => ?_) (fun h1 => ?_)
 ·have hin : i < n := by omega
  refine Gao O (Ops.mkmap hS O ?_)
  intro g w6 hS6
  refine Gdo O (Ops.len O O ?_)
  refine Ops.mkI N hS6 O O ⟨by omega, by omega⟩ ?_
  intro A6 w7 hS7
  have hS7 : St w w7 (mvK A6 N (mvF n fl i 0) g [] A3 A2 Am i cm rsm (mnT n fl i)) := by
   have e0 := mvF_0 (n := n) (fl := fl) (i := i)
   rw [hfl] at e0
   rw [e0]
   exact hS7
  clear hS6 hS
  refine Gdo O (Ops.len O O (Gdc O ?_))
  refine Cd.loop (α := Nat × List (ByteArray × Int)) (fun z => [(0, .slice F N cF), (2, .pointer A2), (3, .pointer A3), (4, .int .i64 (i : Int)), (5, .map (some g)), (6, .slice A6 N N), (16, .int .i64 (n : Int)), (17, .int .i64 (i : Int)), (24, .slice F N cF), (25, .int .i64 (N : Int)), (26, .int .i64 (z.1 : Int))]) (fun z w' => z.1 ≤ N ∧ FsP n fl i z.1 z.2 ∧ St w w' (mvK A6 N (mvF n fl i z.1) g z.2 A3 A2 Am i cm rsm (mnT n fl i))) (fun z => N - z.1) (0, []) ⟨O, O, O, O, O, O, O, O, O, O, O, trivial⟩ ⟨Nat.zero_le _, FsP.zero, hS7⟩ ?_
  clear hS7
  rintro ⟨f, L⟩ e1 w8 ⟨hf, hFs, hS⟩
  dsimp only at hf hFs hS ⊢
  refine Gbc O ?_
  refine Cd.cond_p _ O (fun h2 => ?_) (fun h2 => ?_)
  ·have hfN : f < fl.length := by omega
   have hF8 := hS.oldRows hF
   have hrf := hF8.at_ (i := (f : Int)) (by omega) (by omega)
   have hmf : gl fl (f : Int) ∈ fl := by rw [gl_mem hfN]; exact List.getElem_mem _
   have hlf := hl _ hmf
   have hnf : (rg rsF (f : Int)).n = n := by rw [← hrf.1]; exact hlf.1
   have hat := hFs.at_ hfN
   have hpl := hNb.lt hfN hin
   have hmvl := mvF_len (n := n) (fl := fl) (i := i) (f := f)
   refine Gao O (Ops.idx hF8.top.2 O O O (by omega) (by omega) (Ops.ld_sl hF8.top O (by omega) O O (Gdo O (Ops.call (Clone_c _ _ _ (gl fl (f : Int)) _ hrf (by omega)) O O O ?_))))
   rintro _ w9 ⟨A9, c9, rfl, hst⟩
   have hS9 := hS.call hst
   clear hS hst hF8 hrf
   rw [hnf] at hS9 ⊢
   have hS9 : St w w9 (CkI 2 A9 n c9 (gl fl (f : Int)) :: mvK A6 N (mvF n fl i f) g L A3 A2 Am i cm rsm (mnT n fl i)) := hS9
   refine Gdo O (Ops.idx (hS9.rd 0 O) O O O (by omega) (by omega) (Ops.st_int 0 (i := (i : Int)) hS9 O O O (by omega) ?_))
   intro w10 hS10
   have hS10 : St w w10 (CkI 2 A9 n c9 (rstP (gl fl (f : Int)) i) :: mvK A6 N (mvF n fl i f) g L A3 A2 Am i cm rsm (mnT n fl i)) := hS10
   refine Gdo O ?_
   refine Ops.call (keyOf_c A9 n c9 (rstP (gl fl (f : Int)) i) _ (hT.later hS10.below) (hS10.rdI 0 O) (fun x hx => by
    rcases List.mem_or_eq_of_mem_set hx with hx | rfl
    ·have := hlf.2 x hx; omega
    omega) (by omega)) rfl rfl rfl ?_
   rintro _ w11 ⟨rfl, hst⟩
   have hS11 := hS10.tail.later hst.below
   clear hS9 hS10 hst
   refine Gdo O (Ops.lookIok keyS (keyB (rstP (gl fl (f : Int)) i)) (hS11.rdM 1 O) O O O ?_)
   rw [hat]
   by_cases hp : ptP n fl i f < f
   ·rw [if_pos hp]
    have hhit := mvF_hit hNb hin hfN hp
    refine Gdc O (Cd.cond_t O (Gao O (Ops.idx (hS11.rd 0 O) O O O (by omega) (by omega) (Ops.st_int 0 (i := (f : Int)) hS11 O O O (by omega) ?_))))
    intro w12 hS12
    refine Ops.idx (hS12.rd 0 O) O O O (by show (0 : Int) ≤ (ptP n fl i f : Int); omega) (by show (ptP n fl i f : Int) < (N : Int); omega) ?_
    refine Ops.st_int 0 (i := (ptP n fl i f : Int)) hS12 O O O (by omega) ?_
    intro w13 hS13
    refine Gdo O (Ops.add O O O (by omega) (Gdn O (tQ ?_)))
    refine ⟨(f + 1, L), by show N - (f + 1) < N - f; omega, ⟨O, O, O, O, O, O, O, O, O, O, O, trivial⟩, by show f + 1 ≤ N; omega, hFs.hit hNb hin hfN hp, ?_⟩
    show St w w13 (mvK A6 N (mvF n fl i (f + 1)) g L A3 A2 Am i cm rsm (mnT n fl i))
    rw [hhit]
    exact hS13
   rw [if_neg hp]
   have hmis := mvF_miss hNb hin hfN hp
   refine Gdc O (Cd.cond_f O (Gao O (Ops.upm O keyS 1 (u := (f : Int)) (a := keyB (rstP (gl fl (f : Int)) i)) (vv := Value.int .i64) hS11 O O O O ?_)))
   intro w12 hS12
   refine Gdo O (Ops.add O O O (by omega) (Gdn O (tQ ?_)))
   refine ⟨(f + 1, putA L (keyB (rstP (gl fl (f : Int)) i)) (f : Int)), by show N - (f + 1) < N - f; omega, ⟨O, O, O, O, O, O, O, O, O, O, O, trivial⟩, by show f + 1 ≤ N; omega, hFs.miss hNb hln hin hfN hp, ?_⟩
   show St w w12 (mvK A6 N (mvF n fl i (f + 1)) g _ A3 A2 Am i cm rsm (mnT n fl i))
   rw [hmis]
   exact hS12
  have hfe : f = fl.length := by omega
  subst hfe
  rw [mvF_all hNb hin] at hS
  have hmn := mnT_next n fl i
  have hS : St w w8 (CkI 2 A6 N N (mvP n fl i) :: mxB A3 Am i cm :: mxB A2 none 0 0 :: (mat 32 2 Am i cm rsm (mnT n fl i) ++ [])) := hS.sub ((List.Sublist.refl _).cons _ |>.cons_cons _)
  refine Gax O (thenQ_x (Gfo O ?_))
  refine Ops.fld (hS.rd 1 O) O O O O inferInstance (Ops.ldf_s (j := 0) (hS.rd 1 O) O O O O O (Gdo O (Ops.bs1R hS O O O ?_)))
  intro A9 w9 hS9
  refine Ops.appR 4 hS9 O (hS9.rdR 0 O) O O O (by omega) (by omega) O ?_
  intro AZ cZ w10 hS10
  refine Ops.fld (hS10.rd 2 O) O O O O inferInstance (Ops.stf 2 (j := 0) hS10 O O O O O ?_)
  intro w11 hS11
  have hS11 := hS11.tail
  have hS11 := hS11.perm (perm_q2 _ _ _ _ _)
  refine Gdo O (Ops.add O O O (by omega) (Gdn O (tQ ?_)))
  refine ⟨(i + 1, (AZ, cZ), rsm ++ [⟨A6, N, N⟩]), by show n - (i + 1) < n - i; omega, ⟨O, O, O, O, O, trivial⟩, by show i + 1 ≤ n; omega, by show (rsm ++ [_]).length = i + 1; rw [List.length_append, hrm]; rfl, ?_⟩
  show St w w11 (mxB A3 AZ (i + 1) cZ :: mxB A2 none 0 0 :: (mat 32 2 AZ (i + 1) cZ (rsm ++ [_]) (mnT n fl (i + 1)) ++ []))
  rw [hmn]
  unfold mat
  rw [rowsCk_snoc (by rw [hrm, mnT_len])]
  exact hS11
 obtain rfl : i = n := by omega
 refine Gax O (thenQ_x (Gfo O ?_))
 refine Ops.ld_agg 0 (hS.rd 0 O) O O O (Ops.st_agg 1 1 hS O O O O O O O ?_)
 intro w6 hS6
 refine Gdr O (retc_r O (hS6.rd 1 O) ?_)
 exact ⟨Am, cm, rsm, O, hrm, hS6.sub (show List.Sublist _ (_ :: _ :: _) from ((List.Sublist.refl _).cons _ |>.cons _))⟩
noncomputable def mxC (n : Nat) (R : List Int) (B : List (List Int)) : Int := flgK n R B
noncomputable def mxM (n : Nat) (R : List Int) (B : List (List Int)) : List (List Int) := if flgK n R B = 0 then mnP n (flgP n R B) else []
theorem mx_few {n : Nat} {R : List Int} {B : List (List Int)} (h : (flgP n R B).length ≤ 400) : flgK n R B = 0 ∧ flgL n R B = flgP n R B ∧ mxM n R B = mnP n (flgP n R B) := by
 have e : flgK n R B = 0 := by unfold flgK; rw [if_pos h]
 refine ⟨e, by unfold flgL; rw [if_pos h], by unfold mxM; rw [if_pos e]⟩
theorem mx_many {n : Nat} {R : List Int} {B : List (List Int)} (h : ¬ (flgP n R B).length ≤ 400) : flgK n R B = 3 ∧ mxM n R B = [] := by
 have e : flgK n R B = 3 := by unfold flgK; rw [if_neg h]
 exact ⟨e, by unfold mxM; rw [if_neg (by rw [e]; decide)]⟩
theorem flg_el {n : Nat} {R : List Int} {B : List (List Int)} (hP : PosP n R B) : ∀ x ∈ flgP n R B, x.length = n ∧ ∀ e ∈ x, 0 ≤ e ∧ e ≤ 1000 := fun x hx => by
 have hn := hP.n1
 have hb := hP.big
 have h := (flgP_mem (by omega)).1 hx
 refine ⟨h.1, fun e he => ?_⟩
 obtain ⟨k, hk, rfl⟩ := List.mem_iff_getElem.1 he
 have := (h.2.1 k (by omega)).1
 rw [gi_mem hk] at this
 omega
set_option maxHeartbeats 1000000 in
theorem polytopeOf_c (n : Nat) (A D : Option Addr) (cA cD : Nat) (R : List Int) (rs : List SlV) (B : List (List Int)) (w : World) (hT : Tab w) (hR : RdI w A R.length R) (hB : RowsI w D B.length rs B) (hP : PosP n R B) (hD : DiaP n R B) (hne : flgP n R B ≠ []) :
  Ret Tryz.prog 116 [.agg #[.int .i64 n, .slice A R.length cA, .slice D B.length cD], .int .i64 0] w (AnsX (mxM n R B) (mxC n R B) w) := by
 have hn := hP.n1
 refine Ret.of_cd Tryz.func116 O Tryz.ntmps116 O (postc2 O O) (Gbo O (Ops.box3T (St.refl w) O O ?_))
 intro A2 w1 hS1
 refine Ops.new1 hS1 O ?_
 intro A4 w2 hS2
 refine Gdc O ?_
 refine Cd.cond_pf O (fun h => h O) ?_
 refine Gao O (Ops.ld_agg 2 (hS2.rd 1 O) O O O (Ops.call (flagsOf_c n A D cA cD R rs B _ (hS2.oldI hR) (hS2.oldRows hB) hP) O O O ?_))
 rintro _ w3 ⟨AF, cF, rsF, rfl, hrF, hst⟩
 have hb4 := Rd.below (hS2.rd 0 O) hst.below
 by_cases hf : (flgP n R B).length ≤ 400
 ·obtain ⟨e1, e2, e3⟩ := mx_few hf
  have e4 : mxC n R B = 0 := e1
  rw [e2] at hst ⊢
  rw [e1, e3, e4]
  rw [e2] at hrF
  have hF : RowsI w3 AF (flgP n R B).length rsF (flgP n R B) := hst.rowsI O
  have hS3 := hS2.later hst.below
  refine Gdc O (Cd.cond_f O (Gao O ?_))
  have hT3 := hT.later hS3.below
  refine Ops.call (maniplexOf_c n AF _ cF rsF _ _ hT3 hF (flg_el hP) (flg_NbP hP hD) ⟨List.length_pos_iff.2 hne, hf⟩ (by omega)) O O O ?_
  rintro _ w4 ⟨Am, cm, rsm, rfl, hrm, hst4⟩
  have hml := mn_len n (flgP n R B)
  have hS4 := (hS3.call hst4).perm List.perm_append_comm
  refine Ops.st_agg 1 0 hS4 O O O O O O O ?_
  intro w5 hS5
  refine Gdr O (retc2_r O (hS5.rd 0 O) O ?_)
  refine ⟨Am, cm, rsm, by rw [hml]; rfl, by rw [hml]; exact hrm, ?_⟩
  rw [hml]
  have h9 := hS5.sub (show List.Sublist _ (_ :: _ :: _) from ((List.Sublist.refl _).cons _ |>.cons _))
  rwa [List.append_nil] at h9
 obtain ⟨e1, e3⟩ := mx_many hf
 have e4 : mxC n R B = 3 := e1
 rw [e1, e3, e4]
 have hS3 := hS2.later hst.below
 refine Gdc O (Cd.cond_t O (Gao O (Ops.bld0 (by exact inferInstance) O (Gdo O (Ops.st_agg 1 0 hS3 O O O O O O O ?_)))))
 intro w5 hS5
 refine Gdr O (retc2_r O (hS5.rd 0 O) O ?_)
 exact AnsX.none hS5
/-
 The maniplex of a product, walked on both sides. Conditions: the library's table of powers of ten holds what the program's text lays there (the program's side).
-/
/-! the answer -/
theorem mx_bd {n : Nat} {R : List Int} {B : List (List Int)} (hP : PosP n R B) (hD : DiaP n R B) : (mxM n R B).length ≤ 5 ∧ ∀ x ∈ mxM n R B, x.length ≤ 400 := by
 have hn := hP.n1
 unfold mxM
 split
 ·rename_i h
  have hf : (flgP n R B).length ≤ 400 := by
   unfold flgK at h
   split at h
   ·assumption
   exact absurd h (by decide)
  refine ⟨by rw [mn_len]; omega, fun x hx => ?_⟩
  obtain ⟨i, hi, rfl⟩ := (mn_mem (flg_NbP hP hD)).1 hx
  rw [mn_rl (flg_NbP hP hD) hi]; exact hf
 exact ⟨Nat.zero_le _, fun x hx => nomatch hx⟩
/-! the program -/
theorem polytopeOf_bad (p : Int) (A D : Option Addr) (a cA d cD : Nat) (K : Int) (hK : K ≠ 0) (w : World) :
  Ret Tryz.prog 116 [.agg #[.int .i64 p, .slice A a cA, .slice D d cD], .int .i64 K] w (AnsX [] K w) := by
 refine Ret.of_cd Tryz.func116 O Tryz.ntmps116 O (postc2 O O) (Gbo O (Ops.box3T (St.refl w) O O ?_))
 intro A2 w1 hS1
 refine Ops.new1 hS1 O ?_
 intro A4 w2 hS2
 refine Gdc O (Cd.cond_pt O hK (Gao O (Ops.bld0 (by exact inferInstance) O (Gdo O (Ops.st_agg 1 0 hS2 O O O O O O O ?_)))))
 intro w3 hS3
 refine Gdr O (retc2_r O (hS3.rd 0 O) O ?_)
 exact AnsX.none hS3
/-! the reference -/
set_option maxHeartbeats 2000000 in
theorem l09Maniplex_c (X8 Z8 Y8 W8 : Option Addr) (cx cz cy cw : Nat) (a1 a2 a3 a4 : Nat) (n1 n2 kind : Int) (ok : Bool) (N : Int) (k : Nat) (R : List Int) (B : List (List Int)) (w : World) (hpx : ∀ w', Below w.heap.size w w' → Ret Tryz.prog 103 [.agg #[.int .i64 n1, .slice X8 a1 cx, .slice Y8 a2 cy], .agg #[.int .i64 n2, .slice Z8 a3 cz, .slice W8 a4 cw], .int .i64 kind] w' (AnsPb N R B ok w')) (hQ : ok = true → N = (k : Int) ∧ PosP k R B) :
  Ret Tryz.prog 112 [.agg #[.int .i64 n1, .slice X8 a1 cx, .slice Y8 a2 cy], .agg #[.int .i64 n2, .slice Z8 a3 cz, .slice W8 a4 cw], .int .i64 kind] w (AnsX (if ok = true then mxM k R B else []) (if ok = true then mxC k R B else 3) w) := by
 refine Ret.of_cd Tryz.func112 O Tryz.ntmps112 O (postc2 O O) (Gbo O (Ops.box3T (St.refl w) O O ?_))
 intro A3 w1 hS1
 refine Ops.box3T hS1 O O ?_
 intro A4 w2 hS2
 refine Ops.new1 hS2 O ?_
 intro A6 w3 hS3
 refine Gdo O (Ops.ld_agg 2 (hS3.rd 2 O) O O O (Ops.ld_agg 2 (hS3.rd 1 O) O O O (Gdo O (Ops.call (hpx _ hS3.below) O O O ?_))))
 rintro _ w4 ⟨AR, cR, AD, cD, rsD, rfl, hrD, hst⟩
 have hRR := hst.rdI 0 O
 have hBB : RowsI w4 AD B.length rsD B := St.rowsI hst.tail O
 have hS4 := hS3.later hst.below
 clear hst hS3 hS2 hS1
 refine Gdo O (Ops.newP (St.refl w4) O ?_)
 intro A8 w5 hU5
 refine Ops.st_agg 3 0 hU5 O O O O O O O ?_
 intro w6 hU6
 have hS6 := hS4.later hU6.below
 have hb8 := hU6.rd 0 O
 have hRR := hRR.later hU6.below
 have hBB := hBB.later hU6.below
 cases ok
 ·refine Gdo O ?_
  first | refine Ops.not_p rfl rfl ?_ | refine Ops.not rfl rfl ?_
  refine Gdc O (Cd.cond_t O (Gao O (Ops.bld0 (by exact inferInstance) O (Ops.st_agg 1 0 hS6 O O O O O O O ?_))))
  intro w7 hS7
  refine Gdr O (retc2_r O (hS7.rd 0 O) O ?_)
  exact AnsX.none hS7
 obtain ⟨rfl, hP⟩ := hQ rfl
 rw [if_pos rfl, if_pos rfl]
 have hn := hP.n1
 refine Gdo O ?_
 first | refine Ops.not_p rfl rfl ?_ | refine Ops.not rfl rfl ?_
 refine Gdc O (Cd.cond_f O (Gao O (Ops.ld_agg 2 hb8 O O O (Ops.call (l03Flags_c k AR AD cR cD R rsD B _ hRR hBB hP) O O O ?_))))
 rintro _ w7 ⟨AF, cF, rsF, rfl, hrF, hst⟩
 have hS7 := hS6.later hst.below
 have hb8 := Rd.below hb8 hst.below
 by_cases hf : (flgP k R B).length ≤ 400
 ·obtain ⟨e1, e2, e3⟩ := mx_few hf
  have e4 : mxC k R B = 0 := e1
  rw [cap_few (cap_few'.2 hf)] at hst hrF ⊢
  rw [e3, e4]
  have hF : RowsI w7 AF (flgP k R B).length rsF (flgP k R B) := hst.rowsI O
  refine Gdo O ?_
  first | refine Ops.not_p rfl rfl ?_ | refine Ops.not rfl rfl ?_
  refine Gdc O ?_
  refine Cd.cond_pf O (fun h => h hf) ?_
  refine Gao O (Ops.ld_agg 2 hb8 O O O (Gdo O ?_))
  refine Ops.call (l03Maniplex_c k AR AD AF _ cR _ cD _ cF rsF _ _ hF (fun x hx => (flg_el hP x hx).1) (flgP_SL k R B).nodup hf (by omega)) O O O ?_
  rintro _ w8 ⟨Am, cm, rsm, rfl, hrm, hst8⟩
  have hml := mn_len k (flgP k R B)
  have hS8 := hS7.call2 hst8
  refine Ops.st_agg 1 0 hS8 O O O O O O O ?_
  intro w9 hS9
  refine Gdr O (retc2_r O (hS9.rd 0 O) O ?_)
  refine ⟨Am, cm, rsm, by rw [hml]; rfl, by rw [hml]; exact hrm, ?_⟩
  rw [hml]
  have h9 := hS9.sub (show List.Sublist _ (_ :: _ :: _ :: _) from ((List.Sublist.refl _).cons _ |>.cons _ |>.cons _))
  rwa [List.append_nil] at h9
 obtain ⟨e1, e3⟩ := mx_many hf
 have e4 : mxC k R B = 3 := e1
 rw [e3, e4]
 refine Gdo O ?_
 first | refine Ops.not_p rfl rfl ?_ | refine Ops.not rfl rfl ?_
 refine Gdc O (Cd.cond_pt O hf (Gao O (Ops.bld0 (by exact inferInstance) O (Ops.st_agg 1 0 hS7 O O O O O O O ?_))))
 intro w8 hS8
 refine Gdr O (retc2_r O (hS8.rd 0 O) O ?_)
 exact AnsX.none hS8
/-
 The maniplex of a product, walked in the reference.
-/
/-
 The edge; prisms and bipyramids, walked on both sides. Conditions: the library's table of powers of ten holds what the program's text lays there (the program's side).
-/
end Go.Proofs.YtopgfgdgfjddpaaGreatDoor.Vc
