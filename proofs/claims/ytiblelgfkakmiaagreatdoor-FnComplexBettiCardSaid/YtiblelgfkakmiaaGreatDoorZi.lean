/-
  The texts Co35, Co36, El1, El2, El4, El5, Bt1, Bt2, Bt3, El6, El7, Su1, El8, Bt4, Cw9 in one. Conditions: as each part states them.
-/
import Derived.Test.YtiblelgfkakmiaaGreatDoorZh
import Derived.Test.YtiblelgfkakmiaaGreatDoorZf
import Derived.Test.YtiblelgfkakmiaaGreatDoorZg
import Derived.Test.YtiblelgfkakmiaaGreatDoorZb
import Derived.Test.YtiblelgfkakmiaaGreatDoorZc
/-
 Boundaries of complexes, walked on both sides.
-/
namespace Go.Proofs.YtiblelgfkakmiaaGreatDoor.Vc
open Go.RowKit
/-! pure complexes -/
theorem isPure1_c (A : Option Addr) (n c : Nat) (P3 : Option Addr) (d : Int) (w : World) (hP : Rd w P3 1 (fun _ => .int .i64 d)) :
  Ret Tryz.prog 75 [.slice A n c, .pointer P3] w (fun v w' => v = .bool (decide (¬ (n : Int) = d)) ∧ St w w' []) := by
 refine Ret.of_cd Tryz.func75 rfl Tryz.ntmps75 rfl (post1 rfl) (Cd.seq (Cd.region (Ops.mb rfl rfl rfl (Ops.n (tQ (Cd.seq ?_))))))
 refine Cd.draw [.ex (.slice (A) (n) (c)), .ex (.int .i64 (n : Int)), .ex (.int .i64 (d)), .ex (.bool (decide (¬ (n : Int) = (d)))), .ex (.bool (decide (¬ (n : Int) = (d))))] (by kernel_rfl) (by kernel_rfl) rfl (lx (lx (lx (lx (lx (fun _ h => by cases h)))))) ⟨?_, ?_, ?_, ?_, ?_, trivial⟩ ?_
 ·intro e1 w1 hb hp hun; refine Ops.ms rfl rfl rfl (Ops.n (d0 (by exact rfl)))
 ·intro e1 w1 hb hp hun; refine Ops.call (sizeI_c _ _ _ _) rfl rfl rfl ?_
  rintro _ w2 ⟨rfl, hst⟩
  subst hst
  refine Ops.n (d0 (by exact rfl))
 ·intro e1 w1 hb hp hun; refine Ops.ld (hP.below hb) (j := 0) (by exact congrArg Value.pointer (ptrAt_zero P3).symm) (by omega) rfl rfl rfl (Ops.n (d0 (by exact rfl)))
 ·intro e1 w1 hb hp hun; refine Ops.neq rfl rfl rfl (Ops.n (d0 (by exact rfl)))
 ·intro e1 w1 hb hp hun; refine Ops.mb rfl rfl rfl (Ops.n (d0 (by exact rfl)))
 intro u w2 hb _
 refine tQ (Cd.ret (ret1_b rfl ?_))
 exact ⟨rfl, (St.refl w).later hb⟩
theorem isPure_c (Pc : Option Addr) (V : Int) (A : Option Addr) (n c : Nat) (rs : List SlV) (F : List (List Int)) (w : World) (hP : Rd w Pc 2 (fun j => [Value.int .i64 V, .slice A n c].getD j undef)) (hR : RowsI w A n rs F) (hn : n ≤ 1000) (h6 : ∀ f ∈ F, f.length ≤ 1000000) :
  Ret Tryz.prog 37 [.pointer Pc] w (fun v w' => v = .bool (decide (Pure F)) ∧ St w w' []) := by
 have hFl := hR.len
 refine Ret.of_cd Tryz.func37 rfl Tryz.ntmps37 rfl (post1 rfl) (Cd.seq (Cd.region (Ops.mb rfl rfl rfl (Ops.n (tQ (Cd.seq (Cd.region (Ops.mv_ptr rfl rfl rfl (Ops.call (depth_c Pc V A n c rs F w hP hR hn h6) rfl rfl rfl ?_)))))))))
 rintro _ w ⟨rfl, rfl⟩
 refine Ops.new (z := .int .i64 0) (St.refl w) rfl rfl ?_
 intro P3 w1 hS1
 have hS1 : St w w1 [CkI 2 P3 1 1 [0]] := hS1
 refine Ops.st_int 0 (i := 0) hS1 rfl (by exact congrArg Value.pointer (ptrAt_zero P3).symm) rfl (by decide) ?_
 intro w2 hS2
 have hS2 : St w w2 [CkI 2 P3 1 1 [(dpt F : Int)]] := hS2
 have h3 : Rd w2 P3 1 (fun _ => Value.int .i64 (dpt F : Int)) := (hS2.rd 0 rfl).congr fun j hj => by obtain rfl : j = 0 := by { have : j < 1 := hj; omega }; rfl
 refine Ops.n (tQ (Cd.seq (Cd.region (Ops.mv_ptr rfl rfl rfl (Ops.nilp (hS2.old hP) (by omega) rfl rfl ?_)))))
 skip
 refine Ops.fld (hS2.old hP) rfl rfl rfl rfl inferInstance ?_
 skip
 refine Ops.ldf_s (hS2.old hP) rfl rfl rfl rfl rfl ?_
 skip
 refine Ops.fn1 rfl rfl ?_
 skip
 have hM := hS2.oldRows hR
 refine Ops.call (containsRF_c A n c rs 75 [.pointer P3] (fun i => decide (¬ ((rg rs (i : Int)).n : Int) = (dpt F : Int))) w2 hM.top (by omega) (fun w' i hb hi => isPure1_c _ _ _ P3 _ w' (h3.below hb))) rfl rfl rfl ?_
 rintro _ w3 ⟨rfl, hst⟩
 first | refine Ops.not_p rfl rfl ?_ | refine Ops.not rfl rfl ?_
 refine Ops.mb rfl rfl rfl (Ops.n (tQ (Cd.ret (ret1_b rfl ?_))))
 refine ⟨congrArg Value.bool (decide_eq_decide.2 ?_), hS2.none.later hst.below⟩
 constructor
 ·intro h f hf
  obtain ⟨j, hj, rfl⟩ := List.mem_iff_getElem.1 hf
  have hr := (hR.at_ (i := (j : Int)) (by omega) (by omega)).1
  rw [gl_mem hj] at hr
  have : ¬ ¬ ((rg rs (j : Int)).n : Int) = (dpt F : Int) := fun h2 => h ⟨j, by omega, decide_eq_true h2⟩
  omega
 ·rintro h ⟨j, hj, h2⟩
  have h2 := of_decide_eq_true h2
  have hr := (hR.at_ (i := (j : Int)) (by omega) (by omega)).1
  have := h (gl F (j : Int)) (by rw [gl_mem (by omega)]; exact List.getElem_mem _)
  omega
theorem l17Pure_c (V : Int) (A : Option Addr) (n c : Nat) (rs : List SlV) (F : List (List Int)) (w : World) (hR : RowsI w A n rs F) (hn : n ≤ 1000) :
  Ret Tryz.prog 40 [.agg #[.int .i64 V, .slice A n c]] w (fun v w' => v = .bool (decide (Pure F)) ∧ St w w' []) := by
 have hFl := hR.len
 refine Ret.of_cd Tryz.func40 rfl Tryz.ntmps40 rfl (post1 rfl) (Cd.seq (Cd.region (Ops.box2 (St.refl w) rfl rfl ?_)))
 intro Ab w1 hS1
 have hS1 : St w w1 [cxB Ab V A n c] := hS1
 refine Ops.mb rfl rfl rfl (Ops.n (tQ (Cd.seq (Cd.seq (Cd.region (Ops.mi rfl rfl rfl (Ops.n (tQ (Cd.block ?_)))))))))
 refine Cd.loop (α := Nat) (fun i => [(1, .pointer Ab), (3, .int .i64 (i : Int))]) (fun i w' => St w w' [cxB Ab V A n c] ∧ i ≤ n ∧ ∀ f ∈ F.take i, f.length = (gl F 0).length) (fun i => n - i) 0 ⟨rfl, rfl, trivial⟩ ⟨hS1, Nat.zero_le _, by simp⟩ ?_
 rintro i e w2 ⟨hS, hi, hall⟩
 have hB := hS.rd 0 rfl
 refine Cd.seq (Cd.seq (Cd.region (Ops.mi rfl rfl rfl (Ops.fld hB rfl rfl rfl rfl inferInstance (Ops.ldf_s hB rfl rfl rfl rfl rfl (Ops.len rfl rfl (Ops.lss rfl rfl rfl (Ops.n (tQ ?_)))))))))
 refine Cd.cond_p _ rfl (fun h3 => ?_) (fun h3 => ?_)
 ·have hiF : i < F.length := by omega
  have hM := hS.oldRows hR
  have hrow := hM.at_ (i := (i : Int)) (by omega) (by omega)
  have hrow0 := hM.at_ (i := 0) (by omega) (by omega)
  have hl1 := hrow.1
  have hl2 := hrow0.1
  refine Cd.skip (tQ (Cd.seq (Cd.block (Cd.seq ?_))))
  refine Cd.draw [.ex (.pointer (ptrAt (Ab) 1)), .ex (.slice (A) (n) (c)), .ex (.int .i64 ((i : Int))), .ex (.pointer (ptrAt (A) ((i : Int)).toNat)), .ex (.slice ((rg (rs) ((i : Int))).a) ((rg (rs) ((i : Int))).n) ((rg (rs) ((i : Int))).c)), .ex (.int .i64 ((((rg (rs) ((i : Int))).n : Nat) : Int))), .ex (.pointer (ptrAt (Ab) 1)), .ex (.slice (A) (n) (c)), .ex (.pointer (ptrAt (A) ((0 : Int)).toNat)), .ex (.slice ((rg (rs) ((0 : Int))).a) ((rg (rs) ((0 : Int))).n) ((rg (rs) ((0 : Int))).c)), .ex (.int .i64 ((((rg (rs) ((0 : Int))).n : Nat) : Int))), .ex (.bool (decide (¬ ((((rg (rs) ((i : Int))).n : Nat) : Int)) = ((((rg (rs) ((0 : Int))).n : Nat) : Int)))))] (by kernel_rfl) (by kernel_rfl) rfl (lx (lx (lx (lx (lx (lx (lx (lx (lx (lx (lx (lx (fun _ h => by cases h))))))))))))) ⟨?_, ?_, ?_, ?_, ?_, ?_, ?_, ?_, ?_, ?_, ?_, ?_, trivial⟩ ?_
  ·intro e1 w1 hb hp hun; refine Ops.fld (hB.below hb) rfl rfl rfl rfl inferInstance (Ops.n (d0 (by exact rfl)))
  ·intro e1 w1 hb hp hun; refine Ops.ldf_s (hB.below hb) rfl rfl rfl rfl rfl (Ops.n (d0 (by exact rfl)))
  ·intro e1 w1 hb hp hun; refine Ops.mi rfl rfl rfl (Ops.n (d0 (by exact rfl)))
  ·intro e1 w1 hb hp hun; refine Ops.idx (hM.top.later hb).2 rfl rfl rfl (by omega) (by omega) (Ops.n (d0 (by exact rfl)))
  ·intro e1 w1 hb hp hun; refine Ops.ld_sl (hM.top.later hb) rfl (by omega) rfl rfl (Ops.n (d0 (by exact rfl)))
  ·intro e1 w1 hb hp hun; refine Ops.len rfl rfl (Ops.n (d0 (by exact rfl)))
  ·intro e1 w1 hb hp hun; refine Ops.fld (hB.below hb) rfl rfl rfl rfl inferInstance (Ops.n (d0 (by exact rfl)))
  ·intro e1 w1 hb hp hun; refine Ops.ldf_s (hB.below hb) rfl rfl rfl rfl rfl (Ops.n (d0 (by exact rfl)))
  ·intro e1 w1 hb hp hun; refine Ops.idx (hM.top.later hb).2 rfl rfl rfl (by omega) (by omega) (Ops.n (d0 (by exact rfl)))
  ·intro e1 w1 hb hp hun; refine Ops.ld_sl (hM.top.later hb) rfl (by omega) rfl rfl (Ops.n (d0 (by exact rfl)))
  ·intro e1 w1 hb hp hun; refine Ops.len rfl rfl (Ops.n (d0 (by exact rfl)))
  ·intro e1 w1 hb hp hun; refine Ops.neq rfl rfl rfl (Ops.n (d0 (by exact rfl)))
  intro u w3 hb _
  have hS3 := hS.later hb
  refine tQ ?_
  refine Cd.cond_p _ rfl (fun h4 => ?_) (fun h4 => ?_)
  ·refine Cd.seq (Cd.region (Ops.mb rfl rfl rfl (Ops.n (tQ (Cd.ret (blockQ_r (thenQ_r (thenQ_r (blockQ_r ?_)))))))))
   refine thenQ_r (ret1_b rfl ?_)
   refine ⟨by rw [decide_eq_false (fun h => h4 (by have := Pure.first.1 h (gl F (i : Int)) (by rw [gl_mem hiF]; exact List.getElem_mem _); omega))], hS3.none⟩
  ·refine Cd.skip (blockQ_n (tQ (Cd.region (Ops.mi rfl rfl rfl (Ops.add rfl rfl rfl (by omega) (Ops.mi rfl rfl rfl (Ops.n (tQ ?_))))))))
   refine ⟨i + 1, by show n - (i + 1) < n - i; omega, ⟨rfl, rfl, trivial⟩, hS3, by omega, ?_⟩
   rw [take_succ_gl hiF]
   intro f hf
   rcases List.mem_append.1 hf with hf | hf
   ·exact hall f hf
   ·obtain rfl : f = gl F (i : Int) := by simpa using hf
    omega
 ·rw [List.take_of_length_le (by omega)] at hall
  refine Cd.exit (thenQ_x (thenQ_x (blockQ_x (tQ (Cd.seq (Cd.region (Ops.mb rfl rfl rfl (Ops.n (tQ ?_)))))))))
  refine Cd.ret (ret1_b rfl ?_)
  exact ⟨by rw [decide_eq_true (Pure.first.2 hall)], hS.none⟩
/-! the reference's ridges -/
def cntI (F : List (List Int)) (x : List Int) (i : Nat) : Nat := ((List.range i).filter fun k : Nat => decide (Ins x (gl F (k : Int)))).length
theorem cntI_succ (F : List (List Int)) (x : List Int) (i : Nat) : cntI F x (i + 1) = if Ins x (gl F (i : Int)) then cntI F x i + 1 else cntI F x i := by
 unfold cntI
 rw [List.range_succ, List.filter_append, List.length_append]
 by_cases h : Ins x (gl F (i : Int)) <;> simp [h]
theorem cntI_le (F : List (List Int)) (x : List Int) (i : Nat) : cntI F x i ≤ i := by
 have := List.length_filter_le (fun k : Nat => decide (Ins x (gl F (k : Int)))) (List.range i)
 rwa [List.length_range] at this
theorem cntI_all (F : List (List Int)) (x : List Int) : cntI F x F.length = (hasI F x).length := by unfold cntI hasI; rw [List.length_map]
def cnE (F D : List (List Int)) (r i q : Nat) : Int := if q < r then ((cntI F (gl D (q : Int)) F.length : Nat) : Int) else if q = r then ((cntI F (gl D (q : Int)) i : Nat) : Int) else 0
def cnL (F D : List (List Int)) (r i : Nat) : List Int := (List.range D.length).map (cnE F D r i)
theorem cnL_len (F D : List (List Int)) (r i : Nat) : (cnL F D r i).length = D.length := by simp [cnL]
theorem cnL_at {F D : List (List Int)} {r i q : Nat} (h : q < D.length) : gi (cnL F D r i) (q : Int) = cnE F D r i q := by
 rw [gi_mem (by rw [cnL_len]; exact h)]; simp [cnL]
theorem cnL_zero (F D : List (List Int)) : List.replicate D.length 0 = cnL F D 0 0 := by
 unfold cnL
 rw [List.map_congr_left (g := fun _ => (0 : Int)) fun q _ => by unfold cnE; rw [if_neg (by omega)]; split <;> rfl, List.map_const', List.length_range]
theorem cnL_next (F D : List (List Int)) (r : Nat) : cnL F D r F.length = cnL F D (r + 1) 0 := by
 refine List.map_congr_left fun q _ => ?_
 unfold cnE
 by_cases h1 : q < r
 ·rw [if_pos h1, if_pos (by omega)]
 ·rw [if_neg h1]
  by_cases h2 : q = r
  ·rw [if_pos h2, if_pos (by omega)]
  ·rw [if_neg h2, if_neg (by omega)]
   split <;> rfl
theorem cnL_same {F D : List (List Int)} {r i : Nat} (h : ¬ Ins (gl D (r : Int)) (gl F (i : Int))) : cnL F D r i = cnL F D r (i + 1) := by
 refine List.map_congr_left fun q _ => ?_
 unfold cnE
 by_cases h2 : q = r
 ·subst h2; rw [cntI_succ, if_neg h]
 ·rw [if_neg h2, if_neg h2]
theorem cnL_set {F D : List (List Int)} {r i : Nat} (h : Ins (gl D (r : Int)) (gl F (i : Int))) : (cnL F D r i).set r (cnE F D r i r + 1) = cnL F D r (i + 1) := by
 apply List.ext_getElem
 ·rw [List.length_set, cnL_len, cnL_len]
 ·intro q h1 h2
  rw [List.getElem_set]
  simp only [cnL, List.getElem_map, List.getElem_range]
  by_cases hq : r = q
  ·subst hq
   rw [if_pos rfl]
   unfold cnE
   rw [if_neg (Nat.lt_irrefl _), if_pos rfl, if_neg (Nat.lt_irrefl _), if_pos rfl, cntI_succ, if_pos h]; rfl
  ·rw [if_neg hq]
   unfold cnE
   have hq2 : ¬ q = r := fun e => hq e.symm
   rw [if_neg hq2, if_neg hq2]
theorem cnE_bd (F D : List (List Int)) {r i q : Nat} (hi : i ≤ F.length) : 0 ≤ cnE F D r i q ∧ cnE F D r i q ≤ F.length := by
 unfold cnE
 have h1 := cntI_le F (gl D (q : Int)) F.length
 have h2 := cntI_le F (gl D (q : Int)) i
 split
 ·omega
 ·split <;> omega
theorem ret2_sq {R : Value → World → Prop} {t u : Nat} {A A' : Option Addr} {n c n' c' : Nat} {e : Env} {w : World} (h : e t = .slice A n c) (h2 : e u = .slice A' n' c') (hR : R (.tuple #[.slice A n c, .slice A' n' c']) w) : ret2 t u R .ret e w := by show R (.tuple #[e t, e u]) w; rw [h, h2]; exact hR
def AnsRC (D : List (List Int)) (L : List Int) (w : World) (v : Value) (w' : World) : Prop := ∃ A c rs B d, v = .tuple #[.slice A D.length c, .slice B D.length d] ∧ rs.length = D.length ∧ St w w' (CkI 2 B D.length d L :: (mat 28 2 A D.length c rs D ++ []))
set_option maxHeartbeats 1000000 in
theorem l17Ridges_c (V : Int) (A : Option Addr) (n c : Nat) (rs : List SlV) (F : List (List Int)) (w : World) (hR : RowsI w A n rs F) (hn : n ≤ 1000) (h6 : ∀ f ∈ F, f.length ≤ 6) (hd : 1 ≤ dpt F) :
  Ret Tryz.prog 41 [.agg #[.int .i64 V, .slice A n c]] w (AnsRC (fcs F (dpt F - 1)) (cnL F (fcs F (dpt F - 1)) (fcs F (dpt F - 1)).length 0) w) := by
 have hFl := hR.len
 have hd6 := dpt_bd h6
 have hl6 : ∀ f ∈ F, f.length ≤ 1000000 := fun f hf => by have := h6 f hf; omega
 have hnum := fcs_num (dpt F - 1) h6
 have hfl : ∀ x ∈ fcs F (dpt F - 1), x.length ≤ 6 := fun x hx => by rw [fcs_len hx]; omega
 refine Ret.of_cd Tryz.func41 rfl Tryz.ntmps41 rfl (post2 rfl) (Cd.seq (Cd.region (Ops.box2 (St.refl w) rfl rfl ?_)))
 intro Ab wB hB
 have hB : St w wB [cxB Ab V A n c] := hB
 refine Ops.ms rfl rfl rfl (Ops.ms rfl rfl rfl (Ops.n (tQ (Cd.seq ?_))))
 refine Cd.drawN [] [.ex (.agg #[.int .i64 (V), .slice (A) (n) (c)]), .ex (.agg #[.int .i64 (V), .slice (A) (n) (c)]), .ex (.int .i64 (dpt F : Int)), .ex (.int .i64 ((dpt F : Int) - ((1 : Int)))), .pr (fun v w' => ∃ A2 c2 rs2, v = .slice A2 (fcs F (dpt F - 1)).length c2 ∧ rs2.length = (fcs F (dpt F - 1)).length ∧ St w w' (cxB Ab V A n c :: (mat 28 2 A2 (fcs F (dpt F - 1)).length c2 rs2 (fcs F (dpt F - 1)) ++ []))), .pr (fun v w' => ∃ A2 c2 rs2, v = .slice A2 (fcs F (dpt F - 1)).length c2 ∧ rs2.length = (fcs F (dpt F - 1)).length ∧ St w w' (cxB Ab V A n c :: (mat 28 2 A2 (fcs F (dpt F - 1)).length c2 rs2 (fcs F (dpt F - 1)) ++ [])))] (by kernel_rfl) (by kernel_rfl) (lx (lx (lx (lx (List.forall_mem_cons.2 ⟨Yd.lasts_pr (fun v w w' h hb => by obtain ⟨A2, c2, rs2, hv, hl, hT⟩ := h; exact ⟨A2, c2, rs2, hv, hl, hT.later hb⟩), (List.forall_mem_cons.2 ⟨Yd.lasts_pr (fun v w w' h hb => by obtain ⟨A2, c2, rs2, hv, hl, hT⟩ := h; exact ⟨A2, c2, rs2, hv, hl, hT.later hb⟩), (fun _ h => by cases h)⟩)⟩))))) ⟨?_, ?_, ?_, ?_, ?_, ?_, trivial⟩ ?_
 ·intro e1 w1 cc hlo hhi hb0 hp hun hq; show Ops _ _ _ _ _ _ _
  obtain rfl := cc_of hlo hhi (b := 0) (by kernel_rfl) (by kernel_rfl)
  have hb := hb0 rfl
  refine Ops.ld_agg 1 ((hB.rd 0 rfl).below hb) rfl rfl rfl (Ops.n (n0 rfl (by exact rfl)))
 ·intro e1 w1 cc hlo hhi hb0 hp hun hq; show Ops _ _ _ _ _ _ _
  obtain rfl := cc_of hlo hhi (b := 0) (by kernel_rfl) (by kernel_rfl)
  have hb := hb0 rfl
  refine Ops.ld_agg 1 ((hB.rd 0 rfl).below hb) rfl rfl rfl (Ops.n (n0 rfl (by exact rfl)))
 ·intro e1 w1 cc hlo hhi hb0 hp hun hq; show Ops _ _ _ _ _ _ _
  obtain rfl := cc_of hlo hhi (b := 0) (by kernel_rfl) (by kernel_rfl)
  have hb := hb0 rfl
  refine Ops.call (l17Size_c V A n c rs F _ ((hB.later hb).oldRows hR) hn hl6) rfl rfl rfl ?_
  rintro _ w2 ⟨rfl, hst⟩
  refine Ops.n ?_
  exact AfterN.dn rfl hst.below (by exact rfl)
 ·intro e1 w1 cc hlo hhi hb0 hp hun hq; show Ops _ _ _ _ _ _ _
  refine Ops.sub rfl rfl rfl (by omega) (Ops.n (n0 rfl (by exact rfl)))
 ·intro e1 w1 cc hlo hhi hb0 hp hun hq; show Ops _ _ _ _ _ _ _
  obtain rfl := cc_of hlo hhi (b := 0) (by kernel_rfl) (by kernel_rfl)
  have hb := hb0 rfl
  refine Ops.call (l17Faces_c V A n c rs F (dpt F - 1) _ ((hB.later hb).oldRows hR) hn h6 (by omega)) rfl (by show [_, Value.int .i64 ((dpt F : Int) - 1)] = _; congr 3; omega) rfl ?_
  rintro _ w2 ⟨A2, c2, rs2, rfl, hrl2, hst⟩
  refine Ops.n ?_
  exact AfterN.dn rfl hst.below ⟨A2, c2, rs2, rfl, hrl2, (hB.later hb).call2 hst⟩
 ·intro e1 w1 cc hlo hhi hb0 hp hun hq; show Ops _ _ _ _ _ _ _
  obtain rfl := cc_of hlo hhi (b := 0) (by kernel_rfl) (by kernel_rfl)
  have hb := hb0 rfl
  obtain ⟨A2, c2, rs2, h12, hl, hT⟩ := (hp 4 _ _ (by kernel_rfl) rfl rfl (by kernel_rfl))
  refine Ops.ms rfl (by exact h12) rfl (Ops.n ?_)
  exact AfterN.dn rfl (Below.refl _ _) ⟨A2, c2, rs2, rfl, hl, hT⟩
 intro u w2 _ hu
 obtain ⟨A2, c2, rs2, h4, hrl2, hS2⟩ := hu 5 _ rfl (by kernel_rfl)
 generalize hD : fcs F (dpt F - 1) = D at *
 have hS2 : St w w2 (cxB Ab V A n c :: mat 28 2 A2 D.length c2 rs2 D) := by rw [List.append_nil] at hS2; exact hS2
 refine thenQ_ext (F := [(1, .pointer Ab), (4, .slice A2 D.length c2)]) ⟨rfl, h4, trivial⟩ (tQ (Cd.seq (Cd.region (Ops.ms rfl rfl rfl (Ops.len rfl rfl (Ops.mkI D.length hS2 rfl rfl (by omega) ?_))))))
 intro A5 w3 hS3
 have hS3 : St w w3 (CkI 2 A5 D.length D.length (cnL F D 0 0) :: cxB Ab V A n c :: mat 28 2 A2 D.length c2 rs2 D) := by rw [← cnL_zero]; exact hS3
 refine Ops.ms rfl rfl rfl (Ops.n (tQ (Cd.seq (Cd.seq (Cd.region (Ops.mi rfl rfl rfl (Ops.n (tQ (Cd.block ?_)))))))))
 refine Cd.loop (α := Nat) (fun r => [(1, .pointer Ab), (4, .slice A2 D.length c2), (5, .slice A5 D.length D.length), (6, .int .i64 (r : Int))]) (fun r w' => r ≤ D.length ∧ St w w' (CkI 2 A5 D.length D.length (cnL F D r 0) :: cxB Ab V A n c :: mat 28 2 A2 D.length c2 rs2 D)) (fun r => D.length - r) 0 ⟨rfl, rfl, rfl, rfl, trivial⟩ ⟨Nat.zero_le _, hS3⟩ ?_
 clear hS3 hS2 hB
 rintro r e w4 ⟨hr, hS4⟩
 refine Cd.seq (Cd.seq (Cd.region (Ops.mi rfl rfl rfl (Ops.ms rfl rfl rfl (Ops.len rfl rfl (Ops.lss rfl rfl rfl (Ops.n (tQ ?_))))))))
 refine Cd.cond_p _ rfl (fun h1 => ?_) (fun h1 => ?_)
 ·have hrD : r < D.length := by omega
  refine Cd.skip (tQ (Cd.seq (Cd.block (Cd.seq (Cd.region (Ops.mi rfl rfl rfl (Ops.n (tQ (Cd.block ?_)))))))))
  refine Cd.loop (α := Nat) (fun i => [(1, .pointer Ab), (4, .slice A2 D.length c2), (5, .slice A5 D.length D.length), (6, .int .i64 (r : Int)), (7, .int .i64 (i : Int))]) (fun i w' => i ≤ n ∧ St w w' (CkI 2 A5 D.length D.length (cnL F D r i) :: cxB Ab V A n c :: mat 28 2 A2 D.length c2 rs2 D)) (fun i => n - i) 0 ⟨rfl, rfl, rfl, rfl, rfl, trivial⟩ ⟨Nat.zero_le _, hS4⟩ ?_
  clear hS4
  rintro i e w5 ⟨hi, hS5⟩
  have hB5 := hS5.rd 1 rfl
  refine Cd.seq (Cd.seq (Cd.region (Ops.mi rfl rfl rfl (Ops.fld hB5 rfl rfl rfl rfl inferInstance (Ops.ldf_s hB5 rfl rfl rfl rfl rfl (Ops.len rfl rfl (Ops.lss rfl rfl rfl (Ops.n (tQ ?_)))))))))
  refine Cd.cond_p _ rfl (fun h2 => ?_) (fun h2 => ?_)
  ·have hiF : i < F.length := by omega
   have hM := hS5.oldRows hR
   have hQ : RowsI w5 A2 D.length rs2 D := St.rowsI (ks := []) (by rw [List.append_nil]; exact hS5.tail.tail) rfl
   have hra := hQ.at_ (i := (r : Int)) (by omega) (by omega)
   have hrb := hM.at_ (i := (i : Int)) (by omega) (by omega)
   have hla := hra.1
   have hlb := hrb.1
   have hx6 := hfl (gl D (r : Int)) (by rw [gl_mem hrD]; exact List.getElem_mem _)
   have hf6 := h6 (gl F (i : Int)) (by rw [gl_mem hiF]; exact List.getElem_mem _)
   refine Cd.skip (tQ (Cd.seq (Cd.block (Cd.seq ?_))))
   refine Cd.draw [.ex (.slice (A2) (D.length) (c2)), .ex (.int .i64 ((r : Int))), .ex (.pointer (ptrAt (A2) ((r : Int)).toNat)), .ex (.slice ((rg (rs2) ((r : Int))).a) ((rg (rs2) ((r : Int))).n) ((rg (rs2) ((r : Int))).c)), .ex (.pointer (ptrAt (Ab) 1)), .ex (.slice (A) (n) (c)), .ex (.int .i64 ((i : Int))), .ex (.pointer (ptrAt (A) ((i : Int)).toNat)), .ex (.slice ((rg (rs) ((i : Int))).a) ((rg (rs) ((i : Int))).n) ((rg (rs) ((i : Int))).c)), .ex (.bool (decide (Ins (gl D (r : Int)) (gl F (i : Int)))))] (by kernel_rfl) (by kernel_rfl) rfl (lx (lx (lx (lx (lx (lx (lx (lx (lx (lx (fun _ h => by cases h))))))))))) ⟨?_, ?_, ?_, ?_, ?_, ?_, ?_, ?_, ?_, ?_, trivial⟩ ?_
   ·intro e1 w1 hb hp hun; refine Ops.ms rfl rfl rfl (Ops.n (d0 (by exact rfl)))
   ·intro e1 w1 hb hp hun; refine Ops.mi rfl rfl rfl (Ops.n (d0 (by exact rfl)))
   ·intro e1 w1 hb hp hun; refine Ops.idx (hQ.top.later hb).2 rfl rfl rfl (by omega) (by omega) (Ops.n (d0 (by exact rfl)))
   ·intro e1 w1 hb hp hun; refine Ops.ld_sl (hQ.top.later hb) rfl (by omega) rfl rfl (Ops.n (d0 (by exact rfl)))
   ·intro e1 w1 hb hp hun; refine Ops.fld (hB5.below hb) rfl rfl rfl rfl inferInstance (Ops.n (d0 (by exact rfl)))
   ·intro e1 w1 hb hp hun; refine Ops.ldf_s (hB5.below hb) rfl rfl rfl rfl rfl (Ops.n (d0 (by exact rfl)))
   ·intro e1 w1 hb hp hun; refine Ops.mi rfl rfl rfl (Ops.n (d0 (by exact rfl)))
   ·intro e1 w1 hb hp hun; refine Ops.idx (hM.top.later hb).2 rfl rfl rfl (by omega) (by omega) (Ops.n (d0 (by exact rfl)))
   ·intro e1 w1 hb hp hun; refine Ops.ld_sl (hM.top.later hb) rfl (by omega) rfl rfl (Ops.n (d0 (by exact rfl)))
   ·intro e1 w1 hb hp hun; refine Ops.call (l17Within_c _ _ _ _ _ _ _ _ _ (hra.later hb) (hrb.later hb) (by omega) (by omega)) rfl rfl rfl ?_
    rintro _ w2 ⟨rfl, hst⟩
    subst hst
    refine Ops.n (d0 (by exact rfl))
   intro u w6 hb _
   have hS6 := hS5.later hb
   have hO : RdI w6 A5 D.length (cnL F D r i) := hS6.rdI 0 rfl
   have hat := cnL_at (F := F) (D := D) (r := r) (i := i) hrD
   have hbd := cnE_bd F D (r := r) (i := i) (q := r) (by omega)
   have hcl := cnL_len F D r i
   refine tQ ?_
   refine Cd.cond_p _ rfl (fun h3 => ?_) (fun h3 => ?_)
   ·have hset := cnL_set h3
    refine Cd.region (Ops.ms rfl rfl rfl (Ops.mi rfl rfl rfl (Ops.idx hO.2 rfl rfl rfl (by omega) (by omega) (Ops.ld_int hO rfl (by omega) rfl rfl ?_))))
    rw [hat]
    refine Ops.add rfl rfl rfl (by omega) (Ops.idx hO.2 rfl rfl rfl (by omega) (by omega) (Ops.st_int 0 hS6 rfl rfl rfl (by omega) ?_))
    intro w7 hS7
    refine Ops.n (blockQ_n (tQ (Cd.region (Ops.mi rfl rfl rfl (Ops.add rfl rfl rfl (by omega) (Ops.mi rfl rfl rfl (Ops.n (tQ ?_))))))))
    exact ⟨i + 1, by show n - (i + 1) < n - i; omega, ⟨rfl, rfl, rfl, rfl, rfl, trivial⟩, by omega, by rw [← hset]; exact hS7⟩
   ·rw [cnL_same h3] at hS6
    refine Cd.skip (blockQ_n (tQ (Cd.region (Ops.mi rfl rfl rfl (Ops.add rfl rfl rfl (by omega) (Ops.mi rfl rfl rfl (Ops.n (tQ ?_))))))))
    exact ⟨i + 1, by show n - (i + 1) < n - i; omega, ⟨rfl, rfl, rfl, rfl, rfl, trivial⟩, by omega, hS6⟩
  ·have hie : i = F.length := by omega
   rw [hie, cnL_next] at hS5
   refine Cd.exit (thenQ_x (thenQ_x (blockQ_x (blockQ_n (tQ (Cd.region (Ops.mi rfl rfl rfl (Ops.add rfl rfl rfl (by omega) (Ops.mi rfl rfl rfl ?_)))))))))
   refine Ops.n (tQ ?_)
   exact ⟨r + 1, by show D.length - (r + 1) < D.length - r; omega, ⟨rfl, rfl, rfl, rfl, trivial⟩, by omega, hS5⟩
 ·have hre : r = D.length := by omega
  subst hre
  refine Cd.exit (thenQ_x (thenQ_x (blockQ_x (tQ (Cd.seq (Cd.region (Ops.ms rfl rfl rfl (Ops.ms rfl rfl rfl (Ops.ms rfl rfl rfl ?_)))))))))
  refine Ops.ms rfl rfl rfl (Ops.n (tQ (Cd.ret (ret2_sq rfl rfl ?_))))
  exact ⟨A2, c2, rs2, A5, D.length, rfl, hrl2, hS4.sub (List.Sublist.cons_cons _ (by rw [List.append_nil]; exact List.sublist_cons_self _ _))⟩
/-
 The boundary of a complex, walked on both sides.
-/
def bdV (V : Int) (F : List (List Int)) : Int := if Cplx V F ∧ Pure F then cxV (bdS F) else 0
def bdL (V : Int) (F : List (List Int)) : List (List Int) := if Cplx V F ∧ Pure F then cxL (bdS F) else []
def bdK (V : Int) (F : List (List Int)) : Int := if Cplx V F then (if Pure F then cxK (bdS F) else 5) else 1
theorem bdS_sa {F : List (List Int)} (hs : ∀ f ∈ F, SA f) : ∀ l ∈ bdS F, SA l := fun l hl => fcs_sa hs (List.mem_filter.1 hl).1
theorem Cplx.bd {V : Int} {F : List (List Int)} (h : Cplx V F) : (bdS F).length ≤ 25601 ∧ (∀ l ∈ bdS F, SA l ∧ l.length ≤ 6) ∧ (bdS F).flatten.length ≤ 153606 := by
 have h6 : ∀ f ∈ F, f.length ≤ 6 := fun f hf => (h.row f hf).1.2
 have h1 : (bdS F).length ≤ 25601 := by
  have h2 := List.length_filter_le (fun x => decide ((hasI F x).length % 2 = 1)) (fcs F (dpt F - 1))
  have h3 := fcs_num (dpt F - 1) h6
  have := h.f
  unfold bdS
  omega
 have h2 : ∀ l ∈ bdS F, SA l ∧ l.length ≤ 6 := fun l hl => by
  refine ⟨bdS_sa (fun f hf => (h.row f hf).2.1) l hl, ?_⟩
  have := fcs_len (List.mem_filter.1 hl).1
  have := dpt_bd h6
  omega
 refine ⟨h1, h2, ?_⟩
 have := flat_le2 (b := 6) fun l hl => (h2 l hl).2
 omega
def rvO (rvs : List RV) : List RV := rvs.filter fun r => decide (r.ns.length % 2 = 1)
theorem rvO_succ {rvs : List RV} {k : Nat} (h : k < rvs.length) : rvO (rvs.take (k + 1)) = if rvs[k].ns.length % 2 = 1 then rvO (rvs.take k) ++ [rvs[k]] else rvO (rvs.take k) := by
 unfold rvO
 rw [List.take_succ_eq_append_getElem h, List.filter_append]
 by_cases e : rvs[k].ns.length % 2 = 1 <;> simp [e]
theorem rvO_all {rvs : List RV} {F : List (List Int)} (h : rvs.map RV.pr = rdgs F) : (rvO rvs).map (·.x) = bdR F := by
 unfold rvO bdR
 rw [← h, List.filter_map, List.map_map]; rfl
theorem bd_sets {V : Int} {F : List (List Int)} (hC : Cplx V F) (hP : Pure F) : cxV ((bdR F).map cs) = cxV (bdS F) ∧ cxL ((bdR F).map cs) = cxL (bdS F) ∧ cxK ((bdR F).map cs) = cxK (bdS F) := by
 have hm := bdR_mem hC hP
 rw [map_cs_id fun l hl => bdS_sa (fun f hf => (hC.row f hf).2.1) l ((hm l).1 hl)]
 exact cx_ext hm
set_option maxHeartbeats 1000000 in
theorem implBoundaryOf_c (V : Int) (A : Option Addr) (n c : Nat) (rs : List SlV) (F : List (List Int)) (w : World) (hT : Tab w) (hR : RowsI w A n rs F) (hn : n ≤ 9223372036854775807) :
    Ret Tryz.prog 11 [.agg #[.int .i64 V, .slice A n c]] w (AnsC (bdV V F) (bdL V F) (bdK V F) w) := by
  have hFl := hR.len
  refine Ret.of_cd Tryz.func11 rfl Tryz.ntmps11 rfl (postc2 rfl rfl) (Cd.seq (Cd.region (Ops.box2 (St.refl w) rfl rfl ?_)))
  intro Ab w1 hS1
  refine Ops.new2 hS1 rfl ?_
  intro A2 w2 hS2
  have hS2 : St w w2 [cxZ A2, cxB Ab V A n c] := hS2
  refine Ops.mi rfl rfl rfl (Ops.n (tQ (Cd.seq (Cd.block (Cd.seq (Cd.region (Ops.ld_agg 1 (hS2.rd 1 rfl) rfl rfl rfl (Ops.call (isComplex_c V A n c rs F _ (hT.later hS2.below) (hS2.oldRows hR) hn) rfl rfl rfl ?_))))))))
  rintro _ w3 ⟨rfl, hst⟩
  have hS3 := hS2.later hst.below
  first | refine Ops.not_p rfl rfl ?_ | refine Ops.not rfl rfl ?_
  refine Ops.mb rfl rfl rfl (Ops.n (tQ ?_))
  unfold bdV bdL bdK
  refine Cd.cond_p _ rfl (fun h1 => ?_) (fun h1 => ?_)
  · rw [if_neg (fun h => h1 h.1), if_neg (fun h => h1 h.1), if_neg h1]
    refine Cd.seq (Cd.region (Ops.bldZ2 (by exact inferInstance) (by exact inferInstance) rfl rfl rfl (Ops.st_agg 2 0 hS3 rfl rfl rfl rfl rfl rfl rfl ?_)))
    intro w9 hS9
    refine Ops.mi rfl rfl rfl (Ops.n (tQ (Cd.ret (blockQ_r (thenQ_r ?_)))))
    skip
    refine retc2_r rfl (hS9.rd 0 rfl) rfl ?_
    exact AnsC.none hS9
  have h1 := Classical.not_not.1 h1
  have hn4 := h1.f
  have h6 : ∀ f ∈ F, f.length ≤ 6 := fun f hf => (h1.row f hf).1.2
  refine Cd.seq (Cd.region ?_)
  refine Ops.call (isPure_c Ab V A n c rs F _ (hS3.rd 1 rfl) (hS3.oldRows hR) (by omega) (fun f hf => by have := h6 f hf; omega)) rfl rfl rfl ?_
  rintro _ w4 ⟨rfl, hst⟩
  have hS4 := hS3.later hst.below
  first | refine Ops.not_p rfl rfl ?_ | refine Ops.not rfl rfl ?_
  refine Ops.mb rfl rfl rfl (Ops.n (tQ ?_))
  refine Cd.cond_p _ rfl (fun h2 => ?_) (fun h2 => ?_)
  · rw [if_neg (fun h => h2 h.2), if_neg (fun h => h2 h.2), if_pos h1, if_neg h2]
    refine Cd.seq (Cd.region (Ops.bldZ2 (by exact inferInstance) (by exact inferInstance) rfl rfl rfl (Ops.st_agg 2 0 hS4 rfl rfl rfl rfl rfl rfl rfl ?_)))
    intro w9 hS9
    refine Ops.mi rfl rfl rfl (Ops.n (tQ (Cd.ret (blockQ_r (thenQ_r ?_)))))
    skip
    refine retc2_r rfl (hS9.rd 0 rfl) rfl ?_
    exact AnsC.none hS9
  have h2 := Classical.not_not.1 h2
  rw [if_pos ⟨h1, h2⟩, if_pos ⟨h1, h2⟩, if_pos h1, if_pos h2]
  obtain ⟨eV, eL, eK⟩ := bd_sets h1 h2
  refine Cd.skip (blockQ_n (tQ (Cd.seq (Cd.region (Ops.ms rfl rfl rfl (Ops.n (tQ (Cd.seq (Cd.seq ?_)))))))))
  refine Cd.region (Ops.call (ridges_c Ab V A n c rs F _ (hT.later hS4.below) (hS4.rd 1 rfl) (hS4.oldRows hR) h1) rfl rfl rfl ?_)
  rintro _ w5 ⟨A16, c16, rvs, X, rfl, hpr, hrow, hst⟩
  have hbl : rvs.length ≤ 25600 := by
    have e1 := congrArg List.length hpr
    rw [List.length_map] at e1
    have e2 := rdF_len _ (sqR F F.length) rfl
    have e3 := sqR_len h6 F.length (Nat.le_refl _)
    unfold rdgs at e1
    omega
  have hS5 : St w w5 (CkR 28 none (rvO (rvs.take 0)).length 0 [] :: cxZ A2 :: cxB Ab V A n c :: CkP 55 A16 rvs.length c16 (rvs.map (·.P)) :: (rvs.flatMap RV.ck ++ X)) := (hS4.call2 hst).nil 28
  clear hS4 hS3 hS2 hS1 hst
  refine Ops.len rfl rfl (Ops.mi rfl rfl rfl (Ops.n (tQ (Cd.block ?_))))
  refine Cd.loop (α := Nat × (Option Addr × Nat)) (fun z => [(2, .pointer A2), (4, .slice z.2.1 (rvO (rvs.take z.1)).length z.2.2), (16, .slice A16 rvs.length c16), (17, .int .i64 (rvs.length : Int)), (18, .int .i64 (z.1 : Int))])
    (fun z w' => z.1 ≤ rvs.length ∧ St w w' (CkR 28 z.2.1 (rvO (rvs.take z.1)).length z.2.2 ((rvO (rvs.take z.1)).map (·.s)) :: cxZ A2 :: cxB Ab V A n c :: CkP 55 A16 rvs.length c16 (rvs.map (·.P)) :: (rvs.flatMap RV.ck ++ X))) (fun z => rvs.length - z.1) (0, (none, 0)) ⟨rfl, rfl, rfl, rfl, rfl, trivial⟩ ⟨Nat.zero_le _, hS5⟩ ?_
  clear hS5
  rintro ⟨k, ⟨A4, c4⟩⟩ e w6 ⟨hk, hS⟩
  dsimp only at hk hS ⊢
  have hol : (rvO (rvs.take k)).length ≤ 25600 := by
    have := List.length_filter_le (fun r : RV => decide (r.ns.length % 2 = 1)) (rvs.take k)
    rw [List.length_take] at this
    unfold rvO
    omega
  refine Cd.seq (Cd.region (Ops.lss rfl rfl rfl (Ops.n (tQ (Cd.seq ?_)))))
  refine Cd.cond_p _ rfl (fun h3 => ?_) (fun h3 => ?_)
  · have hkl : k < rvs.length := by omega
    have hsucc := rvO_succ hkl
    have hrm : rvs[k] ∈ rvs := List.getElem_mem _
    have hrX := hrow rvs[k] hrm
    have hP : RdP w6 A16 rvs.length (rvs.map (·.P)) := hS.rdP 3 rfl
    have hgp : (rvs.map (·.P)).getD ((k : Int)).toNat none = rvs[k].P := by simp [List.getD_eq_getElem?_getD, List.getElem?_eq_getElem hkl]
    obtain ⟨q, hq⟩ := List.mem_iff_getElem?.1 (show rvs[k].bx ∈ rvs.flatMap RV.ck ++ X from List.mem_append_left _ (List.mem_flatMap.2 ⟨rvs[k], hrm, by simp [RV.ck]⟩))
    have hbx : Rd w6 rvs[k].P 2 (fun j => [Value.slice rvs[k].s.a rvs[k].s.n rvs[k].s.c, .slice rvs[k].B rvs[k].ns.length rvs[k].c].getD j undef) := hS.rd (q + 4) hq
    generalize rvs[k] = r at *
    refine Cd.skip (tQ (Cd.seq (Cd.block (Cd.seq (Cd.region (Ops.idx hP.2 rfl rfl rfl (by omega) (by omega) (Ops.ld hP.2 rfl (by omega) rfl rfl rfl ?_)))))))
    rw [hgp]
    refine Ops.mv_ptr rfl rfl rfl (Ops.n (tQ (Cd.seq (Cd.region (Ops.mv_ptr rfl rfl rfl (Ops.nilp hbx (by omega) rfl rfl (Ops.fld hbx rfl rfl rfl rfl inferInstance (Ops.ldf_s hbx rfl rfl rfl rfl rfl (Ops.len rfl rfl ?_)))))))))
    refine Ops.rem rfl rfl rfl (by omega) (Ops.eql rfl rfl rfl (Ops.n (tQ ?_)))
    refine Cd.cond_p _ rfl (fun h4 => ?_) (fun h4 => ?_)
    · rw [if_pos (by omega)] at hsucc
      refine Cd.region (Ops.ms rfl rfl rfl (Ops.mv_ptr rfl rfl rfl (Ops.nilp hbx (by omega) rfl rfl (Ops.fld hbx rfl rfl rfl rfl inferInstance (Ops.ldf_s hbx rfl rfl rfl rfl rfl (Ops.bs1R hS rfl rfl rfl ?_))))))
      intro A7 w7 hS7
      refine Ops.appR 1 hS7 rfl (hS7.rdR 0 rfl) rfl rfl rfl (by omega) (by omega) rfl ?_
      intro A8 c8 w8 hS8
      have hS8 := St.tail hS8
      have hl1 : (rvO (rvs.take (k + 1))).length = (rvO (rvs.take k)).length + 1 := by rw [hsucc]; simp
      refine Ops.ms rfl rfl rfl (Ops.n (blockQ_n (tQ (Cd.region (Ops.add rfl rfl rfl (by omega) (Ops.mi rfl rfl rfl (Ops.n (tQ ?_))))))))
      refine ⟨(k + 1, (A8, c8)), by show rvs.length - (k + 1) < rvs.length - k; omega, ⟨rfl, by show Value.slice A8 ((rvO (rvs.take k)).length + 1) c8 = .slice A8 (rvO (rvs.take (k + 1))).length c8; rw [hl1], rfl, rfl, rfl, trivial⟩, by show k + 1 ≤ _; omega, ?_⟩
      show St w w8 (CkR 28 A8 (rvO (rvs.take (k + 1))).length c8 ((rvO (rvs.take (k + 1))).map (·.s)) :: _)
      rw [hl1, hsucc, List.map_append]
      exact hS8
    · rw [if_neg (by omega)] at hsucc
      rw [← hsucc] at hS ⊢
      refine Cd.skip (blockQ_n (tQ (Cd.region (Ops.add rfl rfl rfl (by omega) (Ops.mi rfl rfl rfl (Ops.n (tQ ?_)))))))
      exact ⟨(k + 1, (A4, c4)), by show rvs.length - (k + 1) < rvs.length - k; omega, ⟨rfl, rfl, rfl, rfl, rfl, trivial⟩, by show k + 1 ≤ _; omega, hS⟩
  · rw [List.take_of_length_le (by omega)] at hS hol ⊢
    have hxs := rvO_all hpr
    have hlen : (rvO rvs).length = (bdR F).length := by rw [← hxs, List.length_map]
    have hW : RowsS w X (bdR F).length ((rvO rvs).map (·.s)) (bdR F) := by
      refine ⟨by rw [List.length_map, hlen], rfl, fun j hj => .inr ?_⟩
      have hj2 : j < (rvO rvs).length := by omega
      have hm : (rvO rvs)[j] ∈ rvs := (List.mem_filter.1 (List.getElem_mem hj2)).1
      have e1 : ((rvO rvs).map (·.s)).getD j slNil = (rvO rvs)[j].s := by simp [List.getD_eq_getElem?_getD, List.getElem?_eq_getElem hj2]
      have e2 : (bdR F).getD j [] = (rvO rvs)[j].x := by rw [← hxs]; simp [List.getD_eq_getElem?_getD, List.getElem?_eq_getElem hj2]
      rw [e1, e2]
      exact hrow _ hm
    rw [hlen] at hS hol ⊢
    have hI : RowsI w6 A4 (bdR F).length ((rvO rvs).map (·.s)) (bdR F) := (hW.W hS fun k hk => List.mem_cons_of_mem _ (List.mem_cons_of_mem _ (List.mem_cons_of_mem _ (List.mem_cons_of_mem _ (List.mem_append_right _ hk))))).I (hS.rdR 0 rfl)
    obtain ⟨hL1, hL2, hL3⟩ := h1.bd
    have hC := complexOf_c A4 (bdR F).length c4 ((rvO rvs).map (·.s)) (bdR F) w6 (hT.later hS.below) hI (by omega) (fun l hl => by have := (hL2 l ((bdR_mem h1 h2 l).1 hl)).2; omega)
    rw [eV, eL, eK] at hC
    refine Cd.exit (thenQ_x (thenQ_x (blockQ_x (tQ (Cd.seq (Cd.region (Ops.ms rfl rfl rfl (Ops.call hC rfl rfl rfl ?_))))))))
    rintro _ w7 ⟨A6, c6, rs6, rfl, hrl6, hst6⟩
    have hS6 := (St.sub hS (show [cxZ A2].Sublist _ from (List.Sublist.cons_cons _ (List.nil_sublist _)).cons _)).call2 hst6
    refine Ops.extract rfl rfl rfl (Ops.extract rfl rfl rfl (Ops.st_agg 2 0 hS6 rfl rfl rfl rfl rfl rfl rfl ?_))
    intro w8 hS7
    refine Ops.mi rfl rfl rfl (Ops.n (tQ (Cd.ret ?_)))
    skip
    refine retc2_r rfl (hS7.rd 0 rfl) rfl ?_
    exact ⟨A6, c6, rs6, rfl, hrl6, hS7.tail⟩
def odG (F D : List (List Int)) (r : Nat) : List Nat := (List.range r).filter fun q : Nat => decide ((hasI F (gl D (q : Int))).length % 2 = 1)
theorem odG_succ (F D : List (List Int)) (r : Nat) : odG F D (r + 1) = if (hasI F (gl D (r : Int))).length % 2 = 1 then odG F D r ++ [r] else odG F D r := by
 unfold odG
 rw [List.range_succ, List.filter_append]
 by_cases e : (hasI F (gl D (r : Int))).length % 2 = 1 <;> simp [e]
theorem odG_len (F D : List (List Int)) (r : Nat) : (odG F D r).length ≤ r := by
 have := List.length_filter_le (fun q : Nat => decide ((hasI F (gl D (q : Int))).length % 2 = 1)) (List.range r)
 rwa [List.length_range] at this
theorem odG_mem {F D : List (List Int)} {r q : Nat} (h : q ∈ odG F D r) : q < r := List.mem_range.1 (List.mem_filter.1 h).1
theorem odG_all (F D : List (List Int)) : (odG F D D.length).map (fun q : Nat => gl D (q : Int)) = D.filter fun x => decide ((hasI F x).length % 2 = 1) := by
 have e : D = (List.range D.length).map fun q : Nat => gl D (q : Int) := by
  apply List.ext_getElem
  ·simp
  ·intro i h1 h2
   simp [gl_mem h1]
 conv => rhs; rw [e, List.filter_map]
 rfl
set_option maxHeartbeats 1000000 in
theorem specBoundaryOf_c (V : Int) (A : Option Addr) (n c : Nat) (rs : List SlV) (F : List (List Int)) (w : World) (hR : RowsI w A n rs F) (hn : n ≤ 9223372036854775807) :
    Ret Tryz.prog 12 [.agg #[.int .i64 V, .slice A n c]] w (AnsC (bdV V F) (bdL V F) (bdK V F) w) := by
  have hFl := hR.len
  refine Ret.of_cd Tryz.func12 rfl Tryz.ntmps12 rfl (postc2 rfl rfl) (Cd.seq (Cd.region (Ops.box2 (St.refl w) rfl rfl ?_)))
  intro Ab w1 hS1
  refine Ops.new2 hS1 rfl ?_
  intro A2 w2 hS2
  have hS2 : St w w2 [cxZ A2, cxB Ab V A n c] := hS2
  refine Ops.mi rfl rfl rfl (Ops.n (tQ (Cd.seq (Cd.block (Cd.seq (Cd.region (Ops.ld_agg 1 (hS2.rd 1 rfl) rfl rfl rfl (Ops.call (l17Is_c V A n c rs F _ (hS2.oldRows hR) hn) rfl rfl rfl ?_))))))))
  rintro _ w3 ⟨rfl, hst⟩
  have hS3 := hS2.later hst.below
  first | refine Ops.not_p rfl rfl ?_ | refine Ops.not rfl rfl ?_
  refine Ops.mb rfl rfl rfl (Ops.n (tQ ?_))
  unfold bdV bdL bdK
  refine Cd.cond_p _ rfl (fun h1 => ?_) (fun h1 => ?_)
  · rw [if_neg (fun h => h1 h.1), if_neg (fun h => h1 h.1), if_neg h1]
    refine Cd.seq (Cd.region (Ops.bldZ2 (by exact inferInstance) (by exact inferInstance) rfl rfl rfl (Ops.st_agg 2 0 hS3 rfl rfl rfl rfl rfl rfl rfl ?_)))
    intro w9 hS9
    refine Ops.mi rfl rfl rfl (Ops.n (tQ (Cd.ret (blockQ_r (thenQ_r ?_)))))
    skip
    refine retc2_r rfl (hS9.rd 0 rfl) rfl ?_
    exact AnsC.none hS9
  have h1 := Classical.not_not.1 h1
  have hn4 := h1.f
  have h6 : ∀ f ∈ F, f.length ≤ 6 := fun f hf => (h1.row f hf).1.2
  refine Cd.seq (Cd.region (Ops.ld_agg 1 (hS3.rd 1 rfl) rfl rfl rfl (Ops.call (l17Pure_c V A n c rs F _ (hS3.oldRows hR) (by omega)) rfl rfl rfl ?_)))
  rintro _ w4 ⟨rfl, hst⟩
  have hS4 := hS3.later hst.below
  first | refine Ops.not_p rfl rfl ?_ | refine Ops.not rfl rfl ?_
  refine Ops.mb rfl rfl rfl (Ops.n (tQ ?_))
  refine Cd.cond_p _ rfl (fun h2 => ?_) (fun h2 => ?_)
  · rw [if_neg (fun h => h2 h.2), if_neg (fun h => h2 h.2), if_pos h1, if_neg h2]
    refine Cd.seq (Cd.region (Ops.bldZ2 (by exact inferInstance) (by exact inferInstance) rfl rfl rfl (Ops.st_agg 2 0 hS4 rfl rfl rfl rfl rfl rfl rfl ?_)))
    intro w9 hS9
    refine Ops.mi rfl rfl rfl (Ops.n (tQ (Cd.ret (blockQ_r (thenQ_r ?_)))))
    skip
    refine retc2_r rfl (hS9.rd 0 rfl) rfl ?_
    exact AnsC.none hS9
  have h2 := Classical.not_not.1 h2
  rw [if_pos ⟨h1, h2⟩, if_pos ⟨h1, h2⟩, if_pos h1, if_pos h2]
  obtain ⟨hL1, hL2, hL3⟩ := h1.bd
  refine Cd.seq (Cd.region (Ops.fld (hS4.rd 1 rfl) rfl rfl rfl rfl inferInstance (Ops.ldf_s (hS4.rd 1 rfl) rfl rfl rfl rfl rfl (Ops.len rfl rfl (Ops.eql rfl rfl rfl (Ops.mb rfl rfl rfl (Ops.n (tQ ?_))))))))
  refine Cd.cond_p _ rfl (fun h3 => ?_) (fun h3 => ?_)
  · have hF0 : F = [] := List.eq_nil_of_length_eq_zero (by omega)
    have e0 : cxV (bdS F) = 0 ∧ cxL (bdS F) = [] ∧ cxK (bdS F) = 0 := by
      subst hF0
      have e : bdS [] = [] := by unfold bdS; rw [show dpt [] - 1 = 0 from rfl, fcs_zero]; rfl
      rw [e]
      obtain ⟨a, b, c, _⟩ := cx_self (V := 0) (F := []) (by decide)
      exact ⟨a, b, c⟩
    rw [e0.1, e0.2.1, e0.2.2]
    refine Cd.seq (Cd.region (Ops.bldZ2 (by exact inferInstance) (by exact inferInstance) rfl rfl rfl (Ops.st_agg 2 0 hS4 rfl rfl rfl rfl rfl rfl rfl ?_)))
    intro w9 hS9
    refine Ops.mi rfl rfl rfl (Ops.n (tQ (Cd.ret (blockQ_r (thenQ_r ?_)))))
    skip
    refine retc2_r rfl (hS9.rd 0 rfl) rfl ?_
    exact AnsC.none hS9
  have hd1 : 1 ≤ dpt F := by
    obtain ⟨f, hf, e⟩ := dpt_ex (F := F) (fun e => by rw [e] at hFl; simp at hFl; omega)
    have := (h1.row f hf).1.1
    omega
  refine Cd.skip (blockQ_n (tQ (Cd.seq (Cd.region (Ops.ld_agg 1 (hS4.rd 1 rfl) rfl rfl rfl (Ops.call (l17Ridges_c V A n c rs F _ (hS4.oldRows hR) (by omega) h6 hd1) rfl rfl rfl ?_))))))
  rintro _ w5 ⟨A4, c4, rs4, A5, c5, rfl, hrl4, hst⟩
  have hD : bdS F = (fcs F (dpt F - 1)).filter fun x => decide ((hasI F x).length % 2 = 1) := rfl
  have hnum := fcs_num (dpt F - 1) h6
  rw [hD] at hL1 hL2 hL3
  rw [hD]
  generalize fcs F (dpt F - 1) = D at *
  have hod := odG_all F D
  have hS5 : St w w5 (cxZ A2 :: cxB Ab V A n c :: CkI 2 A5 D.length c5 (cnL F D D.length 0) :: mat 28 2 A4 D.length c4 rs4 D) := by
    have h := hS4.call2 hst
    rw [List.append_nil] at h
    exact h
  clear hS4 hS3 hS2 hS1 hst
  refine Ops.mv_tup rfl rfl rfl (Ops.extract rfl rfl rfl (Ops.extract rfl rfl rfl (Ops.ms rfl rfl rfl (Ops.ms rfl rfl rfl (Ops.n (tQ (Cd.seq (Cd.region (Ops.bs0 hS5 rfl ?_)))))))))
  intro A6 w6 hS6
  have hS6 : St w w6 (CkR 28 A6 (odG F D 0).length 0 ((odG F D 0).map fun q : Nat => rg rs4 (q : Int)) :: cxZ A2 :: cxB Ab V A n c :: CkI 2 A5 D.length c5 (cnL F D D.length 0) :: mat 28 2 A4 D.length c4 rs4 D) := hS6
  clear hS5
  refine Ops.ms rfl rfl rfl (Ops.n (tQ (Cd.seq (Cd.seq (Cd.region (Ops.mi rfl rfl rfl (Ops.n (tQ (Cd.block ?_)))))))))
  refine Cd.loop (α := Nat × (Option Addr × Nat)) (fun z => [(2, .pointer A2), (4, .slice A4 D.length c4), (5, .slice A5 D.length c5), (6, .slice z.2.1 (odG F D z.1).length z.2.2), (7, .int .i64 (z.1 : Int))])
    (fun z w' => z.1 ≤ D.length ∧ St w w' (CkR 28 z.2.1 (odG F D z.1).length z.2.2 ((odG F D z.1).map fun q : Nat => rg rs4 (q : Int)) :: cxZ A2 :: cxB Ab V A n c :: CkI 2 A5 D.length c5 (cnL F D D.length 0) :: mat 28 2 A4 D.length c4 rs4 D)) (fun z => D.length - z.1) (0, (A6, 0)) ⟨rfl, rfl, rfl, rfl, rfl, trivial⟩ ⟨Nat.zero_le _, hS6⟩ ?_
  clear hS6
  rintro ⟨r, ⟨A6, c6⟩⟩ e w6 ⟨hr, hS⟩
  dsimp only at hr hS ⊢
  have hol := odG_len F D r
  refine Cd.seq (Cd.seq (Cd.region (Ops.mi rfl rfl rfl (Ops.ms rfl rfl rfl (Ops.len rfl rfl (Ops.lss rfl rfl rfl (Ops.n (tQ ?_))))))))
  refine Cd.cond_p _ rfl (fun h4 => ?_) (fun h4 => ?_)
  · have hrD : r < D.length := by omega
    have hsucc := odG_succ F D r
    have hO : RdI w6 A5 D.length (cnL F D D.length 0) := hS.rdI 3 rfl
    have hQ : RdR w6 A4 D.length rs4 := hS.rdR 4 rfl
    have hat : gi (cnL F D D.length 0) (r : Int) = ((hasI F (gl D (r : Int))).length : Int) := by
      rw [cnL_at hrD]
      unfold cnE
      rw [if_pos hrD, cntI_all]
    have hbd : ((hasI F (gl D (r : Int))).length : Int) ≤ F.length := by
      rw [← cntI_all]
      have := cntI_le F (gl D (r : Int)) F.length
      omega
    refine Cd.skip (tQ (Cd.seq (Cd.block (Cd.seq (Cd.region (Ops.ms rfl rfl rfl (Ops.mi rfl rfl rfl (Ops.idx hO.2 rfl rfl rfl (by omega) (by omega) (Ops.ld_int hO rfl (by omega) rfl rfl ?_)))))))))
    rw [hat]
    refine Ops.rem rfl rfl rfl (by omega) (Ops.eql rfl rfl rfl (Ops.n (tQ ?_)))
    refine Cd.cond_p _ rfl (fun h5 => ?_) (fun h5 => ?_)
    · rw [if_pos (by omega)] at hsucc
      refine Cd.region (Ops.ms rfl rfl rfl (Ops.ms rfl rfl rfl (Ops.mi rfl rfl rfl (Ops.idx hQ.2 rfl rfl rfl (by omega) (by omega) (Ops.ld_sl hQ rfl (by omega) rfl rfl (Ops.bs1R hS rfl rfl rfl ?_))))))
      intro A7 w7 hS7
      refine Ops.appR 1 hS7 rfl (hS7.rdR 0 rfl) rfl rfl rfl (by omega) (by omega) rfl ?_
      intro A8 c8 w8 hS8
      have hS8 := St.tail hS8
      have hl1 : (odG F D (r + 1)).length = (odG F D r).length + 1 := by rw [hsucc]; simp
      refine Ops.ms rfl rfl rfl (Ops.n (blockQ_n (tQ (Cd.region (Ops.mi rfl rfl rfl (Ops.add rfl rfl rfl (by omega) (Ops.mi rfl rfl rfl (Ops.n (tQ ?_)))))))))
      refine ⟨(r + 1, (A8, c8)), by show D.length - (r + 1) < D.length - r; omega, ⟨rfl, rfl, rfl, by show Value.slice A8 ((odG F D r).length + 1) c8 = .slice A8 (odG F D (r + 1)).length c8; rw [hl1], rfl, trivial⟩, by show r + 1 ≤ _; omega, ?_⟩
      show St w w8 (CkR 28 A8 (odG F D (r + 1)).length c8 ((odG F D (r + 1)).map fun q : Nat => rg rs4 (q : Int)) :: _)
      rw [hl1, hsucc, List.map_append]
      exact hS8
    · rw [if_neg (by omega)] at hsucc
      rw [← hsucc] at hS ⊢
      refine Cd.skip (blockQ_n (tQ (Cd.region (Ops.mi rfl rfl rfl (Ops.add rfl rfl rfl (by omega) (Ops.mi rfl rfl rfl (Ops.n (tQ ?_))))))))
      exact ⟨(r + 1, (A6, c6)), by show D.length - (r + 1) < D.length - r; omega, ⟨rfl, rfl, rfl, rfl, rfl, trivial⟩, by show r + 1 ≤ _; omega, hS⟩
  · have hre : r = D.length := by omega
    subst hre
    generalize hqq : odG F D D.length = qs at *
    have hqm : ∀ q ∈ qs, q < D.length := fun q hq => by rw [← hqq] at hq; exact odG_mem hq
    rw [← hod]
    rw [← hod] at hL1 hL2 hL3
    have hlen : (qs.map fun q : Nat => gl D (q : Int)).length = qs.length := List.length_map _
    have hW : RowsS w (mat 28 2 A4 D.length c4 rs4 D) qs.length (qs.map fun q : Nat => rg rs4 (q : Int)) (qs.map fun q : Nat => gl D (q : Int)) := by
      refine ⟨List.length_map _, hlen, fun j hj => .inr ?_⟩
      have hq := hqm _ (List.getElem_mem hj)
      have e1 : (qs.map fun q : Nat => rg rs4 (q : Int)).getD j slNil = rg rs4 (qs[j] : Int) := by simp [List.getD_eq_getElem?_getD, List.getElem?_eq_getElem hj]
      have e2 : (qs.map fun q : Nat => gl D (q : Int)).getD j [] = gl D (qs[j] : Int) := by simp [List.getD_eq_getElem?_getD, List.getElem?_eq_getElem hj]
      rw [e1, e2]
      exact List.mem_cons_of_mem _ (List.mem_iff_getElem?.2 ⟨qs[j], rowsCk_get hrl4 (by omega)⟩)
    have hI : RowsI w6 A6 qs.length (qs.map fun q : Nat => rg rs4 (q : Int)) (qs.map fun q : Nat => gl D (q : Int)) := (hW.W hS fun k hk => List.mem_cons_of_mem _ (List.mem_cons_of_mem _ (List.mem_cons_of_mem _ (List.mem_cons_of_mem _ hk)))).I (hS.rdR 0 rfl)
    refine Cd.exit (thenQ_x (thenQ_x (blockQ_x (tQ (Cd.seq (Cd.region (Ops.ms rfl rfl rfl ?_)))))))
    refine Ops.call (l17Make_c A6 qs.length c6 _ _ w6 hI (by omega) (by omega) (fun l hl => (hL2 l hl).1)) rfl rfl rfl ?_
    rintro _ w7 ⟨A7, c7, rs7, rfl, hrl7, hst6⟩
    have hS6 := (St.sub hS (show [cxZ A2].Sublist _ from (List.Sublist.cons_cons _ (List.nil_sublist _)).cons _)).call2 hst6
    refine Ops.extract rfl rfl rfl (Ops.extract rfl rfl rfl (Ops.st_agg 2 0 hS6 rfl rfl rfl rfl rfl rfl rfl ?_))
    intro w8 hS7
    refine Ops.mi rfl rfl rfl (Ops.n (tQ (Cd.ret ?_)))
    skip
    refine retc2_r rfl (hS7.rd 0 rfl) rfl ?_
    exact ⟨A7, c7, rs7, rfl, hrl7, hS7.tail⟩
/-
 Eulerian complexes: the program's test, walked.
-/
def evP : List (List Int × Int) → List Int → Int
 | [], _ => 0
 | q :: r, x => (if q.1 = x then q.2 else 0) + evP r x
theorem evP_append : ∀ (a b : List (List Int × Int)) (x : List Int), evP (a ++ b) x = evP a x + evP b x
 | [], b, x => by simp [evP]
 | q :: r, b, x => by rw [List.cons_append, evP, evP, evP_append r b x]; omega
def sgE (n k : Nat) : Int := if ((n : Int) - (k : Int)) % 2 = 1 then 1 else -1
def qD (x : List Int) (n k j : Nat) : List (List Int × Int) := ((ptsP x k).take j).map fun p => (p, sgE n k)
def qC (x : List Int) (n k : Nat) : List (List Int × Int) := (List.range k).flatMap fun k' => qD x n k' (ptsP x k').length
def qB (F : List (List Int)) (n i : Nat) : List (List Int × Int) := ((fcs F n).take i).flatMap fun x => qC x n n
def qA (F : List (List Int)) (n : Nat) : List (List Int × Int) := (List.range n).flatMap fun n' => qB F n' (fcs F n').length
theorem qC_succ (x : List Int) (n k : Nat) : qC x n (k + 1) = qC x n k ++ qD x n k (ptsP x k).length := by unfold qC; rw [List.range_succ, List.flatMap_append]; simp
theorem qA_succ (F : List (List Int)) (n : Nat) : qA F (n + 1) = qA F n ++ qB F n (fcs F n).length := by unfold qA; rw [List.range_succ, List.flatMap_append]; simp
def MpE (L : List (ByteArray × Int)) (Q : List (List Int × Int)) : Prop := ∀ x, (getA L (keyB x)).getD 0 = evP Q x
def elT (d k : Nat) : Int := 2 * (((d : Int) - (k : Int)) % 2)
def EulI (F : List (List Int)) : Prop := Pure F ∧ ∀ k, k < dpt F → ∀ x ∈ fcs F k, evP (qA F (dpt F + 1)) x = elT (dpt F) k
instance (F : List (List Int)) : Decidable (EulI F) := by unfold EulI; exact inferInstance
abbrev cmE (g : Nat) (L : List (ByteArray × Int)) : Ck := CkM 95 g (prV Value.string (Value.int .i64) L)
/-
 Eulerian complexes: both sides' functions, walked.
-/
theorem gi_drop1 (f : List Int) (j : Nat) : gi (f.drop 1) (j : Int) = gi f (((j + 1 : Nat)) : Int) := by
 simp only [gi, Int.toNat_natCast, List.getD_eq_getElem?_getD, List.getElem?_drop, Nat.add_comm 1 j]
def ieB (V : Int) (F : List (List Int)) : Bool := decide (Cplx V F ∧ EulI F)
def EulS (F : List (List Int)) : Prop := Pure F ∧ ∀ k, k < dpt F + 1 → ∀ x ∈ fcs F k, altS ((fvP (cxL (lnkL F x))).drop 1) = elT (dpt F) k
instance (F : List (List Int)) : Decidable (EulS F) := by unfold EulS; exact inferInstance
def seB (V : Int) (F : List (List Int)) : Bool := decide (Cplx V F ∧ EulS F)
end Go.Proofs.YtiblelgfkakmiaaGreatDoor.Vc
/-
 Plain mathematics: what both sides test of Eulerian complexes is one.
-/
namespace Go.Proofs.YtiblelgfkakmiaaGreatDoor.Vc
def sgn (n : Nat) : Int := if n % 2 = 0 then 1 else -1
theorem sgn_succ (n : Nat) : sgn (n + 1) = -sgn n := by
 unfold sgn
 by_cases h : n % 2 = 0
 ·rw [if_pos h, if_neg (by omega)]
 ·rw [if_neg h, if_pos (by omega)]; rfl
def upF (F : List (List Int)) (x : List Int) (n : Nat) : Nat := ((fcs F n).filter fun y => decide (Ins x y)).length
def eF (F : List (List Int)) (x : List Int) : Int := sumN (dpt F + 1) fun n => sgn n * (upF F x n : Int)
theorem evP_map {s : Int} {x : List Int} : ∀ {P : List (List Int)}, P.Nodup → evP (P.map fun p => (p, s)) x = if x ∈ P then s else 0
 | [], _ => by simp [evP]
 | p :: r, hn => by
  rw [List.nodup_cons] at hn
  have ih := evP_map (s := s) (x := x) hn.2
  rw [List.map_cons, evP, ih]
  by_cases e : p = x
  ·subst e
   simp [hn.1]
  ·have e2 : ¬ x = p := fun h => e h.symm
   simp [e, e2]
theorem evP_qD {y : List Int} (hy : SA y) (n k : Nat) (x : List Int) : evP (qD y n k (ptsP y k).length) x = if x.Sublist y ∧ x.length = k then sgE n k else 0 := by
 unfold qD
 rw [List.take_length, evP_map (ptsP_SL hy).nodup]
 simp only [ptsP_mem]
theorem evP_qC {y : List Int} (hy : SA y) (n : Nat) (x : List Int) : ∀ m, evP (qC y n m) x = if x.length < m ∧ x.Sublist y then sgE n x.length else 0
 | 0 => by simp [qC, evP]
 | m + 1 => by
  rw [qC_succ, evP_append, evP_qC hy n x m, evP_qD hy]
  by_cases h1 : x.Sublist y
  ·by_cases h2 : x.length < m
   ·rw [if_pos ⟨h2, h1⟩, if_neg (by omega), if_pos ⟨by omega, h1⟩]; omega
   ·by_cases h3 : x.length = m
    ·rw [if_neg (by omega), if_pos ⟨h1, h3⟩, if_pos ⟨by omega, h1⟩, h3]; omega
    ·rw [if_neg (by omega), if_neg (by omega), if_neg (by omega)]; rfl
  ·rw [if_neg (fun h => h1 h.2), if_neg (fun h => h1 h.1), if_neg (fun h => h1 h.2)]; rfl
theorem evP_lst {n : Nat} {x : List Int} (hx : SA x) : ∀ {l : List (List Int)}, (∀ y ∈ l, SA y) → evP (l.flatMap fun y => qC y n n) x = if x.length < n then sgE n x.length * ((l.filter fun y => decide (Ins x y)).length : Int) else 0
 | [], _ => by simp [evP]
 | y :: r, h => by
  have hy := h y (by simp)
  rw [List.flatMap_cons, evP_append, evP_qC hy, evP_lst hx fun z hz => h z (List.mem_cons_of_mem _ hz)]
  have hI : x.Sublist y ↔ Ins x y := ⟨Ins.of_sub, Ins.sub hx hy⟩
  by_cases h1 : x.length < n
  ·rw [if_pos h1, if_pos h1]
   by_cases h2 : Ins x y
   ·rw [if_pos ⟨h1, hI.2 h2⟩, List.filter_cons_of_pos (by simpa using h2), List.length_cons, Int.natCast_add, Int.mul_add]
    simp; omega
   ·rw [if_neg (fun h => h2 (hI.1 h.2)), List.filter_cons_of_neg (by simpa using h2)]; omega
  ·rw [if_neg h1, if_neg h1, if_neg (fun h => h1 h.1)]; rfl
def Eul (F : List (List Int)) : Prop := Pure F ∧ ∀ k, k ≤ dpt F → ∀ x ∈ fcs F k, eF F x = sgn (dpt F)
/-
 Plain mathematics: links of Eulerian complexes.
-/
theorem lessL_add {y x : List Int} (hy : SA y) (hx : SA x) (h : Ins x y) : (lessL y x).length + x.length = y.length := by
 have e : y.filter (fun z => decide (z ∈ x)) = x := by
  refine SA.eq (List.Pairwise.filter _ hy) hx fun z => ?_
  rw [List.mem_filter]
  simp only [decide_eq_true_eq]
  exact ⟨fun h => h.2, fun hz => ⟨h z hz, hz⟩⟩
 have := filter_two (fun z => decide (z ∈ x)) y
 rw [e] at this
 unfold lessL
 omega
theorem altS_fv (L : List (List Int)) : altS ((fvP L).drop 1) = sumN (dpt L) fun i => sgn i * (nf L (i + 1) : Int) := by
 unfold altS
 rw [List.length_drop, fvP_len, Nat.add_sub_cancel]
 refine sumN_congr fun i hi => ?_
 unfold altT
 rw [gi_drop1, fvP_at L (by omega)]
 unfold sgn
 split
 ·rw [Int.one_mul]; rfl
 ·rw [Int.neg_one_mul]; rfl
/-
 Plain mathematics: the alternating sum of Betti numbers; bases out of rows.
-/
theorem rk_tele (r : Nat → Int) : ∀ m, (sumN m fun j => sgn j * (r j + r (j + 1))) = r 0 - sgn m * r m
 | 0 => by simp [sumN, sgn]
 | m + 1 => by
  show sumN m (fun j => sgn j * (r j + r (j + 1))) + sgn m * (r m + r (m + 1)) = _
  rw [rk_tele r m, sgn_succ, Int.mul_add, Int.neg_mul]; omega
theorem bt_alt (F : List (List Int)) : (sumN (dpt F) fun j => sgn j * btA F j) = altS ((fvP F).drop 1) := by
 rw [altS_fv]
 have e : ∀ j, sgn j * btA F j = sgn j * (nf F (j + 1) : Int) + -1 * (sgn j * ((rkF F j : Int) + (rkF F (j + 1) : Int))) := fun j => by
  unfold btA nf
  rw [Int.mul_sub, Int.mul_sub, Int.mul_add]; omega
 rw [sumN_congr (h := fun j => sgn j * (nf F (j + 1) : Int) + -1 * (sgn j * ((rkF F j : Int) + (rkF F (j + 1) : Int)))) fun i _ => e i, sumN_add, sumN_mul, rk_tele fun j => (rkF F j : Int)]
 have h0 : rkF F 0 = 0 := by simp [rkF]
 by_cases hd : dpt F = 0
 ·rw [hd]; simp [sumN, sgn, h0]
 ·rw [h0, rkF_top (Nat.le_refl _) (by omega)]; simp
def gdB : List Nat → List Nat
 | [] => []
 | b :: L => if b ∈ sums (gdB L) then gdB L else b :: gdB L
theorem gdB_span : ∀ L, Eqs L (gdB L) ∧ (sums (gdB L)).Nodup
 | [] => ⟨Eqs.refl _, by simp [gdB, sums]⟩
 | b :: L => by
  obtain ⟨h1, h2⟩ := gdB_span L
  unfold gdB
  split
  ·rename_i h
   refine ⟨.of (fun v hv => ?_) (fun v hv => ?_), h2⟩
   ·rcases List.mem_cons.1 hv with rfl | hv
    ·exact h
    ·exact (h1 v).1 (sums_self hv)
   ·exact sums_mono (fun x hx => List.mem_cons_of_mem _ hx) v ((h1 v).2 (sums_self hv))
  ·rename_i h
   refine ⟨.of (fun v hv => ?_) (fun v hv => ?_), sums_nodup h2 h⟩
   ·rcases List.mem_cons.1 hv with rfl | hv
    ·exact sums_self (by simp)
    ·exact sums_mono (fun x hx => List.mem_cons_of_mem _ hx) v ((h1 v).1 (sums_self hv))
   ·rcases List.mem_cons.1 hv with rfl | hv
    ·exact sums_self (by simp)
    ·exact sums_mono (fun x hx => List.mem_cons_of_mem _ hx) v ((h1 v).2 (sums_self hv))
theorem isRk_ex (L : List Nat) : ∃ r, IsRk L r := ⟨_, gdB L, rfl, (gdB_span L).2, (gdB_span L).1⟩
theorem rkN_is (L : List Nat) : IsRk L (rkN L) := by
 obtain ⟨r, h⟩ := isRk_ex L
 rw [rkN_eq h]; exact h
theorem diamond {z x : List Int} {k : Nat} (hz : SA z) (hx : SA x) (hzl : z.length = k) (hxl : x.length = k + 2) (hI : Ins z x) : ((ptsP x (k + 1)).filter fun y => decide (Ins z y)).length = 2 := by
 have hL := lessL_add hx hz hI
 obtain ⟨a, b, hab⟩ : ∃ a b, lessL x z = [a, b] := by
  have h2 : (lessL x z).length = 2 := by omega
  match lessL x z, h2 with
  | [a, b], _ => exact ⟨a, b, rfl⟩
 have hma : a ∈ x ∧ a ∉ z := lessL_mem.1 (by rw [hab]; simp)
 have hmb : b ∈ x ∧ b ∉ z := lessL_mem.1 (by rw [hab]; simp)
 have hlt : a < b := by
  have := lessL_SA (b := z) hx
  rw [hab] at this
  simpa [SA] using this
 have hmem : ∀ u ∈ x, u ∈ z ∨ u = a ∨ u = b := fun u hu => by
  by_cases h : u ∈ z
  ·exact .inl h
  ·have : u ∈ lessL x z := lessL_mem.2 ⟨hu, h⟩
   rw [hab] at this
   simpa using Or.inr (a := u ∈ z) this
 -- the two lists
 have hA : SA (x.filter fun u => decide (u ≠ b)) := List.Pairwise.filter _ hx
 have hB : SA (x.filter fun u => decide (u ≠ a)) := List.Pairwise.filter _ hx
 have hp : ((ptsP x (k + 1)).filter fun y => decide (Ins z y)).Perm [x.filter fun u => decide (u ≠ b), x.filter fun u => decide (u ≠ a)] := by
  have hlen : ∀ c ∈ x, (x.filter fun u => decide (u ≠ c)).length = k + 1 := fun c hc => by
   have h1 := lessL_one hx hc
   have e : lessL x [c] = x.filter fun u => decide (u ≠ c) := by
    unfold lessL
    refine List.filter_congr fun u _ => ?_
    by_cases h : u = c <;> simp [h]
   rw [e] at h1
   omega
  refine (List.perm_ext_iff_of_nodup ((ptsP_SL hx).nodup.filter _) ?_).2 fun y => ?_
  ·simp only [List.nodup_cons, List.mem_singleton, List.not_mem_nil, not_false_eq_true, List.nodup_nil, and_true]
   intro e
   have h1 : a ∈ x.filter fun u => decide (u ≠ b) := List.mem_filter.2 ⟨hma.1, by simp; omega⟩
   rw [e] at h1
   have := (List.mem_filter.1 h1).2
   simp at this
  ·rw [List.mem_filter, ptsP_mem]
   simp only [decide_eq_true_eq, List.mem_cons, List.not_mem_nil, or_false]
   constructor
   ·rintro ⟨⟨h1, h2⟩, h3⟩
    have hys := sub_SA h1 hx
    by_cases ha : a ∈ y
    ·left
     by_cases hb : b ∈ y
     ·have : Ins x y := fun u hu => by
       rcases hmem u hu with h | h | h
       ·exact h3 u h
       ·rw [h]; exact ha
       ·rw [h]; exact hb
      have := Ins.len hx hys this
      omega
     ·refine Ins.same hys hA (fun u hu => List.mem_filter.2 ⟨h1.subset hu, ?_⟩) (by rw [hlen b hmb.1]; omega)
      simp
      rintro rfl; exact hb hu
    ·right
     refine Ins.same hys hB (fun u hu => List.mem_filter.2 ⟨h1.subset hu, ?_⟩) (by rw [hlen a hma.1]; omega)
     simp
     rintro rfl; exact ha hu
   ·rintro (rfl | rfl)
    ·refine ⟨⟨List.filter_sublist, hlen b hmb.1⟩, fun u hu => List.mem_filter.2 ⟨hI u hu, ?_⟩⟩
     simp
     rintro rfl; exact hmb.2 hu
    ·refine ⟨⟨List.filter_sublist, hlen a hma.1⟩, fun u hu => List.mem_filter.2 ⟨hI u hu, ?_⟩⟩
     simp
     rintro rfl; exact hma.2 hu
 rw [hp.length_eq]; rfl
/-
 Plain mathematics: Betti numbers are not negative.
-/
def dmap : List Nat → Nat → Nat
 | [], _ => 0
 | b :: L, v => (if v.testBit 0 = true then b else 0) ^^^ dmap L (v / 2)
theorem dmap_zero : ∀ L, dmap L 0 = 0
 | [] => rfl
 | b :: L => by unfold dmap; simp [dmap_zero L]
theorem div_xor (u v : Nat) : (u ^^^ v) / 2 = u / 2 ^^^ v / 2 := by
 apply Nat.eq_of_testBit_eq
 intro i
 rw [Nat.testBit_xor, ← Nat.testBit_succ, ← Nat.testBit_succ, ← Nat.testBit_succ, Nat.testBit_xor]
theorem dmap_xor : ∀ (L : List Nat) (u v : Nat), dmap L (u ^^^ v) = dmap L u ^^^ dmap L v
 | [], _, _ => by simp [dmap]
 | b :: L, u, v => by
  unfold dmap
  rw [div_xor, dmap_xor L, Nat.testBit_xor]
  have h4 : ∀ a b c d : Nat, (a ^^^ b) ^^^ (c ^^^ d) = (a ^^^ c) ^^^ (b ^^^ d) := fun a b c d => by
   rw [Nat.xor_assoc, Nat.xor_assoc, ← Nat.xor_assoc b, Nat.xor_comm b c, Nat.xor_assoc c]
  rw [h4]
  congr 1
  cases u.testBit 0 <;> cases v.testBit 0 <;> simp
theorem dmap_onto : ∀ (L : List Nat) (s : Nat), s ∈ sums L → ∃ v, v < 2 ^ L.length ∧ dmap L v = s
 | [], s, h => by
  simp only [sums, List.mem_singleton] at h
  subst h
  exact ⟨0, by simp, rfl⟩
 | b :: L, s, h => by
  rw [mem_sums] at h
  rcases h with h | h
  ·obtain ⟨v, hv, e⟩ := dmap_onto L s h
   refine ⟨2 * v, by rw [List.length_cons, Nat.pow_succ]; omega, ?_⟩
   unfold dmap
   rw [show 2 * v / 2 = v by omega, e]
   simp [Nat.testBit_zero]
  ·obtain ⟨v, hv, e⟩ := dmap_onto L _ h
   refine ⟨2 * v + 1, by rw [List.length_cons, Nat.pow_succ]; omega, ?_⟩
   unfold dmap
   rw [show (2 * v + 1) / 2 = v by omega, e]
   have : (2 * v + 1).testBit 0 = true := by simp [Nat.testBit_zero]
   rw [if_pos this]
   exact xor_cancel _ _
theorem rank_null {L L' : List Nat} (h : ∀ v ∈ L', v < 2 ^ L.length ∧ dmap L v = 0) {r r' : Nat} (h1 : IsRk L r) (h2 : IsRk L' r') : r + r' ≤ L.length := by
 obtain ⟨B, rfl, hB, hE⟩ := h1
 obtain ⟨C, rfl, hC, hF⟩ := h2
 have hK : ∀ κ ∈ sums C, κ < 2 ^ L.length ∧ dmap L κ = 0 := fun κ hκ =>
  sums_le (S := fun v => v < 2 ^ L.length ∧ dmap L v = 0) ⟨Nat.pow_pos (by omega), dmap_zero L⟩ (fun u v hu hv => ⟨Nat.xor_lt_two_pow hu.1 hv.1, by rw [dmap_xor, hu.2, hv.2]; rfl⟩) h κ ((hF κ).2 hκ)
 have hP : ∀ s, ∃ v, s ∈ sums B → v < 2 ^ L.length ∧ dmap L v = s := fun s => by
  by_cases hs : s ∈ sums B
  ·obtain ⟨v, hv⟩ := dmap_onto L s ((hE s).2 hs)
   exact ⟨v, fun _ => hv⟩
  ·exact ⟨0, fun h => absurd h hs⟩
 have hp : ∃ p : Nat → Nat, ∀ s, s ∈ sums B → p s < 2 ^ L.length ∧ dmap L (p s) = s := ⟨fun s => (hP s).choose, fun s => (hP s).choose_spec⟩
 obtain ⟨p, hp⟩ := hp
 have hnd : ((sums B).flatMap fun s => (sums C).map fun κ => κ ^^^ p s).Nodup := by
  have hx : ∀ s ∈ sums B, ∀ κ ∈ sums C, dmap L (κ ^^^ p s) = s := fun s hs κ hκ => by rw [dmap_xor, (hK κ hκ).2, (hp s hs).2, Nat.zero_xor]
  refine List.pairwise_flatMap.2 ⟨fun s hs => ?_, ?_⟩
  ·rw [List.pairwise_map]
   refine hC.imp fun {a b} hab e => hab ?_
   have := congrArg (p s ^^^ ·) e
   simpa only [Nat.xor_comm _ (p s), xor_cancel] using this
  ·refine List.Pairwise.imp_of_mem (R := (· ≠ ·)) ?_ hB
   intro s t hs ht hst a ha b hb e
   obtain ⟨κ, hκ, rfl⟩ := List.mem_map.1 ha
   obtain ⟨μ, hμ, rfl⟩ := List.mem_map.1 hb
   apply hst
   rw [← hx s hs κ hκ, e, hx t ht μ hμ]
 have hlt : ∀ x ∈ (sums B).flatMap fun s => (sums C).map fun κ => κ ^^^ p s, x < 2 ^ L.length := fun x hx => by
  obtain ⟨s, hs, hx⟩ := List.mem_flatMap.1 hx
  obtain ⟨κ, hκ, rfl⟩ := List.mem_map.1 hx
  exact Nat.xor_lt_two_pow (hK κ hκ).1 (hp s hs).1
 have hlen := nodup_le _ _ hnd hlt
 have hl : ((sums B).flatMap fun s => (sums C).map fun κ => κ ^^^ p s).length = 2 ^ B.length * 2 ^ C.length := by
  have gen : ∀ A : List Nat, (A.flatMap fun s => (sums C).map fun κ => κ ^^^ p s).length = A.length * 2 ^ C.length := by
   intro A
   induction A with
   | nil => simp
   | cons a t ih => rw [List.flatMap_cons, List.length_append, ih, List.length_map, sums_len, List.length_cons, Nat.add_mul, Nat.one_mul, Nat.add_comm]
  rw [gen, sums_len]
 rw [hl, ← Nat.pow_add] at hlen
 rcases Nat.lt_or_ge L.length (B.length + C.length) with h9 | h9
 ·have := Nat.pow_lt_pow_right (a := 2) (by omega) h9; omega
 ·exact h9
theorem dmap_row {α : Type} (g : α → Nat) (p : α → Bool) : ∀ G : List α, dmap (G.map g) (rowM (G.map fun y => if p y = true then 1 else 0)) = (G.filter p).foldr (fun y a => g y ^^^ a) 0
 | [] => rfl
 | y :: G => by
  have hd : ∀ (b : Int) (m : Nat), ((if b = 1 then 1 else 0) + 2 * m) / 2 = m := fun b m => by split <;> omega
  rw [List.map_cons, List.map_cons, rowM, dmap, hd, dmap_row g p G]
  by_cases h : p y = true
  ·rw [List.filter_cons_of_pos h, List.foldr_cons, if_pos h]
   congr 1
   rw [if_pos rfl, if_pos]
   simp [Nat.testBit_zero]
  ·rw [List.filter_cons_of_neg h, if_neg h]
   rw [if_neg (by decide : ¬ (0 : Int) = 1), if_neg]
   ·simp
   ·simp [Nat.testBit_zero]
theorem fold_bit {α : Type} (g : α → Nat) (q : Nat) : ∀ G : List α, (G.foldr (fun y a => g y ^^^ a) 0).testBit q = decide ((G.filter fun y => (g y).testBit q).length % 2 = 1)
 | [] => by simp
 | y :: G => by
  rw [List.foldr_cons, Nat.testBit_xor, fold_bit g q G]
  by_cases h : (g y).testBit q = true
  ·rw [List.filter_cons_of_pos (p := fun y => (g y).testBit q) h, List.length_cons, h]
   by_cases h2 : (G.filter fun y => (g y).testBit q).length % 2 = 1
   ·rw [decide_eq_true h2, decide_eq_false (by omega)]; rfl
   ·rw [decide_eq_false h2, decide_eq_true (by omega)]; rfl
  ·rw [List.filter_cons_of_neg (p := fun y => (g y).testBit q) h]
   have h : (g y).testBit q = false := by simpa using h
   rw [h]; simp
theorem rowM_lt : ∀ l : List Int, rowM l < 2 ^ l.length
 | [] => by simp [rowM]
 | a :: l => by
  have := rowM_lt l
  rw [rowM, List.length_cons, Nat.pow_succ]
  split <;> omega
theorem rwB_get {G : List (List Int)} {x : List Int} {q : Nat} : (rowM (rwB G x)).testBit q = (match G[q]? with | some z => decide (Ins z x) | none => false) := by
 rw [rowM_bit]
 unfold rwB
 rw [List.getElem?_map]
 cases G[q]? with
 | none => simp
 | some z => by_cases h : Ins z x <;> simp [h]
theorem bd_bd {V : Int} {F : List (List Int)} (hc : Cplx V F) {j : Nat} : ∀ v ∈ matF F (j + 1), v < 2 ^ (matF F j).length ∧ dmap (matF F j) v = 0 := by
 have hs : ∀ f ∈ F, SA f := fun f hf => (hc.row f hf).2.1
 intro v hv
 obtain ⟨x, hx, rfl⟩ := List.mem_map.1 hv
 have hxs := fcs_sa hs hx
 have hxl := fcs_len hx
 refine ⟨by have := rowM_lt (rwB (fcs F (j + 1)) x); simpa [rwB, matF] using this, ?_⟩
 have e := dmap_row (fun y => rowM (rwB (fcs F j) y)) (fun y => decide (Ins y x)) (fcs F (j + 1))
 have e2 : (fcs F (j + 1)).map (fun y => if decide (Ins y x) = true then (1 : Int) else 0) = rwB (fcs F (j + 1)) x := List.map_congr_left fun y _ => by by_cases h : Ins y x <;> simp [h]
 rw [e2] at e
 show dmap ((fcs F (j + 1)).map fun y => rowM (rwB (fcs F j) y)) _ = 0
 rw [e]
 apply Nat.eq_of_testBit_eq
 intro q
 rw [fold_bit, Nat.zero_testBit, decide_eq_false_iff_not, List.filter_filter]
 cases hq : (fcs F j)[q]? with
 | none =>
  rw [List.filter_eq_nil_iff.2 fun y _ => by rw [rwB_get, hq]; simp]
  simp
 | some z =>
  have hzm : z ∈ fcs F j := List.mem_of_getElem? hq
  have hzs := fcs_sa hs hzm
  have hzl := fcs_len hzm
  have e3 : ((fcs F (j + 1)).filter fun y => (rowM (rwB (fcs F j) y)).testBit q && decide (Ins y x)).length = ((ptsP x (j + 1)).filter fun y => decide (Ins z y)).length := by
   refine List.Perm.length_eq ((List.perm_ext_iff_of_nodup ((fcs_SL _ _).nodup.filter _) ((ptsP_SL hxs).nodup.filter _)).2 fun y => ?_)
   rw [List.mem_filter, List.mem_filter, rwB_get, hq, ptsP_mem]
   simp only [Bool.and_eq_true, decide_eq_true_eq]
   obtain ⟨f, hf, hxf, _⟩ := (fcs_pos (by omega)).1 hx
   exact ⟨fun ⟨h1, h2, h3⟩ => ⟨⟨Ins.sub (fcs_sa hs h1) hxs h3, fcs_len h1⟩, h2⟩, fun ⟨⟨h1, h2⟩, h3⟩ => ⟨(fcs_pos (by omega)).2 ⟨f, hf, h1.trans hxf, h2⟩, h3, Ins.of_sub h1⟩⟩
  rw [e3]
  by_cases hI : Ins z x
  ·rw [diamond hzs hxs hzl (by omega) hI]; decide
  ·rw [List.filter_eq_nil_iff.2 fun y hy h => hI ((of_decide_eq_true h).trans (Ins.of_sub (ptsP_mem.1 hy).1))]
   simp
theorem bt_pos {V : Int} {F : List (List Int)} (hc : Cplx V F) (j : Nat) : 0 ≤ btA F j := by
 have hml : (matF F j).length = (fcs F (j + 1)).length := by simp [matF]
 have h2 : IsRk (matF F (j + 1)) (rkF F (j + 1)) := by
  have := rkN_is (matF F (j + 1))
  unfold rkF
  rw [if_neg (by omega)]; exact this
 unfold btA
 by_cases h0 : j = 0
 ·subst h0
  have e : rkF F 0 = 0 := by simp [rkF]
  have h3 := rank_null (bd_bd hc (j := 0)) (rkN_is (matF F 0)) h2
  rw [e]; omega
 ·have h1 : IsRk (matF F j) (rkF F j) := by
   have := rkN_is (matF F j)
   unfold rkF
   rw [if_neg h0]; exact this
  have h3 := rank_null (bd_bd hc) h1 h2
  omega
/-
 Plain mathematics: ranks of cones and suspensions over two elements.
-/
def vc (G : List (List Int)) (p : List Int → Bool) : Nat := rowM (G.map fun z => if p z = true then 1 else 0)
theorem vc_bit (G : List (List Int)) (p : List Int → Bool) (q : Nat) : (vc G p).testBit q = (match G[q]? with | some z => p z | none => false) := by
 unfold vc
 rw [rowM_bit, List.getElem?_map]
 cases G[q]? with
 | none => simp
 | some z => cases h : p z <;> simp [h]
theorem vc_row (G : List (List Int)) (x : List Int) : rowM (rwB G x) = vc G fun z => decide (Ins z x) := by
 unfold vc rwB
 congr 1
 refine List.map_congr_left fun z _ => ?_
 by_cases h : Ins z x <;> simp [h]
theorem vc_congr {G : List (List Int)} {p q : List Int → Bool} (h : ∀ z ∈ G, p z = q z) : vc G p = vc G q := by
 unfold vc
 congr 1
 exact List.map_congr_left fun z hz => by rw [h z hz]
theorem vc_xor (G : List (List Int)) (p q : List Int → Bool) : vc G p ^^^ vc G q = vc G fun z => p z ^^ q z := by
 apply Nat.eq_of_testBit_eq
 intro j
 rw [Nat.testBit_xor, vc_bit, vc_bit, vc_bit]
 cases G[j]? <;> simp
theorem vc_none (G : List (List Int)) : vc G (fun _ => false) = 0 := by
 apply Nat.eq_of_testBit_eq
 intro j
 rw [vc_bit, Nat.zero_testBit]
 cases G[j]? <;> rfl
def pull (G H : List (List Int)) (σ : List Int → List Int) (v : Nat) : Nat := vc H fun h => v.testBit (G.idxOf (σ h))
theorem pull_xor (G H : List (List Int)) (σ : List Int → List Int) (u v : Nat) : pull G H σ (u ^^^ v) = pull G H σ u ^^^ pull G H σ v := by
 unfold pull
 rw [vc_xor]
 exact vc_congr fun z _ => by rw [Nat.testBit_xor]
theorem pull_zero (G H : List (List Int)) (σ : List Int → List Int) : pull G H σ 0 = 0 := by
 unfold pull
 rw [vc_congr (q := fun _ => false) fun z _ => Nat.zero_testBit _, vc_none]
theorem idx_at {G : List (List Int)} {z : List Int} (h : z ∈ G) : G[G.idxOf z]? = some z := by
 rw [List.getElem?_eq_getElem (List.idxOf_lt_length_of_mem h), List.getElem_idxOf]
theorem pull_vc (G H : List (List Int)) (σ : List Int → List Int) (p : List Int → Bool) : pull G H σ (vc G p) = vc H fun h => decide (σ h ∈ G) && p (σ h) := by
 unfold pull
 refine vc_congr fun z _ => ?_
 rw [vc_bit]
 by_cases h : σ z ∈ G
 ·rw [idx_at h]; simp [h]
 ·rw [List.getElem?_eq_none (by rw [List.idxOf_eq_length h]; exact Nat.le_refl _)]; simp [h]
theorem unit_nodup {G : List (List Int)} : (sums (G.map fun y => vc G fun z => decide (z = y))).Nodup ∨ ¬ G.Nodup := by
 by_cases hn : G.Nodup
 ·left
  apply Stp.nodup
  have key : ∀ L : List (List Int), L.Nodup → (∀ y ∈ L, y ∈ G) → Stp (L.map fun y => vc G fun z => decide (z = y)) := by
   intro L
   induction L with
   | nil => intro _ _; trivial
   | cons y L ih =>
    intro h1 h2
    rw [List.nodup_cons] at h1
    refine ⟨⟨G.idxOf y, ?_, fun x hx => ?_⟩, ih h1.2 fun z hz => h2 z (List.mem_cons_of_mem _ hz)⟩
    ·rw [vc_bit, idx_at (h2 y (by simp))]; simp
    ·obtain ⟨z, hz, rfl⟩ := List.mem_map.1 hx
     rw [vc_bit, idx_at (h2 y (by simp))]
     have : y ≠ z := fun e => h1.1 (e ▸ hz)
     simpa using this
  exact key G hn fun _ h => h
 ·exact .inr hn
theorem sums_map {φ : Nat → Nat} (h0 : φ 0 = 0) (hx : ∀ u v, φ (u ^^^ v) = φ u ^^^ φ v) : ∀ B : List Nat, sums (B.map φ) = (sums B).map φ
 | [] => by simp [sums, h0]
 | b :: B => by
  rw [List.map_cons, sums, sums, sums_map h0 hx B, List.map_append, List.map_map, List.map_map]
  congr 1
  exact List.map_congr_left fun v _ => (hx b v).symm
theorem not_sums {b : Nat} {B : List Nat} (h : (sums (b :: B)).Nodup) : b ∉ sums B := fun hb => by
 rw [sums, List.nodup_append] at h
 exact h.2.2 b hb b (List.mem_map.2 ⟨0, sums_zero B, Nat.xor_zero b⟩) rfl
theorem nodup_sums {b : Nat} {B : List Nat} (h : (sums (b :: B)).Nodup) : (sums B).Nodup := by
 rw [sums, List.nodup_append] at h
 exact h.1
theorem rank_iso {φ ψ : Nat → Nat} (h0 : φ 0 = 0) (hx : ∀ u v, φ (u ^^^ v) = φ u ^^^ φ v) (k0 : ψ 0 = 0) (kx : ∀ u v, ψ (u ^^^ v) = ψ u ^^^ ψ v) {L : List Nat} (hi : ∀ x ∈ L, ψ (φ x) = x) {r : Nat} (h : IsRk L r) : IsRk (L.map φ) r := by
 obtain ⟨B, rfl, hB, hE⟩ := h
 have hi' : ∀ x ∈ sums B, ψ (φ x) = x := fun x hxB => sums_le (S := fun v => ψ (φ v) = v) (by rw [h0, k0]) (fun u v hu hv => by rw [hx, kx, hu, hv]) hi x ((hE x).2 hxB)
 refine ⟨B.map φ, by simp, ?_, fun v => ?_⟩
 ·rw [sums_map h0 hx, List.Nodup, List.pairwise_map]
  refine List.Pairwise.imp_of_mem (R := (· ≠ ·)) ?_ hB
  intro a b ha hb hab e
  exact hab (by rw [← hi' a ha, e, hi' b hb])
 ·rw [sums_map h0 hx, sums_map h0 hx, List.mem_map, List.mem_map]
  exact ⟨fun ⟨u, hu, e⟩ => ⟨u, (hE u).1 hu, e⟩, fun ⟨u, hu, e⟩ => ⟨u, (hE u).2 hu, e⟩⟩
theorem rank_dir {A D : List Nat} {π : Nat → Nat} (h0 : π 0 = 0) (hx : ∀ u v, π (u ^^^ v) = π u ^^^ π v) (hA : (sums (A.map π)).Nodup) (hD : ∀ d ∈ D, π d = 0) {r : Nat} (h : IsRk D r) : IsRk (A ++ D) (A.length + r) := by
 obtain ⟨B, rfl, hB, hE⟩ := h
 have hBπ : ∀ v ∈ sums B, π v = 0 := fun v hv => sums_le (S := fun v => π v = 0) h0 (fun u v hu hv => by rw [hx, hu, hv]; rfl) hD v ((hE v).2 hv)
 refine ⟨A ++ B, by simp, ?_, .of (fun b hb => ?_) (fun b hb => ?_)⟩
 ·clear hE hD
  induction A with
  | nil => exact hB
  | cons a A ih =>
   have hA2 := nodup_sums hA
   refine sums_nodup (ih hA2) fun ha => not_sums hA ?_
   refine sums_le (S := fun v => π v ∈ sums (A.map π)) (by rw [h0]; exact sums_zero _) (fun u v hu hv => by rw [hx]; exact sums_xor hu hv) (fun b hb => ?_) a ha
   rcases List.mem_append.1 hb with hb | hb
   ·exact sums_self (List.mem_map.2 ⟨b, hb, rfl⟩)
   ·rw [hBπ b (sums_self hb)]; exact sums_zero _
 ·rcases List.mem_append.1 hb with hb | hb
  ·exact sums_self (List.mem_append_left _ hb)
  ·exact sums_mono (fun x hx => List.mem_append_right _ hx) b ((hE b).1 (sums_self hb))
 ·rcases List.mem_append.1 hb with hb | hb
  ·exact sums_self (List.mem_append_left _ hb)
  ·exact sums_mono (fun x hx => List.mem_append_right _ hx) b ((hE b).2 (sums_self hb))
theorem fold_sums {α : Type} {g : α → Nat} {L : List Nat} : ∀ {G : List α}, (∀ y ∈ G, g y ∈ sums L) → G.foldr (fun y a => g y ^^^ a) 0 ∈ sums L
 | [], _ => sums_zero L
 | y :: G, h => by
  rw [List.foldr_cons]
  exact sums_xor (h y (by simp)) (fold_sums fun z hz => h z (List.mem_cons_of_mem _ hz))
theorem filter_one {α : Type} [DecidableEq α] {c : α} : ∀ {G : List α}, G.Nodup → (G.filter fun y => decide (c = y)).length = if c ∈ G then 1 else 0
 | [], _ => rfl
 | y :: G, h => by
  rw [List.nodup_cons] at h
  have ih := filter_one (c := c) h.2
  by_cases e : c = y
  ·subst e
   rw [List.filter_cons_of_pos (by simp), List.length_cons, ih, if_neg h.1, if_pos (by simp)]
  ·rw [List.filter_cons_of_neg (by simpa using e), ih]
   simp [e]
structure Over (V : Int) (F J : List (List Int)) (T : List Int) : Prop where
 sa : ∀ f ∈ F, SA f
 lt : ∀ f ∈ F, ∀ u ∈ f, u < V
 tv : ∀ t ∈ T, V ≤ t
 mem : ∀ k x, x ∈ fcs J (k + 1) ↔ x ∈ fcs F (k + 1) ∨ ∃ w ∈ fcs F k, ∃ t ∈ T, x = w ++ [t]
theorem Over.sm {V : Int} {F J : List (List Int)} {T : List Int} (h : Over V F J T) {k : Nat} {x : List Int} (hx : x ∈ fcs F k) : SA x ∧ x.length = k ∧ ∀ u ∈ x, u < V := by
 refine ⟨fcs_sa h.sa hx, fcs_len hx, ?_⟩
 rcases faL_mem.1 (fcs_mem.1 hx) with ⟨_, rfl⟩ | ⟨_, f, hf, h1, _⟩
 ·intro u hu; cases hu
 ·exact fun u hu => h.lt f hf u (h1.subset hu)
theorem ins_snoc {V t : Int} {z y : List Int} (hz : ∀ u ∈ z, u < V) (ht : V ≤ t) : Ins z (y ++ [t]) ↔ Ins z y := by
 constructor
 ·intro h u hu
  rcases List.mem_append.1 (h u hu) with h1 | h1
  ·exact h1
  ·have := List.mem_singleton.1 h1; have := hz u hu; omega
 ·exact fun h u hu => List.mem_append_left _ (h u hu)
theorem snoc_ins {V s t : Int} {w y : List Int} (hw : ∀ u ∈ w, u < V) (hy : ∀ u ∈ y, u < V) (hs : V ≤ s) (ht : V ≤ t) : Ins (w ++ [s]) (y ++ [t]) ↔ s = t ∧ Ins w y := by
 constructor
 ·intro h
  refine ⟨?_, (ins_snoc hw ht).1 fun u hu => h u (List.mem_append_left _ hu)⟩
  rcases List.mem_append.1 (h s (by simp)) with h1 | h1
  ·have := hy s h1; omega
  ·exact List.mem_singleton.1 h1
 ·rintro ⟨rfl, h⟩ u hu
  rcases List.mem_append.1 hu with h1 | h1
  ·exact List.mem_append_left _ (h u h1)
  ·exact List.mem_append_right _ h1
theorem snoc_not {V s : Int} {w y : List Int} (hy : ∀ u ∈ y, u < V) (hs : V ≤ s) : ¬ Ins (w ++ [s]) y := fun h => by
 have := hy s (h s (by simp)); omega
def rwT (J F : List (List Int)) (m : Nat) (t : Int) : List Nat := (fcs F (m + 1)).map fun y => vc (fcs J (m + 1)) fun z => decide (Ins z (y ++ [t]))
theorem Over.own {V : Int} {F J : List (List Int)} {T : List Int} (h : Over V F J T) {a : Int} (ha : a ∈ T) {m : Nat} {x : List Int} (hx : x ∈ fcs F (m + 2)) : (vc (fcs J (m + 1)) fun z => decide (Ins z x)) ∈ sums (rwT J F m a) := by
 obtain ⟨hxs, hxl, hxV⟩ := h.sm hx
 have hsub : ∀ y ∈ ptsP x (m + 1), y ∈ fcs F (m + 1) := fun y hy => by
  obtain ⟨h1, h2⟩ := ptsP_mem.1 hy
  obtain ⟨f, hf, h3, _⟩ := (fcs_pos (by omega)).1 hx
  exact (fcs_pos (by omega)).2 ⟨f, hf, h1.trans h3, h2⟩
 have e : (vc (fcs J (m + 1)) fun z => decide (Ins z x)) = (ptsP x (m + 1)).foldr (fun y b => (vc (fcs J (m + 1)) fun z => decide (Ins z (y ++ [a]))) ^^^ b) 0 := by
  apply Nat.eq_of_testBit_eq
  intro q
  rw [fold_bit, vc_bit]
  cases hq : (fcs J (m + 1))[q]? with
  | none =>
   rw [List.filter_eq_nil_iff.2 fun y _ => by rw [vc_bit, hq]; simp]
   rfl
  | some c =>
   have e2 : ((ptsP x (m + 1)).filter fun y => (vc (fcs J (m + 1)) fun z => decide (Ins z (y ++ [a]))).testBit q) = (ptsP x (m + 1)).filter fun y => decide (Ins c (y ++ [a])) := List.filter_congr fun y _ => by rw [vc_bit, hq]
   rw [e2]
   show decide (Ins c x) = _
   rcases (h.mem m c).1 (List.mem_of_getElem? hq) with hc | ⟨w, hw, t, ht, rfl⟩
   ·obtain ⟨hcs, hcl, hcV⟩ := h.sm hc
    rw [List.filter_congr (q := fun y => decide (c = y)) fun y hy => by
     obtain ⟨hys, hyl, hyV⟩ := h.sm (hsub y hy)
     refine decide_eq_decide.2 ((ins_snoc hcV (h.tv a ha)).trans ⟨fun hi => Ins.same hcs hys hi (by omega), fun e => e ▸ Ins.refl c⟩), filter_one (ptsP_SL hxs).nodup]
    by_cases hI : Ins c x
    ·rw [if_pos (ptsP_mem.2 ⟨Ins.sub hcs hxs hI, hcl⟩)]; simp [hI]
    ·rw [if_neg fun hm => hI (Ins.of_sub (ptsP_mem.1 hm).1)]; simp [hI]
   ·obtain ⟨hws, hwl, hwV⟩ := h.sm hw
    rw [decide_eq_false (snoc_not hxV (h.tv t ht))]
    by_cases hta : t = a
    ·subst hta
     rw [List.filter_congr (q := fun y => decide (Ins w y)) fun y hy => decide_eq_decide.2 ((snoc_ins hwV (h.sm (hsub y hy)).2.2 (h.tv t ht) (h.tv t ht)).trans ⟨fun h => h.2, fun h => ⟨rfl, h⟩⟩)]
     by_cases hI : Ins w x
     ·rw [diamond hws hxs hwl hxl hI]; rfl
     ·rw [List.filter_eq_nil_iff.2 fun y hy hd => hI ((of_decide_eq_true hd).trans (Ins.of_sub (ptsP_mem.1 hy).1))]
      rfl
    ·rw [List.filter_eq_nil_iff.2 fun y hy hd => hta ((snoc_ins hwV (h.sm (hsub y hy)).2.2 (h.tv t ht) (h.tv a ha)).1 (of_decide_eq_true hd)).1]
     rfl
 rw [e]
 exact fold_sums fun y hy => sums_self (List.mem_map.2 ⟨y, hsub y hy, rfl⟩)
theorem matF_vc (J : List (List Int)) (k : Nat) : matF J k = (fcs J (k + 1)).map fun x => vc (fcs J k) fun z => decide (Ins z x) := by
 unfold matF
 exact List.map_congr_left fun x _ => vc_row _ _
theorem Over.unit {V : Int} {F J : List (List Int)} {T : List Int} (h : Over V F J T) {a : Int} (ha : a ∈ T) (m : Nat) : (sums ((rwT J F m a).map (pull (fcs J (m + 1)) (fcs F (m + 1)) id))).Nodup := by
 have e : (rwT J F m a).map (pull (fcs J (m + 1)) (fcs F (m + 1)) id) = (fcs F (m + 1)).map fun y => vc (fcs F (m + 1)) fun z => decide (z = y) := by
  unfold rwT
  rw [List.map_map]
  refine List.map_congr_left fun y hy => ?_
  obtain ⟨hys, hyl, hyV⟩ := h.sm hy
  show pull _ _ _ (vc _ _) = _
  rw [pull_vc]
  refine vc_congr fun z hz => ?_
  obtain ⟨hzs, hzl, hzV⟩ := h.sm hz
  show (decide (z ∈ fcs J (m + 1)) && decide (Ins z (y ++ [a]))) = _
  rw [decide_eq_true ((h.mem m z).2 (.inl hz)), Bool.true_and]
  exact decide_eq_decide.2 ((ins_snoc hzV (h.tv a ha)).trans ⟨fun hi => Ins.same hzs hys hi (by omega), fun e => e ▸ Ins.refl z⟩)
 rw [e]
 exact unit_nodup.resolve_right fun hn => hn (fcs_SL _ _).nodup
theorem rwT_len (J F : List (List Int)) (m : Nat) (t : Int) : (rwT J F m t).length = nf F (m + 1) := by simp [rwT, nf]
theorem Over.cone {V : Int} {F J : List (List Int)} {a : Int} (h : Over V F J [a]) (m : Nat) : IsRk (matF J (m + 1)) (nf F (m + 1)) := by
 have hr : IsRk (rwT J F m a ++ []) ((rwT J F m a).length + 0) := rank_dir (pull_zero _ _ _) (pull_xor _ _ _) (h.unit (List.mem_singleton.2 rfl) m) (fun d hd => by cases hd) ⟨[], rfl, by simp [sums], Eqs.refl _⟩
 rw [List.append_nil, Nat.add_zero, rwT_len] at hr
 refine hr.congr ?_
 rw [matF_vc]
 refine .of (fun b hb => ?_) (fun b hb => ?_)
 ·obtain ⟨x, hx, rfl⟩ := List.mem_map.1 hb
  rcases (h.mem (m + 1) x).1 hx with hx | ⟨w, hw, t, ht, rfl⟩
  ·exact h.own (List.mem_singleton.2 rfl) hx
  ·obtain rfl := List.mem_singleton.1 ht
   exact sums_self (List.mem_map.2 ⟨w, hw, rfl⟩)
 ·obtain ⟨y, hy, rfl⟩ := List.mem_map.1 hb
  exact sums_self (List.mem_map.2 ⟨y ++ [a], (h.mem (m + 1) _).2 (.inr ⟨y, hy, a, List.mem_singleton.2 rfl, rfl⟩), rfl⟩)
theorem Over.susp {V : Int} {F J : List (List Int)} {a b : Int} (hab : a ≠ b) (h : Over V F J [a, b]) (m : Nat) {r : Nat} (hF : IsRk (matF F m) r) : IsRk (matF J (m + 1)) (nf F (m + 1) + r) := by
 have haT : a ∈ [a, b] := by simp
 have hbT : b ∈ [a, b] := by simp
 have ha := h.tv a haT
 have hb := h.tv b hbT
 -- rows with both points
 have eD : (matF F m).map (pull (fcs F m) (fcs J (m + 1)) fun c => c.filter fun u => decide (u < V)) = (fcs F (m + 1)).map fun y => vc (fcs J (m + 1)) fun z => decide (Ins z (y ++ [a])) ^^ decide (Ins z (y ++ [b])) := by
  rw [matF_vc, List.map_map]
  refine List.map_congr_left fun y hy => ?_
  obtain ⟨hys, hyl, hyV⟩ := h.sm hy
  show pull _ _ _ (vc _ _) = _
  rw [pull_vc]
  refine vc_congr fun c hc => ?_
  rcases (h.mem m c).1 hc with hc | ⟨w, hw, t, ht, rfl⟩
  ·obtain ⟨hcs, hcl, hcV⟩ := h.sm hc
   have e1 : c.filter (fun u => decide (u < V)) = c := List.filter_eq_self.2 fun u hu => decide_eq_true (hcV u hu)
   have d1 : decide (Ins c (y ++ [a])) = decide (Ins c y) := decide_eq_decide.2 (ins_snoc hcV ha)
   have d2 : decide (Ins c (y ++ [b])) = decide (Ins c y) := decide_eq_decide.2 (ins_snoc hcV hb)
   rw [e1, decide_eq_false (fun hm => by have := fcs_len hm; omega), Bool.false_and, d1, d2]
   simp
  ·obtain ⟨hws, hwl, hwV⟩ := h.sm hw
   have htV := h.tv t ht
   have e1 : (w ++ [t]).filter (fun u => decide (u < V)) = w := by
    rw [List.filter_append, List.filter_eq_self.2 fun u hu => decide_eq_true (hwV u hu), List.filter_cons_of_neg (by simp; omega)]
    simp
   have d1 : decide (Ins (w ++ [t]) (y ++ [a])) = decide (t = a ∧ Ins w y) := decide_eq_decide.2 (snoc_ins hwV hyV htV ha)
   have d2 : decide (Ins (w ++ [t]) (y ++ [b])) = decide (t = b ∧ Ins w y) := decide_eq_decide.2 (snoc_ins hwV hyV htV hb)
   rw [e1, decide_eq_true hw, Bool.true_and, d1, d2]
   have ht2 : t = a ∨ t = b := by simpa using ht
   rcases ht2 with rfl | rfl
   ·simp [hab]
   ·have e9 : ¬ t = a := fun e => hab e.symm
    simp [e9]
 have hD : IsRk ((fcs F (m + 1)).map fun y => vc (fcs J (m + 1)) fun z => decide (Ins z (y ++ [a])) ^^ decide (Ins z (y ++ [b]))) r := by
  rw [← eD]
  refine rank_iso (pull_zero _ _ _) (pull_xor _ _ _) (pull_zero (fcs J (m + 1)) (fcs F m) fun w => w ++ [a]) (pull_xor _ _ _) (fun x hx => ?_) hF
  rw [matF_vc] at hx
  obtain ⟨y, hy, rfl⟩ := List.mem_map.1 hx
  rw [pull_vc, pull_vc]
  refine vc_congr fun w hw => ?_
  obtain ⟨hws, hwl, hwV⟩ := h.sm hw
  have e1 : (w ++ [a]).filter (fun u => decide (u < V)) = w := by
   rw [List.filter_append, List.filter_eq_self.2 fun u hu => decide_eq_true (hwV u hu), List.filter_cons_of_neg (by simp; omega)]
   simp
  show (decide (w ++ [a] ∈ fcs J (m + 1)) && (decide ((w ++ [a]).filter (fun u => decide (u < V)) ∈ fcs F m) && decide (Ins ((w ++ [a]).filter fun u => decide (u < V)) y))) = _
  rw [e1, decide_eq_true hw, decide_eq_true ((h.mem m _).2 (.inr ⟨w, hw, a, haT, rfl⟩)), Bool.true_and, Bool.true_and]
 have hr := rank_dir (A := rwT J F m a) (pull_zero (fcs J (m + 1)) (fcs F (m + 1)) id) (pull_xor _ _ _) (h.unit haT m) (fun d hd => by
  obtain ⟨y, hy, rfl⟩ := List.mem_map.1 hd
  rw [pull_vc, vc_congr (q := fun _ => false) fun z hz => ?_, vc_none]
  obtain ⟨hzs, hzl, hzV⟩ := h.sm hz
  show (decide (z ∈ fcs J (m + 1)) && (decide (Ins z (y ++ [a])) ^^ decide (Ins z (y ++ [b])))) = false
  have d1 : decide (Ins z (y ++ [a])) = decide (Ins z y) := decide_eq_decide.2 (ins_snoc hzV ha)
  have d2 : decide (Ins z (y ++ [b])) = decide (Ins z y) := decide_eq_decide.2 (ins_snoc hzV hb)
  rw [d1, d2]
  simp) hD
 rw [rwT_len] at hr
 refine hr.congr ?_
 rw [matF_vc]
 refine .of (fun v hv => ?_) (fun v hv => ?_)
 ·obtain ⟨x, hx, rfl⟩ := List.mem_map.1 hv
  rcases (h.mem (m + 1) x).1 hx with hx | ⟨w, hw, t, ht, rfl⟩
  ·exact sums_mono (fun x hx => List.mem_append_left _ hx) _ (h.own haT hx)
  ·have ht2 : t = a ∨ t = b := by simpa using ht
   rcases ht2 with rfl | rfl
   ·exact sums_self (List.mem_append_left _ (List.mem_map.2 ⟨w, hw, rfl⟩))
   ·have h1 := sums_self (B := rwT J F m a ++ (fcs F (m + 1)).map fun y => vc (fcs J (m + 1)) fun z => decide (Ins z (y ++ [a])) ^^ decide (Ins z (y ++ [t]))) (List.mem_append_left _ (List.mem_map.2 ⟨w, hw, rfl⟩))
    have h2 := sums_self (B := rwT J F m a ++ (fcs F (m + 1)).map fun y => vc (fcs J (m + 1)) fun z => decide (Ins z (y ++ [a])) ^^ decide (Ins z (y ++ [t]))) (List.mem_append_right _ (List.mem_map.2 ⟨w, hw, rfl⟩))
    have h3 := sums_xor h1 h2
    rw [← vc_xor, xor_cancel] at h3
    exact h3
 ·rcases List.mem_append.1 hv with hv | hv
  ·obtain ⟨y, hy, rfl⟩ := List.mem_map.1 hv
   exact sums_self (List.mem_map.2 ⟨y ++ [a], (h.mem (m + 1) _).2 (.inr ⟨y, hy, a, haT, rfl⟩), rfl⟩)
  ·obtain ⟨y, hy, rfl⟩ := List.mem_map.1 hv
   rw [← vc_xor]
   exact sums_xor (sums_self (List.mem_map.2 ⟨y ++ [a], (h.mem (m + 1) _).2 (.inr ⟨y, hy, a, haT, rfl⟩), rfl⟩)) (sums_self (List.mem_map.2 ⟨y ++ [b], (h.mem (m + 1) _).2 (.inr ⟨y, hy, b, hbT, rfl⟩), rfl⟩))
/-
 Plain mathematics: the h-vector of an Eulerian complex is the same from both ends.
-/
def sumL {α : Type} (g : α → Int) : List α → Int
 | [] => 0
 | a :: r => g a + sumL g r
theorem sumL_add {α : Type} (g h : α → Int) : ∀ l : List α, sumL (fun a => g a + h a) l = sumL g l + sumL h l
 | [] => rfl
 | a :: r => by unfold sumL; rw [sumL_add g h r]; omega
theorem sumL_zero {α : Type} : ∀ l : List α, sumL (fun _ => 0) l = 0
 | [] => rfl
 | a :: r => by unfold sumL; rw [sumL_zero r]; rfl
theorem len_filter {α : Type} (p : α → Bool) : ∀ l : List α, ((l.filter p).length : Int) = sumL (fun a => if p a = true then 1 else 0) l
 | [] => rfl
 | a :: r => by
  by_cases h : p a = true
  ·rw [List.filter_cons_of_pos h, List.length_cons, Int.natCast_add, len_filter p r]
   show _ = (if p a = true then (1 : Int) else 0) + sumL (fun a => if p a = true then (1 : Int) else 0) r
   rw [if_pos h]; simp; omega
  ·rw [List.filter_cons_of_neg h, len_filter p r]
   show _ = (if p a = true then (1 : Int) else 0) + sumL (fun a => if p a = true then (1 : Int) else 0) r
   rw [if_neg h]; omega
theorem sumL_swap {α β : Type} (g : α → β → Int) (m : List β) : ∀ l : List α, sumL (fun a => sumL (g a) m) l = sumL (fun b => sumL (fun a => g a b) l) m
 | [] => (sumL_zero m).symm
 | a :: r => by
  show sumL (g a) m + sumL (fun a => sumL (g a) m) r = sumL (fun b => g a b + sumL (fun a => g a b) r) m
  rw [sumL_swap g m r, ← sumL_add]
def bnN : Nat → Nat → Nat
 | _, 0 => 1
 | 0, _ + 1 => 0
 | n + 1, k + 1 => bnN n k + bnN n (k + 1)
/-! no boundary -/
theorem hasI_len (F : List (List Int)) (x : List Int) : (hasI F x).length = (F.filter fun f => decide (Ins x f)).length := by
 unfold hasI
 rw [List.length_map]
 have key : ∀ m, m ≤ F.length → ((List.range m).filter fun k : Nat => decide (Ins x (gl F (k : Int)))).length = ((F.take m).filter fun f => decide (Ins x f)).length := by
  intro m
  induction m with
  | zero => intro _; rfl
  | succ m ih =>
   intro hm
   rw [List.range_succ, List.filter_append, List.length_append, ih (by omega), take_succ_gl (show m < F.length by omega), List.filter_append, List.length_append]
   congr 1
   by_cases e : Ins x (gl F (m : Int)) <;> simp [e]
 have := key F.length (Nat.le_refl _)
 rwa [List.take_length] at this
theorem pure_facets {V : Int} {F : List (List Int)} (hc : Cplx V F) (hp : Pure F) : fcs F (dpt F) = F ∨ F = [] := by
 by_cases hne : F = []
 ·exact .inr hne
 ·left
  refine (fcs_of hc.ord fun y => ?_).symm
  rw [← fcs_mem]
  constructor
  ·intro hy
   exact (fcs_iff' hne).2 ⟨⟨y, hy, List.Sublist.refl y⟩, hp y hy⟩
  ·intro hy
   obtain ⟨⟨f, hf, h1⟩, h2⟩ := (fcs_iff' hne).1 hy
   have : y = f := h1.eq_of_length (by rw [h2, hp f hf])
   rw [this]; exact hf
/-
 Plain mathematics: links of faces of Eulerian complexes are Eulerian.
-/
end Go.Proofs.YtiblelgfkakmiaaGreatDoor.Vc
/-
 Suspensions, walked on both sides.
-/
namespace Go.Proofs.YtiblelgfkakmiaaGreatDoor.Vc
open Go.RowKit
theorem two_ptS : Cplx 2 [[0], [1]] := by decide
def suV (V : Int) (F : List (List Int)) : Int := if Cplx V F then jnV V F [[0], [1]] else 0
def suL (V : Int) (F : List (List Int)) : List (List Int) := if Cplx V F then jnLs V F [[0], [1]] else []
def suK (V : Int) (F : List (List Int)) : Int := if Cplx V F then jnK V F [[0], [1]] else 1
theorem implSusp_c (V : Int) (A : Option Addr) (n c : Nat) (rs : List SlV) (F : List (List Int)) (w : World) (hT : Tab w) (hR : RowsI w A n rs F) (hn : n ≤ 9223372036854775807) :
  Ret Tryz.prog 14 [.agg #[.int .i64 V, .slice A n c]] w (AnsC (suV V F) (suL V F) (suK V F) w) := by
 have hFl := hR.len
 refine Ret.of_cd Tryz.func14 rfl Tryz.ntmps14 rfl (postc2 rfl rfl) (Cd.seq (Cd.region (Ops.box2 (St.refl w) rfl rfl ?_)))
 intro A1 w1 hS1
 refine Ops.new2 hS1 rfl ?_
 intro A2 w3 hS3
 have hS3 : St w w3 [cxZ A2, cxB A1 V A n c] := hS3
 clear hS1
 refine Ops.mi rfl rfl rfl (Ops.n (tQ (Cd.seq (Cd.seq (Cd.region (Ops.ld_agg 1 (hS3.rd 1 rfl) rfl rfl rfl (Ops.call (isComplex_c V A n c rs F _ (hT.later hS3.below) (hS3.oldRows hR) hn) rfl rfl rfl ?_)))))))
 rintro _ w4 ⟨rfl, hst⟩
 have hS4 := hS3.later hst.below
 clear hS3
 unfold suV suL suK
 first | refine Ops.not_p rfl rfl ?_ | refine Ops.not rfl rfl ?_
 refine Ops.n (tQ ?_)
 refine Cd.cond_p _ rfl (fun h1 => ?_) (fun h1 => ?_)
 ·rw [if_neg h1, if_neg h1, if_neg h1]
  refine Cd.seq (Cd.region (Ops.bldZ2 (by exact inferInstance) (by exact inferInstance) rfl rfl rfl (Ops.st_agg 2 0 hS4 rfl rfl rfl rfl rfl rfl rfl ?_)))
  intro w9 hS9
  refine Ops.mi rfl rfl rfl (Ops.n (tQ (Cd.ret (thenQ_r ?_))))
  skip
  refine retc2_r rfl (hS9.rd 0 rfl) rfl ?_
  exact AnsC.none hS9
 have hF := Classical.not_not.1 h1
 rw [if_pos hF, if_pos hF, if_pos hF]
 refine Cd.skip (tQ (Cd.seq (Cd.region (Ops.ld_agg 1 (hS4.rd 1 rfl) rfl rfl rfl (Ops.bs1I hS4 rfl rfl rfl ?_)))))
 intro A9 w5 hS5
 refine Ops.bs1I hS5 rfl rfl rfl ?_
 intro A10 w6 hS6
 refine Ops.bs2 hS6 rfl rfl rfl rfl rfl rfl ?_
 intro A11 w7 hS7
 have hS7 : St w w7 (mat 28 2 A11 2 2 [⟨A9, 1, 1⟩, ⟨A10, 1, 1⟩] [[0], [1]] ++ [cxZ A2, cxB A1 V A n c]) := hS7.perm (List.Perm.cons _ (List.Perm.swap _ _ _))
 refine Ops.bld2c (by exact inferInstance) (by exact inferInstance) rfl rfl rfl rfl rfl rfl rfl (Ops.call (joined_c V A n c rs F 2 A11 2 2 [⟨A9, 1, 1⟩, ⟨A10, 1, 1⟩] [[0], [1]] _ (hT.later hS7.below) (hS7.oldRows hR) (hS7.rowsI rfl) hF two_ptS) rfl rfl rfl ?_)
 rintro _ w8 ⟨A6, c6, rs6, rfl, hrl6, hst6⟩
 have hS8 : St w w8 (mat 28 2 A6 (jnLs V F [[0], [1]]).length c6 rs6 (jnLs V F [[0], [1]]) ++ [] ++ (mat 28 2 A11 2 2 [⟨A9, 1, 1⟩, ⟨A10, 1, 1⟩] [[0], [1]] ++ [cxZ A2, cxB A1 V A n c])) := hS7.call hst6
 have hS9 : St w w8 ([cxZ A2] ++ (mat 28 2 A6 (jnLs V F [[0], [1]]).length c6 rs6 (jnLs V F [[0], [1]]) ++ [])) := by
  refine (hS8.perm ?_).sub (List.sublist_append_left _ (mat 28 2 A11 2 2 [⟨A9, 1, 1⟩, ⟨A10, 1, 1⟩] [[0], [1]] ++ [cxB A1 V A n c]))
  generalize mat 28 2 A6 (jnLs V F [[0], [1]]).length c6 rs6 (jnLs V F [[0], [1]]) ++ [] = X
  generalize mat 28 2 A11 2 2 [⟨A9, 1, 1⟩, ⟨A10, 1, 1⟩] [[0], [1]] = Y
  show (X ++ (Y ++ ([cxZ A2] ++ [cxB A1 V A n c]))).Perm (([cxZ A2] ++ X) ++ (Y ++ [cxB A1 V A n c]))
  rw [← List.append_assoc Y, ← List.append_assoc X, ← List.append_assoc (_ ++ X)]
  refine List.Perm.append_right _ ?_
  rw [List.append_assoc [cxZ A2], ← List.append_assoc X]
  exact List.perm_append_comm
 refine Ops.extract rfl rfl rfl (Ops.extract rfl rfl rfl (Ops.st_agg 2 0 hS9 rfl rfl rfl rfl rfl rfl rfl ?_))
 intro w10 hS10
 refine Ops.mi rfl rfl rfl (Ops.n (tQ (Cd.ret ?_)))
 skip
 refine retc2_r rfl (hS10.rd 0 rfl) rfl ?_
 exact ⟨A6, c6, rs6, rfl, hrl6, hS10.tail⟩
theorem specSusp_c (V : Int) (A : Option Addr) (n c : Nat) (rs : List SlV) (F : List (List Int)) (w : World) (hR : RowsI w A n rs F) (hn : n ≤ 9223372036854775807) :
  Ret Tryz.prog 16 [.agg #[.int .i64 V, .slice A n c]] w (AnsC (suV V F) (suL V F) (suK V F) w) := by
 have hFl := hR.len
 refine Ret.of_cd Tryz.func16 rfl Tryz.ntmps16 rfl (postc2 rfl rfl) (Cd.seq (Cd.region (Ops.box2 (St.refl w) rfl rfl ?_)))
 intro A1 w1 hS1
 refine Ops.new2 hS1 rfl ?_
 intro A2 w3 hS3
 have hS3 : St w w3 [cxZ A2, cxB A1 V A n c] := hS3
 clear hS1
 refine Ops.mi rfl rfl rfl (Ops.n (tQ (Cd.seq (Cd.seq (Cd.region (Ops.ld_agg 1 (hS3.rd 1 rfl) rfl rfl rfl (Ops.call (l17Is_c V A n c rs F _  (hS3.oldRows hR) hn) rfl rfl rfl ?_)))))))
 rintro _ w4 ⟨rfl, hst⟩
 have hS4 := hS3.later hst.below
 clear hS3
 unfold suV suL suK
 first | refine Ops.not_p rfl rfl ?_ | refine Ops.not rfl rfl ?_
 refine Ops.n (tQ ?_)
 refine Cd.cond_p _ rfl (fun h1 => ?_) (fun h1 => ?_)
 ·rw [if_neg h1, if_neg h1, if_neg h1]
  refine Cd.seq (Cd.region (Ops.bldZ2 (by exact inferInstance) (by exact inferInstance) rfl rfl rfl (Ops.st_agg 2 0 hS4 rfl rfl rfl rfl rfl rfl rfl ?_)))
  intro w9 hS9
  refine Ops.mi rfl rfl rfl (Ops.n (tQ (Cd.ret (thenQ_r ?_))))
  skip
  refine retc2_r rfl (hS9.rd 0 rfl) rfl ?_
  exact AnsC.none hS9
 have hF := Classical.not_not.1 h1
 rw [if_pos hF, if_pos hF, if_pos hF]
 refine Cd.skip (tQ (Cd.seq (Cd.region (Ops.ld_agg 1 (hS4.rd 1 rfl) rfl rfl rfl (Ops.bs1I hS4 rfl rfl rfl ?_)))))
 intro A9 w5 hS5
 refine Ops.bs1I hS5 rfl rfl rfl ?_
 intro A10 w6 hS6
 refine Ops.bs2 hS6 rfl rfl rfl rfl rfl rfl ?_
 intro A11 w7 hS7
 have hS7 : St w w7 (mat 28 2 A11 2 2 [⟨A9, 1, 1⟩, ⟨A10, 1, 1⟩] [[0], [1]] ++ [cxZ A2, cxB A1 V A n c]) := hS7.perm (List.Perm.cons _ (List.Perm.swap _ _ _))
 refine Ops.bld2c (by exact inferInstance) (by exact inferInstance) rfl rfl rfl rfl rfl rfl rfl (Ops.call (l17Join_c V A n c rs F 2 A11 2 2 [⟨A9, 1, 1⟩, ⟨A10, 1, 1⟩] [[0], [1]] _  (hS7.oldRows hR) (hS7.rowsI rfl) hF two_ptS) rfl rfl rfl ?_)
 rintro _ w8 ⟨A6, c6, rs6, rfl, hrl6, hst6⟩
 have hS8 : St w w8 (mat 28 2 A6 (jnLs V F [[0], [1]]).length c6 rs6 (jnLs V F [[0], [1]]) ++ [] ++ (mat 28 2 A11 2 2 [⟨A9, 1, 1⟩, ⟨A10, 1, 1⟩] [[0], [1]] ++ [cxZ A2, cxB A1 V A n c])) := hS7.call hst6
 have hS9 : St w w8 ([cxZ A2] ++ (mat 28 2 A6 (jnLs V F [[0], [1]]).length c6 rs6 (jnLs V F [[0], [1]]) ++ [])) := by
  refine (hS8.perm ?_).sub (List.sublist_append_left _ (mat 28 2 A11 2 2 [⟨A9, 1, 1⟩, ⟨A10, 1, 1⟩] [[0], [1]] ++ [cxB A1 V A n c]))
  generalize mat 28 2 A6 (jnLs V F [[0], [1]]).length c6 rs6 (jnLs V F [[0], [1]]) ++ [] = X
  generalize mat 28 2 A11 2 2 [⟨A9, 1, 1⟩, ⟨A10, 1, 1⟩] [[0], [1]] = Y
  show (X ++ (Y ++ ([cxZ A2] ++ [cxB A1 V A n c]))).Perm (([cxZ A2] ++ X) ++ (Y ++ [cxB A1 V A n c]))
  rw [← List.append_assoc Y, ← List.append_assoc X, ← List.append_assoc (_ ++ X)]
  refine List.Perm.append_right _ ?_
  rw [List.append_assoc [cxZ A2], ← List.append_assoc X]
  exact List.perm_append_comm
 refine Ops.extract rfl rfl rfl (Ops.extract rfl rfl rfl (Ops.st_agg 2 0 hS9 rfl rfl rfl rfl rfl rfl rfl ?_))
 intro w10 hS10
 refine Ops.mi rfl rfl rfl (Ops.n (tQ (Cd.ret ?_)))
 skip
 refine retc2_r rfl (hS10.rd 0 rfl) rfl ?_
 exact ⟨A6, c6, rs6, rfl, hrl6, hS10.tail⟩
end Go.Proofs.YtiblelgfkakmiaaGreatDoor.Vc
/-
 Plain mathematics: joins of Eulerian complexes are Eulerian, and so suspensions.
-/
namespace Go.Proofs.YtiblelgfkakmiaaGreatDoor.Vc
/-
 Plain mathematics: Betti numbers of suspensions and cones; boundaries have no boundary.
-/
theorem over_jn {V : Int} {F : List (List Int)} (hne : F ≠ []) (hc : Cplx V F) {T : List Int} (hT : T ≠ []) (h0 : ∀ t ∈ T, 0 ≤ t) : Over V F (jnL V F (T.map fun t => [t])) (T.map (V + ·)) := by
 have hJne : jnL V F (T.map fun t => [t]) ≠ [] := by
  match F, hne, T, hT with
  | a :: _, _, t :: _, _ => exact List.ne_nil_of_mem (jnL_mem.2 ⟨a, by simp, [t], by simp, rfl⟩)
 refine ⟨fun f hf => (hc.row f hf).2.1, fun f hf u hu => ((hc.row f hf).2.2 u hu).2, fun t ht => ?_, fun k x => ?_⟩
 ·obtain ⟨s, hs, rfl⟩ := List.mem_map.1 ht
  have := h0 s hs; omega
 ·rw [fcs_iff' hJne]
  constructor
  ·rintro ⟨⟨f, hf, h1⟩, h2⟩
   obtain ⟨a, ha, b, hb, rfl⟩ := jnL_mem.1 hf
   obtain ⟨t, ht, rfl⟩ := List.mem_map.1 hb
   obtain ⟨y, u, rfl, hy, hu⟩ := List.sublist_append_iff.1 h1
   rcases (show u = [] ∨ u = [t].map (V + ·) by { cases hu with | cons _ h => exact .inl (List.sublist_nil.1 h) | cons_cons _ h => exact .inr (by rw [List.sublist_nil.1 h]; rfl) }) with rfl | rfl
   ·left
    rw [List.append_nil] at h2 ⊢
    exact (fcs_iff' hne).2 ⟨⟨a, ha, hy⟩, h2⟩
   ·right
    rw [List.length_append] at h2
    have h2 : y.length + 1 = k + 1 := h2
    exact ⟨y, (fcs_iff' hne).2 ⟨⟨a, ha, hy⟩, by omega⟩, V + t, List.mem_map.2 ⟨t, ht, rfl⟩, rfl⟩
  ·rintro (h | ⟨w, hw, t, ht, rfl⟩)
   ·obtain ⟨⟨a, ha, h1⟩, h2⟩ := (fcs_iff' hne).1 h
    obtain ⟨t, ht⟩ := List.exists_mem_of_ne_nil T hT
    exact ⟨⟨_, jnL_mem.2 ⟨a, ha, [t], List.mem_map.2 ⟨t, ht, rfl⟩, rfl⟩, h1.trans (List.sublist_append_left _ _)⟩, h2⟩
   ·obtain ⟨⟨a, ha, h1⟩, h2⟩ := (fcs_iff' hne).1 hw
    obtain ⟨s, hs, rfl⟩ := List.mem_map.1 ht
    exact ⟨⟨_, jnL_mem.2 ⟨a, ha, [s], List.mem_map.2 ⟨s, hs, rfl⟩, rfl⟩, h1.append (List.Sublist.refl _)⟩, by rw [List.length_append, List.length_singleton, h2]⟩
theorem Over.num {V : Int} {F J : List (List Int)} {T : List Int} (h : Over V F J T) (hT : T.Nodup) (k : Nat) : nf J (k + 1) = nf F (k + 1) + T.length * nf F k := by
 have hp : (fcs J (k + 1)).Perm (fcs F (k + 1) ++ T.flatMap fun t => (fcs F k).map fun w => w ++ [t]) := by
  refine (List.perm_ext_iff_of_nodup (fcs_SL _ _).nodup ?_).2 fun x => ?_
  ·refine List.nodup_append.2 ⟨(fcs_SL _ _).nodup, List.pairwise_flatMap.2 ⟨fun t _ => List.pairwise_map.2 ((fcs_SL F k).nodup.imp fun hab e => hab (List.append_cancel_right e)), ?_⟩, ?_⟩
   ·refine hT.imp fun {s t} hst u hu v hv e => hst ?_
    obtain ⟨y, hy, rfl⟩ := List.mem_map.1 hu
    obtain ⟨z, hz, rfl⟩ := List.mem_map.1 hv
    have := congrArg List.getLast? e
    simpa using this
   ·intro a ha b hb e
    obtain ⟨t, ht, hb⟩ := List.mem_flatMap.1 hb
    obtain ⟨w, hw, rfl⟩ := List.mem_map.1 hb
    subst e
    have h1 := (h.sm ha).2.2 t (by simp)
    have h2 := h.tv t ht
    omega
  ·rw [h.mem k x, List.mem_append, List.mem_flatMap]
   refine or_congr .rfl ⟨fun ⟨w, hw, t, ht, e⟩ => ⟨t, ht, List.mem_map.2 ⟨w, hw, e.symm⟩⟩, fun ⟨t, ht, hx⟩ => ?_⟩
   obtain ⟨w, hw, e⟩ := List.mem_map.1 hx
   exact ⟨w, hw, t, ht, e.symm⟩
 unfold nf
 rw [hp.length_eq, List.length_append, len_prod]
theorem rk_zero {F : List (List Int)} (hne : 0 < nf F 1) : IsRk (matF F 0) 1 := by
 have e : ∀ v ∈ matF F 0, v = 1 := fun v hv => by
  rw [matF_vc] at hv
  obtain ⟨x, hx, rfl⟩ := List.mem_map.1 hv
  rw [fcs_zero]
  simp [vc, rowM, Ins]
 have hl : (matF F 0).length = nf F 1 := by simp [matF, nf]
 refine ⟨[1], rfl, by simp [sums], .of (fun b hb => by rw [e b hb]; exact sums_self (by simp)) fun b hb => ?_⟩
 obtain rfl : b = 1 := by simpa using hb
 match h : matF F 0 with
 | [] => rw [h] at hl; simp at hl; omega
 | a :: r => exact sums_self (by rw [← e a (by rw [h]; simp)]; simp)
theorem rkF_of {F : List (List Int)} {m r : Nat} (h : IsRk (matF F (m + 1)) r) : rkF F (m + 1) = r := rkF_eq (by omega) h
theorem rkF_is (F : List (List Int)) (m : Nat) : IsRk (matF F (m + 1)) (rkF F (m + 1)) := by
 have := rkN_is (matF F (m + 1))
 unfold rkF
 rw [if_neg (by omega)]; exact this
theorem rkF_zero (F : List (List Int)) : rkF F 0 = 0 := by simp [rkF]
theorem Over.susp_bt {V : Int} {F J : List (List Int)} {a b : Int} (hab : a ≠ b) (h : Over V F J [a, b]) (hne : 0 < nf F 1) : btA J 0 = 1 ∧ btA J 1 = btA F 0 - 1 ∧ ∀ k, btA J (k + 2) = btA F (k + 1) := by
 have hn : ∀ k, nf J (k + 1) = nf F (k + 1) + 2 * nf F k := fun k => h.num (by simpa using hab) k
 have h0 := nf_zero F
 have r1 : rkF J 1 = nf F 1 + 1 := rkF_of (h.susp hab 0 (rk_zero hne))
 have r2 : ∀ m, rkF J (m + 2) = nf F (m + 2) + rkF F (m + 1) := fun m => rkF_of (h.susp hab (m + 1) (rkF_is F m))
 have r3 : rkF J 2 = nf F 2 + rkF F 1 := r2 0
 have n1 : nf J 1 = nf F 1 + 2 * nf F 0 := hn 0
 have n2 : nf J 2 = nf F 2 + 2 * nf F 1 := hn 1
 refine ⟨?_, ?_, fun k => ?_⟩
 ·show ((nf J 1 : Nat) : Int) - (rkF J 0 : Int) - (rkF J 1 : Int) = 1
  rw [rkF_zero, r1]; omega
 ·show ((nf J 2 : Nat) : Int) - (rkF J 1 : Int) - (rkF J 2 : Int) = ((nf F 1 : Nat) : Int) - (rkF F 0 : Int) - (rkF F 1 : Int) - 1
  rw [rkF_zero]; omega
 ·show ((nf J (k + 3) : Nat) : Int) - (rkF J (k + 2) : Int) - (rkF J (k + 3) : Int) = ((nf F (k + 2) : Nat) : Int) - (rkF F (k + 1) : Int) - (rkF F (k + 2) : Int)
  have e1 : rkF J (k + 2) = nf F (k + 2) + rkF F (k + 1) := r2 k
  have e2 : rkF J (k + 3) = nf F (k + 3) + rkF F (k + 2) := r2 (k + 1)
  have e3 : nf J (k + 3) = nf F (k + 3) + 2 * nf F (k + 2) := hn (k + 2)
  omega
theorem Over.cone_bt {V : Int} {F J : List (List Int)} {a : Int} (h : Over V F J [a]) : btA J 0 = 1 ∧ ∀ k, btA J (k + 1) = 0 := by
 have hn : ∀ k, nf J (k + 1) = nf F (k + 1) + 1 * nf F k := fun k => h.num (by simp) k
 have h0 := nf_zero F
 have r := fun m => rkF_of (h.cone m)
 refine ⟨?_, fun k => ?_⟩
 ·show ((nf J 1 : Nat) : Int) - (rkF J 0 : Int) - (rkF J 1 : Int) = 1
  have e1 : rkF J 1 = nf F 1 := r 0
  have e2 : nf J 1 = nf F 1 + 1 * nf F 0 := hn 0
  rw [rkF_zero]; omega
 ·show ((nf J (k + 2) : Nat) : Int) - (rkF J (k + 1) : Int) - (rkF J (k + 2) : Int) = 0
  have e1 : rkF J (k + 1) = nf F (k + 1) := r k
  have e2 : rkF J (k + 2) = nf F (k + 2) := r (k + 1)
  have e3 : nf J (k + 2) = nf F (k + 2) + 1 * nf F (k + 1) := hn (k + 1)
  omega
/-! the complex of some lists -/
theorem cx_fcs {ls : List (List Int)} (hs : ∀ l ∈ ls, SA l) (hb : ¬ CxBad ls) (k : Nat) : fcs (cxL ls) k = (fcs ls k).map (List.map (ix (cvP ls))) := by
 have hc : cxL ls = (facP ls).map (List.map (ix (cvP ls))) := by unfold cxL; rw [if_neg hb]; rfl
 rw [hc, fcs_map (ix_mono (s := cvP ls) (cs_SA _)) (fun l hl => cvP_ins (facP_mem.1 hl).1), fcs_fac hs]
theorem fcs_cvP {ls : List (List Int)} {k : Nat} {x : List Int} (hx : x ∈ fcs ls k) : Ins x (cvP ls) := by
 rcases faL_mem.1 (fcs_mem.1 hx) with ⟨_, rfl⟩ | ⟨_, f, hf, h1, _⟩
 ·exact fun z hz => by cases hz
 ·exact fun z hz => cvP_ins hf z (h1.subset hz)
theorem ix_ins {s x y : List Int} (hs : SA s) (hx : Ins x s) (hy : Ins y s) : Ins (x.map (ix s)) (y.map (ix s)) ↔ Ins x y := by
 have hm := ix_mono (s := s) hs
 have hinj : ∀ a ∈ s, ∀ b ∈ s, ix s a = ix s b → a = b := fun a ha b hb e => by
  rcases Int.lt_trichotomy a b with h | h | h
  ·have := hm a ha b hb h; omega
  ·exact h
  ·have := hm b hb a ha h; omega
 refine ⟨fun h z hz => ?_, fun h z hz => ?_⟩
 ·obtain ⟨w, hw, e⟩ := List.mem_map.1 (h _ (List.mem_map.2 ⟨z, hz, rfl⟩))
  rw [← hinj w (hy w hw) z (hx z hz) e]; exact hw
 ·obtain ⟨w, hw, rfl⟩ := List.mem_map.1 hz
  exact List.mem_map.2 ⟨w, h w hw, rfl⟩
theorem matF_cx {ls : List (List Int)} (hs : ∀ l ∈ ls, SA l) (hb : ¬ CxBad ls) (k : Nat) : matF (cxL ls) k = matF ls k := by
 unfold matF
 rw [cx_fcs hs hb, cx_fcs hs hb, List.map_map]
 refine List.map_congr_left fun x hx => ?_
 show rowM (rwB _ _) = rowM (rwB _ _)
 congr 1
 unfold rwB
 rw [List.map_map]
 refine List.map_congr_left fun y hy => ?_
 show (if Ins (y.map _) (x.map _) then (1 : Int) else 0) = if Ins y x then 1 else 0
 have e : Ins (y.map (ix (cvP ls))) (x.map (ix (cvP ls))) ↔ Ins y x := ix_ins (cs_SA ls.flatten) (fcs_cvP hy) (fcs_cvP hx)
 by_cases h : Ins y x
 ·rw [if_pos h, if_pos (e.2 h)]
 ·rw [if_neg h, if_neg fun h' => h (e.1 h')]
theorem btA_cx {ls : List (List Int)} (hs : ∀ l ∈ ls, SA l) (hb : ¬ CxBad ls) (j : Nat) : btA (cxL ls) j = btA ls j := by
 have e1 : ∀ k, rkF (cxL ls) k = rkF ls k := fun k => by unfold rkF; rw [matF_cx hs hb]
 have e2 : ∀ k, (fcs (cxL ls) k).length = (fcs ls k).length := nf_cx hs hb
 unfold btA
 rw [e1, e1, e2]
theorem dpt_cx {ls : List (List Int)} (hs : ∀ l ∈ ls, SA l) (hb : ¬ CxBad ls) : dpt (cxL ls) = dpt ls := dpt_of (nf_cx hs hb)
theorem jn_pts {V : Int} {F : List (List Int)} (hne : F ≠ []) (hc : Cplx V F) {T : List Int} (hT : T ≠ []) (h0 : ∀ t ∈ T, 0 ≤ t) (hK : jnK V F (T.map fun t => [t]) = 0) : jnLs V F (T.map fun t => [t]) = cxL (jnL V F (T.map fun t => [t])) ∧ ¬ CxBad (jnL V F (T.map fun t => [t])) ∧ (∀ l ∈ jnL V F (T.map fun t => [t]), SA l) ∧ dpt (jnL V F (T.map fun t => [t])) = dpt F + 1 := by
 have hTm : (T.map fun t => [t]) ≠ [] := by simpa using hT
 have hB : ¬ JnBig F (T.map fun t => [t]) := fun h => by unfold jnK at hK; rw [if_pos h] at hK; cases hK
 unfold jnK at hK
 unfold jnLs
 rw [if_neg hB] at hK ⊢
 have eS : jnS V F (T.map fun t => [t]) = jnL V F (T.map fun t => [t]) := by unfold jnS; rw [if_neg (by simp [hne, hT])]
 rw [eS] at hK ⊢
 have hX : ¬ CxBad (jnL V F (T.map fun t => [t])) := fun h => by unfold cxK at hK; rw [if_pos h] at hK; cases hK
 refine ⟨rfl, hX, fun l hl => ?_, ?_⟩
 ·obtain ⟨a, ha, b, hb, rfl⟩ := jnL_mem.1 hl
  obtain ⟨t, ht, rfl⟩ := List.mem_map.1 hb
  rw [SA, List.pairwise_append]
  refine ⟨(hc.row a ha).2.1, List.pairwise_singleton _ _, fun u hu v hv => ?_⟩
  obtain rfl : v = V + t := by simpa using hv
  have := (hc.row a ha).2.2 u hu; have := h0 t ht; omega
 ·rw [jn_dpt hne hTm]
  congr 1
  refine Nat.le_antisymm (dpt_bd fun f hf => ?_) ?_
  ·obtain ⟨t, ht, rfl⟩ := List.mem_map.1 hf
   simp
  ·obtain ⟨t, ht⟩ := List.exists_mem_of_ne_nil T hT
   exact dpt_le (F := T.map fun t => [t]) (f := [t]) (List.mem_map.2 ⟨t, ht, rfl⟩)
theorem nf_one_pos {V : Int} {F : List (List Int)} (hne : F ≠ []) (hc : Cplx V F) : 0 < nf F 1 ∧ 0 < dpt F := by
 obtain ⟨f, hf⟩ := List.exists_mem_of_ne_nil F hne
 have h1 := (hc.row f hf).1.1
 have h2 := dpt_le hf
 exact ⟨nf_pos (by omega), by omega⟩
theorem susp_law {V : Int} {F : List (List Int)} (hne : F ≠ []) (hc : Cplx V F) (hK : jnK V F [[0], [1]] = 0) : dpt (jnLs V F [[0], [1]]) = dpt F + 1 ∧ btA (jnLs V F [[0], [1]]) 0 = 1 ∧ btA (jnLs V F [[0], [1]]) 1 = btA F 0 - 1 ∧ ∀ k, btA (jnLs V F [[0], [1]]) (k + 2) = btA F (k + 1) := by
 obtain ⟨e, hX, hs, hd⟩ := jn_pts hne hc (T := [0, 1]) (by simp) (by simp) hK
 have ho := over_jn hne hc (T := [0, 1]) (by simp) (by simp)
 obtain ⟨h1, h2, h3⟩ := Over.susp_bt (a := V + 0) (b := V + 1) (by omega) ho (nf_one_pos hne hc).1
 have e' : jnLs V F [[0], [1]] = cxL (jnL V F ([0, 1].map fun t => [t])) := e
 rw [e', dpt_cx hs hX]
 refine ⟨hd, by rw [btA_cx hs hX]; exact h1, by rw [btA_cx hs hX]; exact h2, fun k => by rw [btA_cx hs hX]; exact h3 k⟩
theorem cone_law {V : Int} {F : List (List Int)} (hne : F ≠ []) (hc : Cplx V F) (hK : jnK V F [[0]] = 0) : dpt (jnLs V F [[0]]) = dpt F + 1 ∧ btA (jnLs V F [[0]]) 0 = 1 ∧ ∀ k, btA (jnLs V F [[0]]) (k + 1) = 0 := by
 obtain ⟨e, hX, hs, hd⟩ := jn_pts hne hc (T := [0]) (by simp) (by simp) hK
 have ho := over_jn hne hc (T := [0]) (by simp) (by simp)
 obtain ⟨h1, h2⟩ := ho.cone_bt
 have e' : jnLs V F [[0]] = cxL (jnL V F ([0].map fun t => [t])) := e
 rw [e', dpt_cx hs hX]
 exact ⟨hd, by rw [btA_cx hs hX]; exact h1, fun k => by rw [btA_cx hs hX]; exact h2 k⟩
/-! boundaries -/
theorem cxL_nil' : cxL [] = [] := by unfold cxL; split <;> rfl
theorem par_swap {α β : Type} (R : α → β → Bool) (A : List α) (B : List β) (h : ∀ b ∈ B, (A.filter fun a => R a b).length % 2 = 0) : (A.filter fun a => decide ((B.filter fun b => R a b).length % 2 = 1)).length % 2 = 0 := by
 have e0 := sumL_swap (fun a b => if R a b = true then (1 : Int) else 0) B A
 have e1 : ∀ a, sumL (fun b => if R a b = true then (1 : Int) else 0) B = ((B.filter fun b => R a b).length : Int) := fun a => (len_filter (fun b => R a b) B).symm
 have e2 : ∀ b, sumL (fun a => if R a b = true then (1 : Int) else 0) A = ((A.filter fun a => R a b).length : Int) := fun b => (len_filter (fun a => R a b) A).symm
 have h1 : ∀ B' : List β, (∀ b ∈ B', (A.filter fun a => R a b).length % 2 = 0) → sumL (fun b => sumL (fun a => if R a b = true then (1 : Int) else 0) A) B' % 2 = 0 := by
  intro B'
  induction B' with
  | nil => intro _; rfl
  | cons b B' ih =>
   intro h
   have := ih fun c hc => h c (List.mem_cons_of_mem _ hc)
   have := h b (by simp)
   show (sumL (fun a => if R a b = true then (1 : Int) else 0) A + _) % 2 = 0
   rw [e2]; omega
 have h2 := h1 B h
 rw [← e0] at h2
 have h3 : ∀ A' : List α, sumL (fun a => sumL (fun b => if R a b = true then (1 : Int) else 0) B) A' % 2 = ((A'.filter fun a => decide ((B.filter fun b => R a b).length % 2 = 1)).length : Int) % 2 := by
  intro A'
  induction A' with
  | nil => rfl
  | cons a A' ih =>
   show (sumL (fun b => if R a b = true then (1 : Int) else 0) B + _) % 2 = _
   rw [e1]
   by_cases hp : (B.filter fun b => R a b).length % 2 = 1
   ·rw [List.filter_cons_of_pos (by simpa using hp), List.length_cons]; omega
   ·rw [List.filter_cons_of_neg (by simpa using hp)]; omega
 have h4 := h3 A
 omega
theorem bd_cx {V : Int} {F : List (List Int)} (hc : Cplx V F) (hp : Pure F) (hb : ¬ CxBad (bdS F)) : Pure (cxL (bdS F)) ∧ bdS (cxL (bdS F)) = [] := by
 have hsF : ∀ f ∈ F, SA f := fun f hf => (hc.row f hf).2.1
 have hs : ∀ l ∈ bdS F, SA l := fun l hl => fcs_sa hsF (List.mem_filter.1 hl).1
 have hl : ∀ l ∈ bdS F, l.length = dpt F - 1 := fun l hl => fcs_len (List.mem_filter.1 hl).1
 by_cases hne : bdS F = []
 ·rw [hne, cxL_nil']
  exact ⟨(fun f hf => nomatch hf), by decide⟩
 have hd : dpt (bdS F) = dpt F - 1 := by
  obtain ⟨f, hf, e⟩ := dpt_ex hne
  rw [← e]; exact hl f hf
 have hcx := cx_cplx hs hb
 have hdx := dpt_cx hs hb
 have hpx : Pure (cxL (bdS F)) := fun f hf => by
  unfold cxL at hf
  rw [if_neg hb] at hf
  obtain ⟨l, hlm, rfl⟩ := List.mem_map.1 hf
  rw [List.length_map, hdx, hd]
  exact hl l (facP_mem.1 hlm).1
 refine ⟨hpx, ?_⟩
 by_cases h1 : dpt F ≤ 1
 ·-- only the empty list
  have : cxL (bdS F) = [] := by
   refine List.eq_nil_iff_forall_not_mem.2 fun f hf => ?_
   have h2 := hpx f hf
   have h3 := (hcx.row f hf).1.1
   omega
  rw [this]; decide
 rcases pure_facets hcx hpx with hf | hf
 ·rw [bdS, List.filter_eq_nil_iff]
  intro x hx
  rw [hdx, hd] at hx
  rw [cx_fcs hs hb] at hx
  obtain ⟨z, hz, rfl⟩ := List.mem_map.1 hx
  have hzs := fcs_sa hs hz
  have hzl := fcs_len hz
  simp only [decide_eq_true_eq]
  rw [hasI_len]
  have e1 : ((cxL (bdS F)).filter fun f => decide (Ins (z.map (ix (cvP (bdS F)))) f)).length = ((fcs (bdS F) (dpt F - 1)).filter fun y => decide (Ins z y)).length := by
   have e2 : cxL (bdS F) = (fcs (bdS F) (dpt F - 1)).map (List.map (ix (cvP (bdS F)))) := by
    rw [← cx_fcs hs hb, ← hd, ← hdx]; exact hf.symm
   rw [e2, List.filter_map, List.length_map]
   congr 1
   refine List.filter_congr fun y hy => decide_eq_decide.2 (ix_ins (cs_SA (bdS F).flatten) (fcs_cvP hz) (fcs_cvP hy))
  have e3 : fcs (bdS F) (dpt F - 1) = bdS F := by
   refine (fcs_SL _ _).eq (List.Pairwise.filter _ (fcs_SL _ _)) fun y => ?_
   rw [fcs_pos (by omega)]
   constructor
   ·rintro ⟨f, hf, h2, h3⟩
    have : y = f := h2.eq_of_length (by rw [h3, hl f hf])
    rw [this]; exact hf
   ·exact fun hy => ⟨y, hy, List.Sublist.refl y, hl y hy⟩
  rw [e1, e3]
  unfold bdS
  rw [List.filter_filter]
  have e4 : ((fcs F (dpt F - 1)).filter fun y => decide (Ins z y) && decide ((hasI F y).length % 2 = 1)) = ((fcs F (dpt F - 1)).filter fun y => decide (Ins z y)).filter fun y => decide ((F.filter fun f => decide (Ins y f)).length % 2 = 1) := by
   rw [List.filter_filter]
   exact List.filter_congr fun y _ => by rw [hasI_len, Bool.and_comm]
  rw [e4]
  have key := par_swap (fun y f => decide (Ins y f)) ((fcs F (dpt F - 1)).filter fun y => decide (Ins z y)) F fun f hf => by
   have hfs := hsF f hf
   have hfl := hp f hf
   rw [List.filter_filter]
   have e5 : ((fcs F (dpt F - 1)).filter fun y => decide (Ins y f) && decide (Ins z y)).length = ((ptsP f (dpt F - 1)).filter fun y => decide (Ins z y)).length := by
    refine List.Perm.length_eq ((List.perm_ext_iff_of_nodup ((fcs_SL _ _).nodup.filter _) ((ptsP_SL hfs).nodup.filter _)).2 fun y => ?_)
    rw [List.mem_filter, List.mem_filter, ptsP_mem]
    simp only [Bool.and_eq_true, decide_eq_true_eq]
    exact ⟨fun ⟨h1, h2, h3⟩ => ⟨⟨Ins.sub (fcs_sa hsF h1) hfs h2, fcs_len h1⟩, h3⟩, fun ⟨⟨h1, h2⟩, h3⟩ => ⟨(fcs_pos (by omega)).2 ⟨f, hf, h1, h2⟩, Ins.of_sub h1, h3⟩⟩
   rw [e5]
   by_cases hI : Ins z f
   ·obtain ⟨k, hk⟩ : ∃ k, dpt F = k + 2 := ⟨dpt F - 2, by omega⟩
    have h9 := diamond (k := k) hzs hfs (by omega) (by omega) hI
    rw [show dpt F - 1 = k + 1 by omega, h9]
   ·rw [List.filter_eq_nil_iff.2 fun y hy h => hI ((of_decide_eq_true h).trans (Ins.of_sub (ptsP_mem.1 hy).1))]
    rfl
  omega
 ·rw [hf]; decide
end Go.Proofs.YtiblelgfkakmiaaGreatDoor.Vc
/-
 The walk of the law FnComplexBetti (it returns true). Conditions: the library's table of powers of ten holds what the program's text lays there.
-/
namespace Go.Proofs.YtiblelgfkakmiaaGreatDoor.Vc
open Go.RowKit
theorem DrawComplexBetti_c (Ac : Option Addr) (nc cc : Nat) (bs : List Int) (w : World) (hY : RdY w Ac nc bs) (hnc : nc ≤ 1000000) :
  Ret Tryz.prog 6 [.slice Ac nc cc] w (fun v w' => ∃ (V : Int) (n : Nat) (F : List (List Int)) (A : Option Addr) (c : Nat) (rs : List SlV), v = .agg #[.int .i64 V, .slice A n c] ∧ (-10 ≤ V ∧ V ≤ 200) ∧ n ≤ 401 ∧ rs.length = n ∧ F.length = n ∧ St w w' (mat 28 2 A n c rs F ++ [])) := by
 refine Ret.of_cd Tryz.func6 rfl Tryz.ntmps6 rfl (postc rfl rfl) (Cd.seq (Cd.region (Ops.new2 (St.refl w) rfl ?_)))
 intro A2 w1 hS1
 refine Ops.n (tQ (Cd.seq (Cd.region (Ops.ms rfl rfl rfl (Ops.call (DrawIsComplex_c Ac nc cc bs w1 (hY.below hS1.below) hnc) rfl rfl rfl ?_)))))
 rintro _ w2 ⟨V, n, F, A, c, rs, rfl, hV, hn, hrl, hFl, hst⟩
 have hS2 := hS1.call2 hst
 refine Ops.st_agg 2 0 hS2 rfl rfl rfl rfl rfl rfl rfl ?_
 intro w3 hS3
 refine Ops.n (tQ (Cd.ret ?_))
 skip
 exact ⟨A2, _, rfl, hS3.rd 0 rfl, V, n, F, A, c, rs, rfl, hV, hn, hrl, hFl, hS3.tail⟩
theorem suK_cases' (V : Int) (F : List (List Int)) (h : Cplx V F) : suK V F = 0 ∨ suK V F = 3 := by
 unfold suK
 rw [if_pos h]; exact jnK_cases V F _
theorem cxK_nil' : cxK [] = 0 := by
 unfold cxK
 exact if_neg ((by decide : Cplx 0 []).sub (g := id) fun f hf => by cases hf)
theorem cone_fits {V : Int} {F : List (List Int)} (hne : F ≠ []) (h : jnK V F [[0], [1]] = 0) : jnK V F [[0]] = 0 := by
 have hB : ¬ JnBig F [[0], [1]] := fun h' => by unfold jnK at h; rw [if_pos h'] at h; cases h
 unfold jnK at h
 rw [if_neg hB] at h
 have eS : jnS V F [[0], [1]] = jnL V F [[0], [1]] := by unfold jnS; rw [if_neg (by simp [hne])]
 have eS' : jnS V F [[0]] = jnL V F [[0]] := by unfold jnS; rw [if_neg (by simp [hne])]
 rw [eS] at h
 have hX : ¬ CxBad (jnL V F [[0], [1]]) := fun h' => by unfold cxK at h; rw [if_pos h'] at h; cases h
 have hl : F.length * 2 ≤ 400 := Nat.le_of_not_lt fun h' => hB ⟨hne, by simp, h'⟩
 have hB' : ¬ JnBig F [[0]] := fun h' => by have := h'.2.2; simp at this; omega
 unfold jnK
 rw [if_neg hB', eS']
 unfold cxK
 have hsub : ∀ x ∈ jnL V F [[0]], x ∈ jnL V F [[0], [1]] := fun x hx => by
  obtain ⟨a, ha, b, hb, rfl⟩ := jnL_mem.1 hx
  exact jnL_mem.2 ⟨a, ha, b, by rw [List.mem_singleton.1 hb]; simp, rfl⟩
 refine if_neg fun hb => hX ?_
 rcases hb with ⟨l, hl, h6⟩ | h | h
 ·exact .inl ⟨l, hsub l hl, h6⟩
 ·refine .inr (.inl (Nat.lt_of_lt_of_le h ?_))
  refine sub_len _ _ (cs_SA _).nodup fun x hx => ?_
  rw [cvP, cs_mem, List.mem_flatten] at hx ⊢
  obtain ⟨l, hl, hx⟩ := hx
  exact ⟨l, hsub l hl, hx⟩
 ·have h2 : (facP (jnL V F [[0]])).length ≤ (jnL V F [[0]]).length := sub_len _ _ (facP_of _).1.nodup fun x hx => (facP_mem.1 hx).1
  have h3 : (jnL V F [[0]]).length = F.length := by unfold jnL; rw [len_prod]; simp
  omega
theorem jnLs_bd_cx (ss : List (List Int)) : (cxL ss).length ≤ 1000 ∧ ∀ x ∈ cxL ss, x.length ≤ 1000 := by
 unfold cxL
 split
 ·simp
 ·rename_i h
  have h1 : ¬ (∃ l ∈ ss, 6 < l.length) := fun h' => h (.inl h')
  have h2 : (facP ss).length ≤ 400 := Nat.le_of_not_lt fun h' => h (.inr (.inr h'))
  unfold cxF
  refine ⟨by rw [List.length_map]; omega, fun x hx => ?_⟩
  obtain ⟨l, hl, rfl⟩ := List.mem_map.1 hx
  rw [List.length_map]
  have : ¬ 6 < l.length := fun h' => h1 ⟨l, (facP_mem.1 hl).1, h'⟩
  omega
theorem btA_bd {V : Int} {F : List (List Int)} (hc : Cplx V F) (j : Nat) : 0 ≤ btA F j ∧ btA F j ≤ 30000 := by
 refine ⟨bt_pos hc j, ?_⟩
 have h6 : ∀ f ∈ F, f.length ≤ 6 := fun f hf => (hc.row f hf).1.2
 have h1 := fcs_num (j + 1) h6
 have h2 := hc.f
 unfold btA
 omega
theorem btP_at {F : List (List Int)} {k : Nat} (h : k < dpt F) : gi (btP F) (k : Int) = btA F k := by
 rw [gi_mem (by unfold btP; rw [btG_len]; exact h)]
 simp [btP, btG]
theorem sgn_int (j : Nat) : sgn j = 1 - 2 * ((j : Int) % 2) := by
 unfold sgn
 split <;> omega
set_option maxHeartbeats 2000000 in
theorem FnComplexBetti_c (Ac : Option Addr) (nc cc : Nat) (bs : List Int) (w : World) (hT : Tab w) (hY : RdY w Ac nc bs) :
  Ret Tryz.prog 3 [.slice Ac nc cc] w (fun v w' => v = .bool true ∧ St w w' []) := by
 refine Ret.of_cd Tryz.func3 rfl Tryz.ntmps3 rfl (post1 rfl) (Cd.seq (Cd.region (Ops.mb rfl rfl rfl (Ops.n (tQ (Cd.seq (Cd.seq (Cd.region (Ops.ms rfl rfl rfl ?_)))))))))
 refine Ops.call (big_c Ac nc cc w) rfl rfl rfl ?_
 rintro _ w1 ⟨rfl, hW⟩
 refine Ops.n (tQ ?_)
 refine Cd.cond_p _ rfl (fun h1 => ?_) (fun h1 => ?_)
 ·refine Cd.seq (Cd.region (Ops.mb rfl rfl rfl (Ops.n (tQ (Cd.ret (thenQ_r (ret1_b rfl ?_)))))))
  exact ⟨rfl, hW⟩
 have hT := hT.later hW.below
 have hY := hY.below hW.below
 refine Cd.skip (tQ (Cd.seq (Cd.region (Ops.ms rfl rfl rfl (Ops.call (DrawComplexBetti_c Ac nc cc bs w1 hY (by omega)) rfl rfl rfl ?_)))))
 rintro _ w2 ⟨V, n, F, A, c, rs, rfl, hV, hn, hrl, hFl, hst⟩
 have hX : RowsI w2 A n rs F := St.rowsI hst hFl
 have hb := hst.below
 have hW := hW.later hb; have hT := hT.later hb
 clear hst hY
 skip
 refine Ops.new2 (St.refl w2) rfl ?_
 intro A3 w3 hU
 refine Ops.st_agg 2 0 hU rfl rfl rfl rfl rfl rfl rfl ?_
 intro w4 hU
 have hb := hU.below
 have h3 : Rd w4 A3 2 (fun j => [Value.int .i64 V, .slice A n c].getD j undef) := hU.rd 0 rfl
 have hW := hW.later hb; have hT := hT.later hb; have hX := hX.later hb
 clear hU
 refine Ops.n (tQ (Cd.seq (Cd.region (Ops.ld_agg 1 h3 rfl rfl rfl (Ops.call (ComplexBetti_c V A n c rs F w4 hT hX (by omega)) rfl rfl rfl ?_)))))
 rintro _ w5 ⟨A4, c4, rfl, hst⟩
 have hL : RdI w5 A4 (btV V F).length (btV V F) := hst.rdI 0 rfl
 have hb := hst.below
 have hW := hW.later hb; have hT := hT.later hb; have hX := hX.later hb; have h3 := Rd.below h3 hb
 clear hst
 refine Ops.mv_tup rfl rfl rfl (Ops.extract rfl rfl rfl (Ops.extract rfl rfl rfl (Ops.ms rfl rfl rfl (Ops.mi rfl rfl rfl (Ops.n (tQ (Cd.seq (Cd.seq (Cd.region ?_)))))))))
 refine Ops.ld_agg 1 h3 rfl rfl rfl (Ops.call (specComplexBetti_c V A n c rs F w5 hX (by omega)) rfl rfl rfl ?_)
 rintro _ w6 ⟨A6, c6, rfl, hst⟩
 have hL6 : RdI w6 A6 (btV V F).length (btV V F) := hst.rdI 0 rfl
 have hb := hst.below
 have hW := hW.later hb; have hT := hT.later hb; have hX := hX.later hb; have h3 := Rd.below h3 hb; have hL := hL.later hb
 clear hst
 have hvl : (btV V F).length ≤ 6 := by
  unfold btV
  split
  ·rename_i hC
   unfold btP
   rw [btG_len]
   exact dpt_bd fun f hf => (hC.row f hf).1.2
  ·simp
 refine Ops.mv_tup rfl rfl rfl (Ops.extract rfl rfl rfl (Ops.extract rfl rfl rfl (Ops.ms rfl rfl rfl (Ops.mi rfl rfl rfl (Ops.n (tQ (Cd.seq (Cd.region (Ops.mi rfl rfl rfl ?_)))))))))
 refine Ops.mi rfl rfl rfl (Ops.neq rfl rfl rfl (Ops.mb rfl rfl rfl ?_))
 refine Ops.split_p 46 rfl (fun h => absurd rfl h) (fun _ => ?_) --f
 refine Ops.g rfl rfl rfl (Ops.ms rfl rfl rfl (Ops.g rfl rfl rfl (Ops.ms rfl rfl rfl (Ops.g rfl rfl rfl (Ops.call (likeInts_c A4 _ c4 (btV V F) A6 _ c6 (btV V F) w6 hL hL6 (by omega)) rfl rfl rfl ?_)))))
 rintro _ w7 ⟨rfl, hst⟩
 have hb := hst.below
 have hW := hW.later hb; have hT := hT.later hb; have hX := hX.later hb; have h3 := Rd.below h3 hb; have hL := hL.later hb
 clear hst hL6
 refine Ops.g rfl rfl rfl ?_
 first | refine Ops.not_p rfl rfl ?_ | refine Ops.not rfl rfl ?_
 refine Ops.pick_f rfl rfl rfl (Ops.n (tQ ?_))
 refine Cd.cond_pf rfl (fun h => h rfl) ?_
 refine Cd.skip (tQ (Cd.seq (Cd.seq (Cd.region (Ops.mi rfl rfl rfl (Ops.neq rfl rfl rfl (Ops.n (tQ ?_))))))))
 refine Cd.cond_p _ rfl (fun h2 => ?_) (fun h2 => ?_)
 ·have hnC : ¬ Cplx V F := fun h => h2 (by unfold hvK; rw [if_pos h])
  have e1 : btV V F = [] := by unfold btV; rw [if_neg hnC]
  refine Cd.seq (Cd.region (Ops.ms rfl rfl rfl (Ops.len rfl rfl (Ops.eql rfl rfl rfl (Ops.mb rfl rfl rfl (Ops.n (tQ (Cd.ret (thenQ_r ?_)))))))))
  refine ret1_b rfl ?_
  exact ⟨by rw [e1]; rfl, hW⟩
 have hC : Cplx V F := Classical.byContradiction fun h => h2 (by unfold hvK; rw [if_neg h]; decide)
 have hF4 := hC.f
 have hf6 : ∀ f ∈ F, f.length ≤ 6 := fun f hf => (hC.row f hf).1.2
 have hd6 := dpt_bd hf6
 have eB : btV V F = btP F := by unfold btV; rw [if_pos hC]
 have hbl : (btV V F).length = dpt F := by rw [eB]; exact btG_len _ _
 have hL : RdI w7 A4 (btV V F).length (btP F) := by rw [eB] at hL ⊢; exact hL
 have hbd := fun j => btA_bd hC j
 refine Cd.skip (tQ (Cd.seq (Cd.region (Ops.ld_agg 1 h3 rfl rfl rfl (Ops.call (EulerOfComplex_c V A n c rs F w7 hT hX hC) rfl rfl rfl ?_)))))
 rintro _ w8 ⟨rfl, hst⟩
 have hb := hst.below
 have hW := hW.later hb; have hT := hT.later hb; have hX := hX.later hb; have h3 := Rd.below h3 hb; have hL := hL.later hb
 clear hst
 have hsb : ∀ q, q ≤ dpt F → -300000 ≤ sumN q (fun j => sgn j * btA F j) ∧ sumN q (fun j => sgn j * btA F j) ≤ 300000 := fun q hq => by
  have h1 := sumN_bd (g := fun j => sgn j * btA F j) (b := 30000) (by omega) (n := q) fun i hi => by
   have h2 := hbd i
   rcases (show sgn i = 1 ∨ sgn i = -1 by unfold sgn; split <;> simp) with e | e <;> rw [e] <;> omega
  omega
 refine Ops.mv_tup rfl rfl rfl (Ops.extract rfl rfl rfl (Ops.extract rfl rfl rfl (Ops.mi rfl rfl rfl (Ops.mi rfl rfl rfl (Ops.n (tQ (Cd.seq (Cd.region (Ops.mi rfl rfl rfl ?_)))))))))
 refine Ops.n (tQ (Cd.seq (Cd.seq (Cd.region (Ops.mi rfl rfl rfl (Ops.n (tQ (Cd.block ?_))))))))
 refine Cd.loop (α := Nat) (fun k => [(3, .pointer A3), (4, .slice A4 (btV V F).length c4), (8, .int .i64 (altS ((fvP F).drop 1))), (9, .int .i64 0), (10, .int .i64 (sumN k fun j => sgn j * btA F j)), (11, .int .i64 (k : Int))]) (fun k w' => k ≤ dpt F ∧ w' = w8) (fun k => dpt F - k) 0 ⟨rfl, rfl, rfl, rfl, rfl, rfl, trivial⟩ ⟨Nat.zero_le _, rfl⟩ ?_
 rintro k e w9 ⟨hk, rfl⟩
 have hb0 := hsb k hk
 refine Cd.seq (Cd.seq (Cd.region (Ops.mi rfl rfl rfl (Ops.ms rfl rfl rfl (Ops.len rfl rfl (Ops.lss rfl rfl rfl (Ops.n (tQ ?_))))))))
 refine Cd.cond_p _ rfl (fun h5 => ?_) (fun h5 => ?_)
 ·rw [hbl] at h5
  have hkd : k < dpt F := by omega
  have hb1 := hsb (k + 1) (by omega)
  have hbk := hbd k
  have hgk := btP_at hkd
  have hstep : (sumN (k + 1) fun j => sgn j * btA F j) = (sumN k fun j => sgn j * btA F j) + gi (btP F) (k : Int) * (1 - 2 * ((k : Int) % 2)) := by
   show sumN k _ + sgn k * btA F k = _
   rw [hgk, sgn_int, Int.mul_comm]
  have hmb : -30000 ≤ gi (btP F) (k : Int) * (1 - 2 * ((k : Int) % 2)) ∧ gi (btP F) (k : Int) * (1 - 2 * ((k : Int) % 2)) ≤ 30000 := by
   rw [hgk]
   rcases (show 1 - 2 * ((k : Int) % 2) = 1 ∨ 1 - 2 * ((k : Int) % 2) = -1 by omega) with e | e <;> rw [e] <;> omega
  refine Cd.skip (tQ (Cd.seq (Cd.block (Cd.seq (Cd.seq (Cd.region (Ops.ms rfl rfl rfl (Ops.mi rfl rfl rfl (Ops.idx hL.2 rfl rfl rfl (by omega) (by omega) ?_)))))))))
  refine Ops.ld_int hL rfl (by omega) rfl rfl (Ops.lss rfl rfl rfl (Ops.n (tQ ?_)))
  refine Cd.cond_pf rfl (by rw [hgk]; omega) ?_
  refine Cd.skip (tQ (Cd.region (Ops.mi rfl rfl rfl (Ops.ms rfl rfl rfl (Ops.mi rfl rfl rfl (Ops.idx hL.2 rfl rfl rfl (by omega) (by omega) (Ops.ld_int hL rfl (by omega) rfl rfl (Ops.mi rfl rfl rfl (Ops.rem rfl rfl rfl (by omega) ?_)))))))))
  refine Ops.mul rfl rfl rfl (by omega) (Ops.sub rfl rfl rfl (by omega) (Ops.mul rfl rfl rfl (by omega) (Ops.add rfl rfl rfl (by omega) (Ops.mi rfl rfl rfl (Ops.n (blockQ_n (tQ (Cd.region (Ops.mi rfl rfl rfl ?_)))))))))
  refine Ops.add rfl rfl rfl (by omega) (Ops.mi rfl rfl rfl (Ops.n (tQ ?_)))
  exact ⟨k + 1, by show dpt F - (k + 1) < dpt F - k; omega, ⟨rfl, rfl, rfl, rfl, by show Value.int .i64 _ = .int .i64 _; rw [hstep], rfl, trivial⟩, by omega, rfl⟩
 rw [hbl] at h5
 have hkd : k = dpt F := by omega
 have halt : (sumN k fun j => sgn j * btA F j) = altS ((fvP F).drop 1) := by rw [hkd]; exact bt_alt F
 refine Cd.exit (thenQ_x (thenQ_x (blockQ_x (tQ (Cd.seq (Cd.seq (Cd.region (Ops.mi rfl rfl rfl (Ops.neq rfl rfl rfl ?_)))))))))
 refine Ops.mb rfl rfl rfl ?_
 refine Ops.split_p 86 rfl (fun h => absurd rfl h) (fun _ => ?_) --f
 refine Ops.g rfl rfl rfl (Ops.mi rfl rfl rfl (Ops.g rfl rfl rfl (Ops.mi rfl rfl rfl (Ops.g rfl rfl rfl (Ops.neq rfl rfl rfl (Ops.pick_f rfl rfl rfl (Ops.n (tQ ?_))))))))
 refine Cd.cond_pf rfl (fun h => h halt) ?_
 clear halt hsb hb0 h5
 refine Cd.skip (tQ (Cd.seq (Cd.region (Ops.ld_agg 1 h3 rfl rfl rfl (Ops.call (implBoundaryOf_c V A n c rs F _ hT hX (by omega)) rfl rfl rfl ?_)))))
 rintro _ w10 ⟨A12, c12, rs12, rfl, hrl12, hst⟩
 have hE : RowsI w10 A12 (bdL V F).length rs12 (bdL V F) := St.rowsI hst rfl
 have hb := hst.below
 have hW := hW.later hb; have hT := hT.later hb; have hX := hX.later hb; have h3 := Rd.below h3 hb; have hL := hL.later hb
 clear hst
 refine Ops.mv_tup rfl rfl rfl (Ops.extract rfl rfl rfl (Ops.extract rfl rfl rfl (Ops.new2 (St.refl w10) rfl ?_)))
 intro A13 w11 hU
 refine Ops.st_agg 2 0 hU rfl rfl rfl rfl rfl rfl rfl ?_
 intro w12 hU
 have hb := hU.below
 have h12 : Rd w12 A13 2 (fun j => [Value.int .i64 (bdV V F), .slice A12 (bdL V F).length c12].getD j undef) := hU.rd 0 rfl
 have hE := hE.later hb
 have hW := hW.later hb; have hT := hT.later hb; have hX := hX.later hb; have h3 := Rd.below h3 hb; have hL := hL.later hb
 clear hU
 refine Ops.mi rfl rfl rfl (Ops.n (tQ (Cd.seq (Cd.seq (Cd.region (Ops.ld_agg 1 h3 rfl rfl rfl (Ops.call (specBoundaryOf_c V A n c rs F w12 hX (by omega)) rfl rfl rfl ?_)))))))
 rintro _ w13 ⟨A14, c14, rs14, rfl, hrl14, hst⟩
 have hE2 : RowsI w13 A14 (bdL V F).length rs14 (bdL V F) := St.rowsI hst rfl
 have hb := hst.below
 have hW := hW.later hb; have hT := hT.later hb; have hX := hX.later hb; have h3 := Rd.below h3 hb; have hL := hL.later hb; have hE := hE.later hb; have h12 := Rd.below h12 hb
 clear hst
 refine Ops.mv_tup rfl rfl rfl (Ops.extract rfl rfl rfl (Ops.extract rfl rfl rfl (Ops.new2 (St.refl w13) rfl ?_)))
 intro A15 w14 hU
 refine Ops.st_agg 2 0 hU rfl rfl rfl rfl rfl rfl rfl ?_
 intro w15 hU
 have hb := hU.below
 have h14 : Rd w15 A15 2 (fun j => [Value.int .i64 (bdV V F), .slice A14 (bdL V F).length c14].getD j undef) := hU.rd 0 rfl
 have hE2 := hE2.later hb
 have hW := hW.later hb; have hT := hT.later hb; have hX := hX.later hb; have h3 := Rd.below h3 hb; have hL := hL.later hb; have hE := hE.later hb; have h12 := Rd.below h12 hb
 clear hU
 have hlb : (bdL V F).length ≤ 1000 ∧ ∀ x ∈ bdL V F, x.length ≤ 1000 := by
  unfold bdL
  split
  ·exact jnLs_bd_cx _
  ·simp
 refine Ops.mi rfl rfl rfl (Ops.n (tQ (Cd.seq (Cd.region (Ops.mi rfl rfl rfl (Ops.mi rfl rfl rfl (Ops.neq rfl rfl rfl (Ops.mb rfl rfl rfl ?_))))))))
 refine Ops.split_p 104 rfl (fun h => absurd rfl h) (fun _ => ?_) --f
 refine Ops.g rfl rfl rfl (Ops.ld_agg 1 h12 rfl rfl rfl (Ops.g rfl rfl rfl (Ops.ld_agg 1 h14 rfl rfl rfl (Ops.g rfl rfl rfl ?_))))
 refine Ops.call (likeComplex9_c _ A12 _ c12 rs12 (bdL V F) _ A14 _ c14 rs14 (bdL V F) w15 hE hE2 (by omega) (fun f hf => by have := hlb.2 f hf; omega)) rfl rfl rfl ?_
 rintro _ w16 ⟨rfl, hst⟩
 have hb := hst.below
 have hW := hW.later hb; have hT := hT.later hb; have hX := hX.later hb; have h3 := Rd.below h3 hb; have hL := hL.later hb; have hE := hE.later hb; have h12 := Rd.below h12 hb
 clear hst hE2 h14
 refine Ops.g rfl rfl rfl ?_
 first | refine Ops.not_p rfl rfl ?_ | refine Ops.not rfl rfl ?_
 refine Ops.pick_f rfl rfl rfl (Ops.n (tQ ?_))
 refine Cd.cond_pf rfl (fun h => h ⟨rfl, rfl⟩) ?_
 refine Cd.skip (tQ ?_)
 refine Cd.join (α := Unit) (fun _ => [(3, .pointer A3), (4, .slice A4 (btV V F).length c4)]) (fun _ w' => St w16 w' []) ?_ ?_
 ·refine Cd.seq (Cd.region (Ops.mi rfl rfl rfl (Ops.eql rfl rfl rfl (Ops.n (tQ ?_)))))
  refine Cd.cond_p _ rfl (fun h6 => ?_) (fun h6 => ?_)
  ·have hP : Pure F := Classical.byContradiction fun h => by unfold bdK at h6; rw [if_pos hC, if_neg h] at h6; cases h6
   have hX6 : ¬ CxBad (bdS F) := fun h => by unfold bdK at h6; rw [if_pos hC, if_pos hP] at h6; unfold cxK at h6; rw [if_pos h] at h6; cases h6
   have hsB : ∀ l ∈ bdS F, SA l := bdS_sa fun f hf => (hC.row f hf).2.1
   have eL : bdL V F = cxL (bdS F) := by unfold bdL; rw [if_pos ⟨hC, hP⟩]
   have eV : bdV V F = cxV (bdS F) := by unfold bdV; rw [if_pos ⟨hC, hP⟩]
   have hCE : Cplx (bdV V F) (bdL V F) := by rw [eL, eV]; exact cx_cplx hsB hX6
   obtain ⟨hPE, hbe⟩ := bd_cx hC hP hX6
   rw [← eL] at hPE hbe
   have h9 : ∀ V' F', bdS F' = [] → bdL V' F' = [] := fun V' F' h => by unfold bdL; rw [h, cxL_nil']; split <;> rfl
   have eL2 : bdL (bdV V F) (bdL V F) = [] := h9 _ _ hbe
   have eK2 : bdK (bdV V F) (bdL V F) = 0 := by
    have : bdK (bdV V F) (bdL V F) = cxK (bdS (bdL V F)) := by rw [bdK, if_pos hCE, if_pos hPE]
    rw [this, hbe, cxK_nil']
   refine Cd.seq (Cd.region (Ops.ld_agg 1 h12 rfl rfl rfl (Ops.call (implBoundaryOf_c (bdV V F) A12 _ c12 rs12 (bdL V F) w16 hT hE (by omega)) rfl rfl rfl ?_)))
   rw [eL2, eK2]
   rintro _ w17 ⟨A16, c16, rs16, rfl, hrl16, hst⟩
   refine Ops.mv_tup rfl rfl rfl (Ops.extract rfl rfl rfl (Ops.extract rfl rfl rfl (Ops.new2 hst.none rfl ?_)))
   intro A17 w18 hU
   refine Ops.st_agg 2 0 hU rfl rfl rfl rfl rfl rfl rfl ?_
   intro w19 hU
   have h16 : Rd w19 A17 2 (fun j => [Value.int .i64 (bdV (bdV V F) (bdL V F)), .slice A16 ([] : List (List Int)).length c16].getD j undef) := hU.rd 0 rfl
   refine Ops.mi rfl rfl rfl (Ops.n (tQ (Cd.seq (Cd.region (Ops.mi rfl rfl rfl (Ops.neq rfl rfl rfl (Ops.mb rfl rfl rfl ?_)))))))
   refine Ops.split_p 119 rfl (fun h => absurd rfl h) (fun _ => ?_) --f
   refine Ops.g rfl rfl rfl (Ops.fld h16 rfl rfl rfl rfl inferInstance (Ops.g rfl rfl rfl (Ops.ldf_s h16 rfl rfl rfl rfl rfl (Ops.g rfl rfl rfl (Ops.len rfl rfl (Ops.g rfl rfl rfl (Ops.neq rfl rfl rfl (Ops.pick_f rfl rfl rfl (Ops.n ?_)))))))))
   refine tQ ?_
   refine Cd.cond_pf rfl (fun h => h rfl) ?_
   refine Cd.skip (tQ ?_)
   exact ⟨(), ⟨rfl, rfl, trivial⟩, hU.none⟩
  ·refine Cd.skip (tQ ?_)
   exact ⟨(), ⟨rfl, rfl, trivial⟩, St.refl _⟩
 rintro _ e w17 hst
 have hb := hst.below
 have hW := hW.later hb; have hT := hT.later hb; have hX := hX.later hb; have h3 := Rd.below h3 hb; have hL := hL.later hb
 clear hst hE h12
 refine Cd.seq (Cd.seq (Cd.region (Ops.fld h3 rfl rfl rfl rfl inferInstance (Ops.ldf_s h3 rfl rfl rfl rfl rfl (Ops.len rfl rfl (Ops.eql rfl rfl rfl (Ops.n (tQ ?_))))))))
 refine Cd.cond_p _ rfl (fun h5 => ?_) (fun h5 => ?_)
 ·have hF0 : F = [] := List.eq_nil_of_length_eq_zero (by omega)
  have e1 : btV V F = [] := by rw [eB, hF0]; rfl
  refine Cd.seq (Cd.region (Ops.ms rfl rfl rfl (Ops.len rfl rfl (Ops.eql rfl rfl rfl (Ops.mb rfl rfl rfl (Ops.n (tQ (Cd.ret (thenQ_r ?_)))))))))
  refine ret1_b rfl ?_
  exact ⟨by rw [e1]; rfl, hW⟩
 have hne : F ≠ [] := fun h => by rw [h] at hFl; simp at hFl; omega
 have eSV : suV V F = jnV V F [[0], [1]] := by unfold suV; rw [if_pos hC]
 have eSL : suL V F = jnLs V F [[0], [1]] := by unfold suL; rw [if_pos hC]
 have eSK : suK V F = jnK V F [[0], [1]] := by unfold suK; rw [if_pos hC]
 have one_pt : Cplx 1 [[0]] := by decide
 have eQV : jcV V F 1 [[0]] = jnV V F [[0]] := by unfold jcV; rw [if_pos ⟨hC, one_pt⟩]
 have eQL : jcL V F 1 [[0]] = jnLs V F [[0]] := by unfold jcL; rw [if_pos ⟨hC, one_pt⟩]
 have eQK : jcK V F 1 [[0]] = jnK V F [[0]] := by unfold jcK; rw [if_pos ⟨hC, one_pt⟩]
 refine Cd.skip (tQ (Cd.seq (Cd.region (Ops.ld_agg 1 h3 rfl rfl rfl (Ops.call (implSusp_c V A n c rs F w17 hT hX (by omega)) rfl rfl rfl ?_)))))
 rintro _ w18 ⟨A18, c18, rs18, rfl, hrl18, hst⟩
 have hS : RowsI w18 A18 (suL V F).length rs18 (suL V F) := St.rowsI hst rfl
 have hb := hst.below
 have hW := hW.later hb; have hT := hT.later hb; have hX := hX.later hb; have h3 := Rd.below h3 hb; have hL := hL.later hb
 clear hst
 refine Ops.mv_tup rfl rfl rfl (Ops.extract rfl rfl rfl (Ops.extract rfl rfl rfl (Ops.new2 (St.refl w18) rfl ?_)))
 intro A19 w19 hU
 refine Ops.st_agg 2 0 hU rfl rfl rfl rfl rfl rfl rfl ?_
 intro w20 hU
 have hb := hU.below
 have h18 : Rd w20 A19 2 (fun j => [Value.int .i64 (suV V F), .slice A18 (suL V F).length c18].getD j undef) := hU.rd 0 rfl
 have hS := hS.later hb
 have hW := hW.later hb; have hT := hT.later hb; have hX := hX.later hb; have h3 := Rd.below h3 hb; have hL := hL.later hb
 clear hU
 refine Ops.mi rfl rfl rfl (Ops.n (tQ (Cd.seq (Cd.region (Ops.ld_agg 1 h3 rfl rfl rfl (Ops.bs1I (St.refl w20) rfl rfl rfl ?_))))))
 intro A21 w21 hU
 refine Ops.bs1 hU rfl rfl rfl rfl ?_
 intro A22 w22 hU
 have hU : St w20 w22 (mat 28 2 A22 1 1 [⟨A21, 1, 1⟩] [[0]] ++ []) := hU
 have hb := hU.below
 have hG : RowsI w22 A22 1 [⟨A21, 1, 1⟩] [[0]] := St.rowsI hU rfl
 have hW := hW.later hb; have hT := hT.later hb; have hX := hX.later hb; have h3 := Rd.below h3 hb; have hL := hL.later hb; have hS := hS.later hb; have h18 := Rd.below h18 hb
 clear hU
 refine Ops.bld2c (by exact inferInstance) (by exact inferInstance) rfl rfl rfl rfl rfl rfl rfl (Ops.call (implJoin_c V A n c rs F 1 A22 1 1 [⟨A21, 1, 1⟩] [[0]] w22 hT hX hG (by omega) (by omega)) rfl rfl rfl ?_)
 rintro _ w23 ⟨A20, c20, rs20, rfl, hrl20, hst⟩
 have hQ : RowsI w23 A20 (jcL V F 1 [[0]]).length rs20 (jcL V F 1 [[0]]) := St.rowsI hst rfl
 have hb := hst.below
 have hW := hW.later hb; have hT := hT.later hb; have hX := hX.later hb; have h3 := Rd.below h3 hb; have hL := hL.later hb; have hS := hS.later hb; have h18 := Rd.below h18 hb
 clear hst hG
 refine Ops.mv_tup rfl rfl rfl (Ops.extract rfl rfl rfl (Ops.extract rfl rfl rfl (Ops.new2 (St.refl w23) rfl ?_)))
 intro A23 w24 hU
 refine Ops.st_agg 2 0 hU rfl rfl rfl rfl rfl rfl rfl ?_
 intro w25 hU
 have hb := hU.below
 have h20 : Rd w25 A23 2 (fun j => [Value.int .i64 (jcV V F 1 [[0]]), .slice A20 (jcL V F 1 [[0]]).length c20].getD j undef) := hU.rd 0 rfl
 have hQ := hQ.later hb
 have hW := hW.later hb; have hT := hT.later hb; have hX := hX.later hb; have h3 := Rd.below h3 hb; have hL := hL.later hb; have hS := hS.later hb; have h18 := Rd.below h18 hb
 clear hU
 refine Ops.mi rfl rfl rfl (Ops.n (tQ (Cd.seq (Cd.seq (Cd.region (Ops.ld_agg 1 h3 rfl rfl rfl (Ops.call (specSusp_c V A n c rs F w25 hX (by omega)) rfl rfl rfl ?_)))))))
 rintro _ w26 ⟨A24, c24, rs24, rfl, hrl24, hst⟩
 have hb := hst.below
 have hW := hW.later hb; have hT := hT.later hb; have hX := hX.later hb; have h3 := Rd.below h3 hb; have hL := hL.later hb; have hS := hS.later hb; have h18 := Rd.below h18 hb; have hQ := hQ.later hb; have h20 := Rd.below h20 hb
 clear hst
 refine Ops.mv_tup rfl rfl rfl (Ops.extract rfl rfl rfl (Ops.extract rfl rfl rfl (Ops.new2 (St.refl w26) rfl ?_)))
 intro A25 w27 hU
 refine Ops.st_agg 2 0 hU rfl rfl rfl rfl rfl rfl rfl ?_
 intro w28 hU
 have hb := hU.below
 have hW := hW.later hb; have hT := hT.later hb; have hX := hX.later hb; have h3 := Rd.below h3 hb; have hL := hL.later hb; have hS := hS.later hb; have h18 := Rd.below h18 hb; have hQ := hQ.later hb; have h20 := Rd.below h20 hb
 clear hU
 refine Ops.mi rfl rfl rfl (Ops.n (tQ (Cd.seq (Cd.region (Ops.mi rfl rfl rfl (Ops.mi rfl rfl rfl (Ops.neq rfl rfl rfl (Ops.n (tQ ?_)))))))))
 refine Cd.cond_pf rfl (fun h => h rfl) ?_
 have hsk := suK_cases' V F hC
 refine Cd.skip (tQ (Cd.seq (Cd.seq (Cd.region (Ops.mi rfl rfl rfl (Ops.neq rfl rfl rfl (Ops.mb rfl rfl rfl ?_)))))))
 refine Ops.split_p 155 rfl (fun h6 => ?_) (fun h6 => ?_)
 ·refine Ops.k rfl rfl rfl rfl rfl (Ops.k rfl rfl rfl rfl rfl (Ops.pick_t rfl rfl rfl (Ops.n (tQ (Cd.cond_t rfl (Cd.seq (Cd.region (Ops.mi rfl rfl rfl (Ops.eql rfl rfl rfl ?_)))))))))
  refine Ops.mb rfl rfl rfl (Ops.n (tQ (Cd.ret (thenQ_r (ret1_b rfl ?_)))))
  exact ⟨by rw [decide_eq_true (hsk.resolve_left h6)], hW⟩
 have h6 := Classical.not_not.1 h6
 have h6j : jnK V F [[0], [1]] = 0 := by rw [← eSK]; exact h6
 have h7j := cone_fits hne h6j
 have h7 : jcK V F 1 [[0]] = 0 := by rw [eQK]; exact h7j
 refine Ops.g rfl rfl rfl (Ops.mi rfl rfl rfl (Ops.g rfl rfl rfl (Ops.neq rfl rfl rfl (Ops.pick_f rfl rfl rfl (Ops.n (tQ ?_))))))
 refine Cd.cond_pf rfl (fun h => h h7) ?_
 have hCS : Cplx (suV V F) (suL V F) := by rw [eSV, eSL]; exact jn_cplx hC two_pts
 have hCQ : Cplx (jcV V F 1 [[0]]) (jcL V F 1 [[0]]) := by rw [eQV, eQL]; exact jn_cplx hC one_pt
 obtain ⟨s1, s2, s3, s4⟩ := susp_law hne hC h6j
 obtain ⟨q1, q2, q3⟩ := cone_law hne hC h7j
 rw [← eSL] at s1 s2 s3 s4
 rw [← eQL] at q1 q2 q3
 have hd0 := (nf_one_pos hne hC).2
 have hsl : (suL V F).length ≤ 1000 := by rw [eSL]; exact (jnLs_bd V F _).1
 have hql : (jcL V F 1 [[0]]).length ≤ 1000 := by rw [eQL]; exact (jnLs_bd V F _).1
 refine Cd.skip (tQ (Cd.seq (Cd.region (Ops.ld_agg 1 h18 rfl rfl rfl (Ops.call (ComplexBetti_c (suV V F) A18 _ c18 rs18 (suL V F) w28 hT hS (by omega)) rfl rfl rfl ?_)))))
 have eU : btV (suV V F) (suL V F) = btP (suL V F) := by unfold btV; rw [if_pos hCS]
 have eUK : hvK (suV V F) (suL V F) = 0 := by unfold hvK; rw [if_pos hCS]
 have eZ : btV (jcV V F 1 [[0]]) (jcL V F 1 [[0]]) = btP (jcL V F 1 [[0]]) := by unfold btV; rw [if_pos hCQ]
 have eZK : hvK (jcV V F 1 [[0]]) (jcL V F 1 [[0]]) = 0 := by unfold hvK; rw [if_pos hCQ]
 have hul : (btP (suL V F)).length = dpt F + 1 := by unfold btP; rw [btG_len, s1]
 have hzl : (btP (jcL V F 1 [[0]])).length = dpt F + 1 := by unfold btP; rw [btG_len, q1]
 rw [eU, eUK]
 rintro _ w29 ⟨A26, c26, rfl, hst⟩
 have hUp : RdI w29 A26 (btP (suL V F)).length (btP (suL V F)) := hst.rdI 0 rfl
 have hb := hst.below
 have hW := hW.later hb; have hT := hT.later hb; have hX := hX.later hb; have h3 := Rd.below h3 hb; have hL := hL.later hb; have hS := hS.later hb; have h18 := Rd.below h18 hb; have hQ := hQ.later hb; have h20 := Rd.below h20 hb
 clear hst
 refine Ops.mv_tup rfl rfl rfl (Ops.extract rfl rfl rfl (Ops.extract rfl rfl rfl (Ops.ms rfl rfl rfl (Ops.mi rfl rfl rfl (Ops.n (tQ (Cd.seq (Cd.region (Ops.ld_agg 1 h20 rfl rfl rfl ?_)))))))))
 refine Ops.call (ComplexBetti_c (jcV V F 1 [[0]]) A20 _ c20 rs20 (jcL V F 1 [[0]]) w29 hT hQ (by omega)) rfl rfl rfl ?_
 rw [eZ, eZK]
 rintro _ w30 ⟨A27, c27, rfl, hst⟩
 have hFl2 : RdI w30 A27 (btP (jcL V F 1 [[0]])).length (btP (jcL V F 1 [[0]])) := hst.rdI 0 rfl
 have hb := hst.below
 have hUp := hUp.later hb
 have hW := hW.later hb; have hT := hT.later hb; have hX := hX.later hb; have h3 := Rd.below h3 hb; have hL := hL.later hb; have hS := hS.later hb; have h18 := Rd.below h18 hb; have hQ := hQ.later hb; have h20 := Rd.below h20 hb
 clear hst hS hQ h18 h20
 have u0 : gi (btP (suL V F)) 0 = 1 := by have := btP_at (F := suL V F) (k := 0) (by omega); rw [s2] at this; exact this
 have u1 : gi (btP (suL V F)) 1 = gi (btP F) 0 - 1 := by
  have h8 := btP_at (F := suL V F) (k := 1) (by omega)
  have h9 := btP_at (F := F) (k := 0) (by omega)
  rw [s3, ← h9] at h8; exact h8
 have z0 : gi (btP (jcL V F 1 [[0]])) 0 = 1 := by have := btP_at (F := jcL V F 1 [[0]]) (k := 0) (by omega); rw [q2] at this; exact this
 have zs : (sumN (dpt F + 1) fun i => gi (btP (jcL V F 1 [[0]])) (i : Int)) = 1 := by
  have key : ∀ k, k ≤ dpt F → (sumN (k + 1) fun i => gi (btP (jcL V F 1 [[0]])) (i : Int)) = 1 := by
   intro k
   induction k with
   | zero =>
    intro _
    have e9 : (sumN (0 + 1) fun i => gi (btP (jcL V F 1 [[0]])) (i : Int)) = 0 + gi (btP (jcL V F 1 [[0]])) 0 := rfl
    rw [e9, z0]; rfl
   | succ k ih =>
    intro hk
    have e9 : (sumN (k + 1 + 1) fun i => gi (btP (jcL V F 1 [[0]])) (i : Int)) = (sumN (k + 1) fun i => gi (btP (jcL V F 1 [[0]])) (i : Int)) + gi (btP (jcL V F 1 [[0]])) ((k + 1 : Nat) : Int) := rfl
    rw [e9, ih (by omega), btP_at (by omega), q3 k]; rfl
  exact key _ (Nat.le_refl _)
 have b0 := hbd 0
 have g0 := btP_at (F := F) (k := 0) (by omega)
 have g0 : gi (btP F) 0 = btA F 0 := g0
 refine Ops.mv_tup rfl rfl rfl (Ops.extract rfl rfl rfl (Ops.extract rfl rfl rfl (Ops.ms rfl rfl rfl (Ops.mi rfl rfl rfl (Ops.n (tQ (Cd.seq (Cd.seq ?_))))))))
 refine Cd.draw [.ex (.int .i64 ((0 : Int))), .ex (.bool (false)), .ex (.bool (false)), .ex (.int .i64 ((0 : Int))), .ex (.bool (false)), .ex (.bool (false)), .ex (.bool (false)), .ex (.slice (A26) ((btP (suL V F)).length) (c26)), .ex (.int .i64 ((((btP (suL V F)).length : Nat) : Int))), .ex (.slice (A4) ((btV V F).length) (c4)), .ex (.int .i64 ((((btV V F).length : Nat) : Int))), .ex (.int .i64 (((((btV V F).length : Nat) : Int)) + ((1 : Int)))), .ex (.bool (false)), .ex (.bool (false)), .ex (.bool (false)), .ex (.slice (A27) ((btP (jcL V F 1 [[0]])).length) (c27)), .ex (.int .i64 ((((btP (jcL V F 1 [[0]])).length : Nat) : Int))), .ex (.bool (false)), .ex (.bool (false)), .ex (.bool (false)), .ex (.slice (A26) ((btP (suL V F)).length) (c26)), .ex (.pointer (ptrAt (A26) ((0 : Int)).toNat)), .ex (.int .i64 (gi (btP (suL V F)) ((0 : Int)))), .ex (.bool (false)), .ex (.bool (false)), .ex (.bool (false)), .ex (.slice (A26) ((btP (suL V F)).length) (c26)), .ex (.pointer (ptrAt (A26) ((1 : Int)).toNat)), .ex (.int .i64 (gi (btP (suL V F)) ((1 : Int)))), .ex (.slice (A4) ((btV V F).length) (c4)), .ex (.pointer (ptrAt (A4) ((0 : Int)).toNat)), .ex (.int .i64 (gi (btP F) ((0 : Int)))), .ex (.int .i64 ((gi (btP F) ((0 : Int))) - ((1 : Int)))), .ex (.bool (false)), .ex (.bool (false)), .ex (.bool (false)), .ex (.slice (A27) ((btP (jcL V F 1 [[0]])).length) (c27)), .ex (.pointer (ptrAt (A27) ((0 : Int)).toNat)), .ex (.int .i64 (gi (btP (jcL V F 1 [[0]])) ((0 : Int)))), .ex (.bool (false)), .ex (.bool (false)), .ex (.bool (false)), .ex (.slice (A27) ((btP (jcL V F 1 [[0]])).length) (c27)), .ex (.int .i64 (sumN (btP (jcL V F 1 [[0]])).length (fun i => gi (btP (jcL V F 1 [[0]])) (i : Int)))), .ex (.bool (false)), .ex (.bool (false))] (by kernel_rfl) (by kernel_rfl) rfl (lx (lx (lx (lx (lx (lx (lx (lx (lx (lx (lx (lx (lx (lx (lx (lx (lx (lx (lx (lx (lx (lx (lx (lx (lx (lx (lx (lx (lx (lx (lx (lx (lx (lx (lx (lx (lx (lx (lx (lx (lx (lx (lx (lx (lx (lx (fun _ h => by cases h))))))))))))))))))))))))))))))))))))))))))))))) ⟨?_, ?_, ?_, ?_, ?_, ?_, ?_, ?_, ?_, ?_, ?_, ?_, ?_, ?_, ?_, ?_, ?_, ?_, ?_, ?_, ?_, ?_, ?_, ?_, ?_, ?_, ?_, ?_, ?_, ?_, ?_, ?_, ?_, ?_, ?_, ?_, ?_, ?_, ?_, ?_, ?_, ?_, ?_, ?_, ?_, ?_, trivial⟩ ?_
 ·intro e1 w1 hb hp hun; refine Ops.mi rfl rfl rfl (Ops.n (d0 (by exact rfl)))
 ·intro e1 w1 hb hp hun; refine Ops.neq rfl rfl rfl (Ops.n ?_)
  exact d0 (by exact congrArg Value.bool (decide_eq_false (fun h => h rfl)))
 ·intro e1 w1 hb hp hun; refine Ops.mb rfl rfl rfl (Ops.n (d0 (by exact rfl)))
 ·intro e1 w1 hb hp hun; refine Ops.g rfl rfl rfl (Ops.mi rfl rfl rfl (Ops.n (d0 (by exact rfl))))
 ·intro e1 w1 hb hp hun; refine Ops.g rfl rfl rfl (Ops.neq rfl rfl rfl (Ops.n ?_))
  exact d0 (by exact congrArg Value.bool (decide_eq_false (fun h => h rfl)))
 ·intro e1 w1 hb hp hun; refine Ops.pick_f rfl rfl rfl (Ops.n (d0 (by exact rfl)))
 ·intro e1 w1 hb hp hun; refine Ops.mb rfl rfl rfl (Ops.n (d0 (by exact rfl)))
 ·intro e1 w1 hb hp hun; refine Ops.g rfl rfl rfl (Ops.ms rfl rfl rfl (Ops.n (d0 (by exact rfl))))
 ·intro e1 w1 hb hp hun; refine Ops.g rfl rfl rfl (Ops.len rfl rfl (Ops.n (d0 (by exact rfl))))
 ·intro e1 w1 hb hp hun; refine Ops.g rfl rfl rfl (Ops.ms rfl rfl rfl (Ops.n (d0 (by exact rfl))))
 ·intro e1 w1 hb hp hun; refine Ops.g rfl rfl rfl (Ops.len rfl rfl (Ops.n (d0 (by exact rfl))))
 ·intro e1 w1 hb hp hun; refine Ops.g rfl rfl rfl (Ops.add rfl rfl rfl (by omega) (Ops.n (d0 (by exact rfl))))
 ·intro e1 w1 hb hp hun; refine Ops.g rfl rfl rfl (Ops.neq rfl rfl rfl (Ops.n ?_))
  exact d0 (by exact congrArg Value.bool (decide_eq_false (fun h => h (by rw [hbl, hul]; rfl))))
 ·intro e1 w1 hb hp hun; refine Ops.pick_f rfl rfl rfl (Ops.n (d0 (by exact rfl)))
 ·intro e1 w1 hb hp hun; refine Ops.mb rfl rfl rfl (Ops.n (d0 (by exact rfl)))
 ·intro e1 w1 hb hp hun; refine Ops.g rfl rfl rfl (Ops.ms rfl rfl rfl (Ops.n (d0 (by exact rfl))))
 ·intro e1 w1 hb hp hun; refine Ops.g rfl rfl rfl (Ops.len rfl rfl (Ops.n (d0 (by exact rfl))))
 ·intro e1 w1 hb hp hun; refine Ops.g rfl rfl rfl (Ops.eql rfl rfl rfl (Ops.n ?_))
  exact d0 (by exact congrArg Value.bool (decide_eq_false (fun h => by omega)))
 ·intro e1 w1 hb hp hun; refine Ops.pick_f rfl rfl rfl (Ops.n (d0 (by exact rfl)))
 ·intro e1 w1 hb hp hun; refine Ops.mb rfl rfl rfl (Ops.n (d0 (by exact rfl)))
 ·intro e1 w1 hb hp hun; refine Ops.g rfl rfl rfl (Ops.ms rfl rfl rfl (Ops.n (d0 (by exact rfl))))
 ·intro e1 w1 hb hp hun; refine Ops.g rfl rfl rfl (Ops.idx (hUp.later hb).2 rfl rfl rfl (by omega) (by omega) (Ops.n (d0 (by exact rfl))))
 ·intro e1 w1 hb hp hun; refine Ops.g rfl rfl rfl (Ops.ld_int (hUp.later hb) rfl (by omega) rfl rfl (Ops.n (d0 (by exact rfl))))
 ·intro e1 w1 hb hp hun; refine Ops.g rfl rfl rfl (Ops.neq rfl rfl rfl (Ops.n ?_))
  exact d0 (by exact congrArg Value.bool (decide_eq_false (fun h => h u0)))
 ·intro e1 w1 hb hp hun; refine Ops.pick_f rfl rfl rfl (Ops.n (d0 (by exact rfl)))
 ·intro e1 w1 hb hp hun; refine Ops.mb rfl rfl rfl (Ops.n (d0 (by exact rfl)))
 ·intro e1 w1 hb hp hun; refine Ops.g rfl rfl rfl (Ops.ms rfl rfl rfl (Ops.n (d0 (by exact rfl))))
 ·intro e1 w1 hb hp hun; refine Ops.g rfl rfl rfl (Ops.idx (hUp.later hb).2 rfl rfl rfl (by omega) (by omega) (Ops.n (d0 (by exact rfl))))
 ·intro e1 w1 hb hp hun; refine Ops.g rfl rfl rfl (Ops.ld_int (hUp.later hb) rfl (by omega) rfl rfl (Ops.n (d0 (by exact rfl))))
 ·intro e1 w1 hb hp hun; refine Ops.g rfl rfl rfl (Ops.ms rfl rfl rfl (Ops.n (d0 (by exact rfl))))
 ·intro e1 w1 hb hp hun; refine Ops.g rfl rfl rfl (Ops.idx (hL.later hb).2 rfl rfl rfl (by omega) (by omega) (Ops.n (d0 (by exact rfl))))
 ·intro e1 w1 hb hp hun; refine Ops.g rfl rfl rfl (Ops.ld_int (hL.later hb) rfl (by omega) rfl rfl (Ops.n (d0 (by exact rfl))))
 ·intro e1 w1 hb hp hun; refine Ops.g rfl rfl rfl (Ops.sub rfl rfl rfl (by omega) (Ops.n (d0 (by exact rfl))))
 ·intro e1 w1 hb hp hun; refine Ops.g rfl rfl rfl (Ops.neq rfl rfl rfl (Ops.n ?_))
  exact d0 (by exact congrArg Value.bool (decide_eq_false (fun h => h u1)))
 ·intro e1 w1 hb hp hun; refine Ops.pick_f rfl rfl rfl (Ops.n (d0 (by exact rfl)))
 ·intro e1 w1 hb hp hun; refine Ops.mb rfl rfl rfl (Ops.n (d0 (by exact rfl)))
 ·intro e1 w1 hb hp hun; refine Ops.g rfl rfl rfl (Ops.ms rfl rfl rfl (Ops.n (d0 (by exact rfl))))
 ·intro e1 w1 hb hp hun; refine Ops.g rfl rfl rfl (Ops.idx (hFl2.later hb).2 rfl rfl rfl (by omega) (by omega) (Ops.n (d0 (by exact rfl))))
 ·intro e1 w1 hb hp hun; refine Ops.g rfl rfl rfl (Ops.ld_int (hFl2.later hb) rfl (by omega) rfl rfl (Ops.n (d0 (by exact rfl))))
 ·intro e1 w1 hb hp hun; refine Ops.g rfl rfl rfl (Ops.neq rfl rfl rfl (Ops.n ?_))
  exact d0 (by exact congrArg Value.bool (decide_eq_false (fun h => h z0)))
 ·intro e1 w1 hb hp hun; refine Ops.pick_f rfl rfl rfl (Ops.n (d0 (by exact rfl)))
 ·intro e1 w1 hb hp hun; refine Ops.mb rfl rfl rfl (Ops.n (d0 (by exact rfl)))
 ·intro e1 w1 hb hp hun; refine Ops.g rfl rfl rfl (Ops.ms rfl rfl rfl (Ops.n (d0 (by exact rfl))))
 ·intro e1 w1 hb hp hun; refine Ops.g rfl rfl rfl ?_
  refine Ops.call (sumq_c A27 (btP (jcL V F 1 [[0]])).length c27 (btP (jcL V F 1 [[0]])) _ (hFl2.later hb) (by omega) (fun i hi => by have := btA_bd hCQ i; rw [btP_at (by omega)]; omega)) rfl rfl rfl ?_
  rintro _ w2 ⟨rfl, hst⟩
  subst hst
  refine Ops.n (d0 (by exact rfl))
 ·intro e1 w1 hb hp hun; refine Ops.g rfl rfl rfl (Ops.neq rfl rfl rfl (Ops.n ?_))
  exact d0 (by exact congrArg Value.bool (decide_eq_false (fun h => h (by rw [hzl]; exact zs))))
 ·intro e1 w1 hb hp hun; refine Ops.pick_f rfl rfl rfl (Ops.n (d0 (by exact rfl)))
 intro u w31 hb _
 have hUp := hUp.later hb
 have hW := hW.later hb; have hT := hT.later hb; have hX := hX.later hb; have h3 := Rd.below h3 hb; have hL := hL.later hb
 refine tQ (Cd.cond_f rfl (Cd.skip (tQ (Cd.seq (Cd.seq (Cd.region (Ops.mi rfl rfl rfl (Ops.n (tQ ?_)))))))))
 refine Cd.block ?_
 refine Cd.loop (α := Nat) (fun k => [(4, .slice A4 (btV V F).length c4), (24, .slice A26 (btP (suL V F)).length c26), (28, .int .i64 ((k + 1 : Nat) : Int))]) (fun k w' => k + 1 ≤ dpt F ∧ St w31 w' []) (fun k => dpt F - k) 0 ⟨rfl, rfl, rfl, trivial⟩ ⟨by omega, St.refl _⟩ ?_
 rintro k e w32 ⟨hk, hst⟩
 have hb := hst.below
 have hUp := hUp.later hb
 have hW := hW.later hb; have hT := hT.later hb; have hX := hX.later hb; have h3 := Rd.below h3 hb; have hL := hL.later hb
 refine Cd.seq (Cd.seq (Cd.region (Ops.mi rfl rfl rfl (Ops.ms rfl rfl rfl (Ops.len rfl rfl (Ops.lss rfl rfl rfl (Ops.n (tQ ?_))))))))
 refine Cd.cond_p _ rfl (fun h5 => ?_) (fun h5 => ?_)
 ·rw [hbl] at h5
  have hkd : k + 1 < dpt F := by omega
  have hu : gi (btP (suL V F)) (((k + 1 : Nat) : Int) + 1) = gi (btP F) ((k + 1 : Nat) : Int) := by
   have h8 := btP_at (F := suL V F) (k := k + 2) (by omega)
   rw [s4, ← btP_at hkd] at h8; exact h8
  refine Cd.skip (tQ (Cd.seq (Cd.block (Cd.seq ?_))))
  refine Cd.draw [.ex (.slice (A26) ((btP (suL V F)).length) (c26)), .ex (.int .i64 (((k + 1 : Nat) : Int))), .ex (.int .i64 ((((k + 1 : Nat) : Int)) + ((1 : Int)))), .ex (.pointer (ptrAt (A26) ((((k + 1 : Nat) : Int)) + ((1 : Int))).toNat)), .ex (.int .i64 (gi (btP (suL V F)) ((((k + 1 : Nat) : Int)) + ((1 : Int))))), .ex (.slice (A4) ((btV V F).length) (c4)), .ex (.int .i64 (((k + 1 : Nat) : Int))), .ex (.pointer (ptrAt (A4) (((k + 1 : Nat) : Int)).toNat)), .ex (.int .i64 (gi (btP F) (((k + 1 : Nat) : Int)))), .ex (.bool (false))] (by kernel_rfl) (by kernel_rfl) rfl (lx (lx (lx (lx (lx (lx (lx (lx (lx (lx (fun _ h => by cases h))))))))))) ⟨?_, ?_, ?_, ?_, ?_, ?_, ?_, ?_, ?_, ?_, trivial⟩ ?_
  ·intro e1 w1 hb hp hun; refine Ops.ms rfl rfl rfl (Ops.n (d0 (by exact rfl)))
  ·intro e1 w1 hb hp hun; refine Ops.mi rfl rfl rfl (Ops.n (d0 (by exact rfl)))
  ·intro e1 w1 hb hp hun; refine Ops.add rfl rfl rfl (by omega) (Ops.n (d0 (by exact rfl)))
  ·intro e1 w1 hb hp hun; refine Ops.idx (hUp.later hb).2 rfl rfl rfl (by omega) (by omega) (Ops.n (d0 (by exact rfl)))
  ·intro e1 w1 hb hp hun; refine Ops.ld_int (hUp.later hb) rfl (by omega) rfl rfl (Ops.n (d0 (by exact rfl)))
  ·intro e1 w1 hb hp hun; refine Ops.ms rfl rfl rfl (Ops.n (d0 (by exact rfl)))
  ·intro e1 w1 hb hp hun; refine Ops.mi rfl rfl rfl (Ops.n (d0 (by exact rfl)))
  ·intro e1 w1 hb hp hun; refine Ops.idx (hL.later hb).2 rfl rfl rfl (by omega) (by omega) (Ops.n (d0 (by exact rfl)))
  ·intro e1 w1 hb hp hun; refine Ops.ld_int (hL.later hb) rfl (by omega) rfl rfl (Ops.n (d0 (by exact rfl)))
  ·intro e1 w1 hb hp hun; refine Ops.neq rfl rfl rfl (Ops.n ?_)
   exact d0 (by exact congrArg Value.bool (decide_eq_false (fun h => h hu)))
  intro u w33 hb _
  refine tQ (Cd.cond_f rfl (Cd.skip (blockQ_n (tQ (Cd.region (Ops.mi rfl rfl rfl (Ops.add rfl rfl rfl (by omega) (Ops.mi rfl rfl rfl (Ops.n ?_)))))))))
  refine tQ ?_
  exact ⟨k + 1, by show dpt F - (k + 1) < dpt F - k; omega, ⟨rfl, rfl, rfl, trivial⟩, by omega, hst.later hb⟩
 refine Cd.exit (thenQ_x (thenQ_x (blockQ_x (tQ (Cd.seq (Cd.region (Ops.mb rfl rfl rfl (Ops.n (tQ ?_)))))))))
 refine Cd.ret (ret1_b rfl ?_)
 exact ⟨rfl, hW⟩
end Go.Proofs.YtiblelgfkakmiaaGreatDoor.Vc
