/-
  The texts Co17, Co21, Co27, Co28, Co29, Co22, Co23, Co30, Co31, Cw1 in one. Conditions: as each part states them.
-/
import Derived.Test.YtdedegbendjmbaaGreatDoorZg
import Derived.Test.YtdedegbendjmbaaGreatDoorZf
import Derived.Test.YtdedegbendjmbaaGreatDoorZe
import Derived.Test.YtdedegbendjmbaaGreatDoorZb
/-
  The link of a face on both sides, walked. Conditions: as each states them.
-/
namespace Go.Proofs.YtdedegbendjmbaaGreatDoor.Vc
open Go.RowKit

def Fce (F : List (List Int)) (face : List Int) : Prop := SA face ∧ (face = [] ∨ ∃ f ∈ F, Ins face f)
instance (F : List (List Int)) (face : List Int) : Decidable (Fce F face) := by unfold Fce; exact inferInstance
def lnkL (F : List (List Int)) (face : List Int) : List (List Int) := (F.filter fun f => decide (Ins face f)).map fun f => lessL f face
def lkV (V : Int) (F : List (List Int)) (face : List Int) : Int := if Cplx V F ∧ Fce F face then cxV (lnkL F face) else 0
def lkL (V : Int) (F : List (List Int)) (face : List Int) : List (List Int) := if Cplx V F ∧ Fce F face then cxL (lnkL F face) else []
def lkK (V : Int) (F : List (List Int)) (face : List Int) : Int := if Cplx V F then (if Fce F face then cxK (lnkL F face) else 2) else 1
theorem lnkL_succ {F : List (List Int)} {face : List Int} {i : Nat} (h : i < F.length) : lnkL (F.take (i + 1)) face = if Ins face (gl F (i : Int)) then lnkL (F.take i) face ++ [lessL (gl F (i : Int)) face] else lnkL (F.take i) face := by
  unfold lnkL
  rw [take_succ_gl h, List.filter_append, List.map_append]
  by_cases e : Ins face (gl F (i : Int)) <;> simp [e]
theorem lessL_SA {l b : List Int} (h : SA l) : SA (lessL l b) := List.Pairwise.filter _ h
theorem lessL_len (l b : List Int) : (lessL l b).length ≤ l.length := List.length_filter_le _ _
theorem lnkL_mem {F : List (List Int)} {face x : List Int} (h : x ∈ lnkL F face) : ∃ f ∈ F, x = lessL f face := by
  obtain ⟨f, hf, rfl⟩ := List.mem_map.1 h
  exact ⟨f, (List.mem_filter.1 hf).1, rfl⟩
theorem lnkL_len (F : List (List Int)) (face : List Int) : (lnkL F face).length ≤ F.length := by
  unfold lnkL; rw [List.length_map]; exact List.length_filter_le _ _
theorem flat_le2 {ss : List (List Int)} {b : Nat} (h : ∀ l ∈ ss, l.length ≤ b) : ss.flatten.length ≤ b * ss.length := by
  induction ss with
  | nil => simp
  | cons a r ih =>
    have h1 := h a (by simp)
    have h2 := ih fun l hl => h l (by simp [hl])
    simp only [List.flatten_cons, List.length_append, List.length_cons, Nat.mul_add, Nat.mul_one]
    omega
theorem Cplx.lnk {V : Int} {F : List (List Int)} (h : Cplx V F) (face : List Int) : (lnkL F face).length ≤ 400 ∧ (∀ l ∈ lnkL F face, SA l ∧ l.length ≤ 6) ∧ (lnkL F face).flatten.length ≤ 2400 := by
  have h1 : (lnkL F face).length ≤ 400 := Nat.le_trans (lnkL_len F face) h.f
  have h2 : ∀ l ∈ lnkL F face, SA l ∧ l.length ≤ 6 := fun l hl => by
    obtain ⟨f, hf, rfl⟩ := lnkL_mem hl
    exact ⟨lessL_SA (h.row f hf).2.1, Nat.le_trans (lessL_len _ _) (h.row f hf).1.2⟩
  refine ⟨h1, h2, ?_⟩
  have := flat_le2 (b := 6) fun l hl => (h2 l hl).2
  omega
theorem map_cs_id {L : List (List Int)} (h : ∀ l ∈ L, SA l) : L.map cs = L := by
  induction L with
  | nil => rfl
  | cons a r ih => rw [List.map_cons, ih fun l hl => h l (by simp [hl]), ← cs_eq (h a (by simp)) fun _ => Iff.rfl]

theorem indexRF_c (A : Option Addr) (n c : Nat) (rs : List SlV) (G : FuncId) [hF : Fnc Tryz.prog G] (cv : List Value) (pd : Nat → Bool) (w : World) (hR : RdR w A n rs) (hn : n ≤ 4000000000000)
    (hcall : ∀ (w' : World) (i : Nat), Below w.heap.size w w' → i < n → Ret Tryz.prog G (.slice (rg rs (i : Int)).a (rg rs (i : Int)).n (rg rs (i : Int)).c :: cv) w' (fun v w'' => v = .bool (pd i) ∧ St w' w'' [])) :
    Ret Tryz.prog 154 [.slice A n c, .func (.func G) #[] cv.toArray] w (fun v w' => (∃ i : Int, v = .int .i64 i ∧ (0 ≤ i ↔ ∃ j, j < n ∧ pd j = true)) ∧ St w w' []) := by
  have hxl := hR.1
  refine Ret.of_cd Tryz.func154 rfl Tryz.ntmps154 rfl (post1 rfl) ?_
  refine Cd.seq ?_
  refine Cd.region ?_
  refine Ops.mv_int rfl rfl rfl ?_
  refine Ops.nil ?_
  refine thenQ_n ?_
  refine Cd.seq ?_
  refine Cd.seq ?_
  refine Cd.region ?_
  refine Ops.mv_sl rfl rfl rfl ?_
  refine Ops.len rfl rfl ?_
  refine Ops.mv_int rfl rfl rfl ?_
  refine Ops.nil ?_
  refine thenQ_n ?_
  refine Cd.block ?_
  refine Cd.loop (α := Nat) (fun k => [(0, .slice A n c), (1, .func (.func G) #[] cv.toArray), (7, .int .i64 (n : Int)), (8, .int .i64 (k : Int))]) (fun k w' => St w w' [] ∧ k ≤ n ∧ ∀ j, j < k → pd j = false) (fun k => n - k) 0 ⟨rfl, rfl, rfl, rfl, trivial⟩ ⟨St.refl w, Nat.zero_le _, fun j hj => by omega⟩ ?_
  rintro k e w1 ⟨hS, hk, hK⟩
  refine Cd.seq ?_
  refine Cd.region ?_
  refine Ops.lss rfl rfl rfl ?_
  refine Ops.nil ?_
  refine thenQ_n ?_
  refine Cd.seq ?_
  refine Cd.cond_p _ rfl (fun h3 => ?_) (fun h3 => ?_)
  · have hR1 := hS.oldR hR
    refine Cd.skip ?_
    refine thenQ_n ?_
    refine Cd.seq ?_
    refine Cd.block ?_
    refine Cd.seq ?_
    refine Cd.region ?_
    refine Ops.mv_int rfl rfl rfl ?_
    refine Ops.mv_int rfl rfl rfl ?_
    refine Ops.nil ?_
    refine thenQ_n ?_
    refine Cd.seq ?_
    refine Cd.region ?_
    refine Ops.mv_fn rfl rfl rfl ?_
    refine Ops.mv_sl rfl rfl rfl ?_
    refine Ops.mv_int rfl rfl rfl ?_
    refine Ops.idx hR1.2 rfl rfl rfl (by omega) (by omega) ?_
    refine Ops.ld_sl hR1 rfl (by omega) rfl rfl ?_
    refine Ops.call (hcall w1 k hS.below (by omega)) rfl rfl rfl ?_
    rintro _ w2 ⟨rfl, hst⟩
    refine Ops.nil ?_
    refine thenQ_n ?_
    refine Cd.cond rfl (fun h4 => ?_) (fun h4 => ?_)
    · refine Cd.seq ?_
      refine Cd.region ?_
      refine Ops.mv_int rfl rfl rfl ?_
      refine Ops.mv_int rfl rfl rfl ?_
      refine Ops.nil ?_
      refine thenQ_n ?_
      refine Cd.ret ?_
      refine blockQ_r ?_
      refine thenQ_r ?_
      refine thenQ_r ?_
      refine blockQ_r ?_
      refine thenQ_r ?_
      refine ret1_i rfl ?_
      exact ⟨⟨(k : Int), rfl, ⟨fun _ => ⟨k, by omega, h4⟩, fun _ => by omega⟩⟩, hS.later hst.below⟩
    · refine Cd.skip ?_
      refine blockQ_n ?_
      refine thenQ_n ?_
      refine Cd.region ?_
      refine Ops.add rfl rfl rfl (by omega) ?_
      refine Ops.mv_int rfl rfl rfl ?_
      refine Ops.nil ?_
      refine thenQ_n ?_
      refine ⟨k + 1, by show n - (k + 1) < n - k; omega, ⟨rfl, rfl, rfl, rfl, trivial⟩, hS.later hst.below, by omega, fun j hj => ?_⟩
      by_cases ej : j = k
      · subst ej; exact h4
      · exact hK j (by omega)
  · refine Cd.exit ?_
    refine thenQ_x ?_
    refine thenQ_x ?_
    refine blockQ_x ?_
    refine thenQ_n ?_
    refine Cd.seq ?_
    refine Cd.region ?_
    refine Ops.mv_int rfl rfl rfl ?_
    refine Ops.nil ?_
    refine thenQ_n ?_
    refine Cd.ret ?_
    refine ret1_i rfl ?_
    refine ⟨⟨-1, rfl, ⟨fun h => absurd h (by decide), fun ⟨j, hj, hp⟩ => ?_⟩⟩, hS⟩
    rw [hK j (by omega)] at hp
    cases hp
theorem containsRF_c (A : Option Addr) (n c : Nat) (rs : List SlV) (G : FuncId) [hF : Fnc Tryz.prog G] (cv : List Value) (pd : Nat → Bool) (w : World) (hR : RdR w A n rs) (hn : n ≤ 4000000000000)
    (hcall : ∀ (w' : World) (i : Nat), Below w.heap.size w w' → i < n → Ret Tryz.prog G (.slice (rg rs (i : Int)).a (rg rs (i : Int)).n (rg rs (i : Int)).c :: cv) w' (fun v w'' => v = .bool (pd i) ∧ St w' w'' [])) :
    Ret Tryz.prog 120 [.slice A n c, .func (.func G) #[] cv.toArray] w (fun v w' => v = .bool (decide (∃ j, j < n ∧ pd j = true)) ∧ St w w' []) := by
  refine Ret.of_cd Tryz.func120 rfl Tryz.ntmps120 rfl (post1 rfl) ?_
  refine Cd.seq ?_
  refine Cd.region ?_
  refine Ops.mv_bool rfl rfl rfl ?_
  refine Ops.nil ?_
  refine thenQ_n ?_
  refine Cd.seq ?_
  refine Cd.region ?_
  refine Ops.mv_sl rfl rfl rfl ?_
  refine Ops.mv_fn rfl rfl rfl ?_
  refine Ops.call (indexRF_c A n c rs G cv pd w hR hn hcall) rfl rfl rfl ?_
  rintro _ w2 ⟨⟨i, rfl, hi⟩, hS2⟩
  refine Ops.geq rfl rfl rfl ?_
  refine Ops.mv_bool rfl rfl rfl ?_
  refine Ops.nil ?_
  refine thenQ_n ?_
  refine Cd.ret ?_
  refine ret1_b rfl ?_
  exact ⟨congrArg Value.bool (decide_eq_decide.2 hi), hS2⟩
theorem hasFace1_c (A : Option Addr) (n c : Nat) (f : List Int) (P3 B : Option Addr) (m d : Nat) (face : List Int) (w : World) (hP : Rd w P3 1 (fun _ => .slice B m d)) (hB : RdI w B m face) (hR : RdI w A n f) (hm : m ≤ 1000000000) (hn : n ≤ 9223372036854775807) :
    Ret Tryz.prog 121 [.slice A n c, .pointer P3] w (fun v w' => v = .bool (decide (Ins face f)) ∧ St w w' []) := by
  refine Ret.of_cd Tryz.func121 rfl Tryz.ntmps121 rfl (post1 rfl) ?_
  refine Cd.seq ?_
  refine Cd.region ?_
  refine Ops.mv_bool rfl rfl rfl ?_
  refine Ops.nil ?_
  refine thenQ_n ?_
  refine Cd.seq ?_
  refine Cd.region ?_
  refine Ops.ld hP (j := 0) (by exact congrArg Value.pointer (ptrAt_zero P3).symm) (by omega) rfl rfl rfl ?_
  refine Ops.mv_sl rfl rfl rfl ?_
  refine Ops.call (isPart_c B m d face A n c f _ hB hR hm hn) rfl rfl rfl ?_
  rintro _ w2 ⟨rfl, hst⟩
  refine Ops.mv_bool rfl rfl rfl ?_
  refine Ops.nil ?_
  refine thenQ_n ?_
  refine Cd.ret ?_
  refine ret1_b rfl ?_
  exact ⟨rfl, hst⟩
theorem hasFace_c (Pc : Option Addr) (V : Int) (A : Option Addr) (n c : Nat) (rs : List SlV) (F : List (List Int)) (B : Option Addr) (m d : Nat) (face : List Int) (w : World) (hP : Rd w Pc 2 (fun j => [Value.int .i64 V, .slice A n c].getD j undef)) (hR : RowsI w A n rs F) (hB : RdI w B m face) (hn : n ≤ 1000000) (hm : m ≤ 1000000000) :
    Ret Tryz.prog 69 [.pointer Pc, .slice B m d] w (fun v w' => v = .bool (decide (Fce F face)) ∧ St w w' []) := by
  have hbl := hB.1
  have hFl := hR.len
  refine Ret.of_cd Tryz.func69 rfl Tryz.ntmps69 rfl (post1 rfl) ?_
  refine Cd.seq ?_
  refine Cd.region ?_
  refine Ops.box (v := .slice B m d) (St.refl w) rfl rfl (by show (1 : Nat) ≤ maxLen; simp [maxLen]) ?_
  intro P3 w1 hS1
  have hS1 : St w w1 [⟨P3, 1, 1, 25, [.slice B m d]⟩] := hS1
  refine Ops.mv_bool rfl rfl rfl ?_
  refine Ops.nil ?_
  refine thenQ_n ?_
  refine Cd.seq ?_
  refine Cd.seq ?_
  refine Cd.region ?_
  refine Ops.mv_int rfl rfl rfl ?_
  refine Ops.nil ?_
  refine thenQ_n ?_
  refine Cd.block ?_
  refine Cd.loop (α := Nat) (fun k => [(0, .pointer Pc), (3, .pointer P3), (5, .int .i64 (k : Int))]) (fun k w' => 1 ≤ k ∧ SA (face.take k) ∧ k ≤ m + 1 ∧ St w w' [⟨P3, 1, 1, 25, [.slice B m d]⟩]) (fun k => m + 1 - k) 1 ⟨rfl, rfl, rfl, trivial⟩ ⟨Nat.le_refl _, by cases face <;> simp [SA], by omega, hS1⟩ ?_
  rintro k e w2 ⟨hk1, hA, hk, hS2⟩
  have h3 : Rd w2 P3 1 (fun _ => Value.slice B m d) := (hS2.rd 0 rfl).congr fun j hj => by obtain rfl : j = 0 := by { have : j < 1 := hj; omega }; rfl
  have hB2 := hS2.oldI hB
  refine Cd.seq ?_
  refine Cd.seq ?_
  refine Cd.region ?_
  refine Ops.mv_int rfl rfl rfl ?_
  refine Ops.ld h3 (j := 0) (by exact congrArg Value.pointer (ptrAt_zero P3).symm) (by omega) rfl rfl rfl ?_
  refine Ops.len rfl rfl ?_
  refine Ops.lss rfl rfl rfl ?_
  refine Ops.nil ?_
  refine thenQ_n ?_
  refine Cd.cond_p _ rfl (fun h1 => ?_) (fun h1 => ?_)
  · have hkl : k < face.length := by omega
    refine Cd.skip ?_
    refine thenQ_n ?_
    refine Cd.seq ?_
    refine Cd.block ?_
    refine Cd.seq ?_
    by_cases h2 : gi face (k : Int) ≤ gi face ((k : Int) - 1)
    · --dup 2
      refine Cd.draw [.ex (.slice (B) (m) (d)), .ex (.int .i64 ((k : Int))), .ex (.int .i64 (((k : Int)) - ((1 : Int)))), .ex (.pointer (ptrAt (B) (((k : Int)) - ((1 : Int))).toNat)), .ex (.int .i64 (gi (face) (((k : Int)) - ((1 : Int))))), .ex (.slice (B) (m) (d)), .ex (.int .i64 ((k : Int))), .ex (.pointer (ptrAt (B) ((k : Int)).toNat)), .ex (.int .i64 (gi (face) ((k : Int)))), .ex (.bool (true))] (by kernel_rfl) (by kernel_rfl) rfl (List.forall_mem_cons.2 ⟨Yd.lasts_ex _, (List.forall_mem_cons.2 ⟨Yd.lasts_ex _, (List.forall_mem_cons.2 ⟨Yd.lasts_ex _, (List.forall_mem_cons.2 ⟨Yd.lasts_ex _, (List.forall_mem_cons.2 ⟨Yd.lasts_ex _, (List.forall_mem_cons.2 ⟨Yd.lasts_ex _, (List.forall_mem_cons.2 ⟨Yd.lasts_ex _, (List.forall_mem_cons.2 ⟨Yd.lasts_ex _, (List.forall_mem_cons.2 ⟨Yd.lasts_ex _, (List.forall_mem_cons.2 ⟨Yd.lasts_ex _, (fun _ h => by cases h)⟩)⟩)⟩)⟩)⟩)⟩)⟩)⟩)⟩)⟩) ⟨?_, ?_, ?_, ?_, ?_, ?_, ?_, ?_, ?_, ?_, trivial⟩ ?_
      · intro e1 w1 hb hp hun
        refine Ops.ldf_s (j := 0) (h3.below hb) (by exact congrArg Value.pointer (ptrAt_zero _).symm) rfl rfl rfl rfl ?_
        refine Ops.nil ?_
        exact After.dn (Below.refl _ _) (by exact rfl)
      · intro e1 w1 hb hp hun
        refine Ops.mv_int rfl rfl rfl ?_
        refine Ops.nil ?_
        exact After.dn (Below.refl _ _) (by exact rfl)
      · intro e1 w1 hb hp hun
        refine Ops.sub rfl rfl rfl (by omega) ?_
        refine Ops.nil ?_
        exact After.dn (Below.refl _ _) (by exact rfl)
      · intro e1 w1 hb hp hun
        refine Ops.idx (hB2.later hb).2 rfl rfl rfl (by omega) (by omega) ?_
        refine Ops.nil ?_
        exact After.dn (Below.refl _ _) (by exact rfl)
      · intro e1 w1 hb hp hun
        refine Ops.ld_int (hB2.later hb) rfl (by omega) rfl rfl ?_
        refine Ops.nil ?_
        exact After.dn (Below.refl _ _) (by exact rfl)
      · intro e1 w1 hb hp hun
        refine Ops.ldf_s (j := 0) (h3.below hb) (by exact congrArg Value.pointer (ptrAt_zero _).symm) rfl rfl rfl rfl ?_
        refine Ops.nil ?_
        exact After.dn (Below.refl _ _) (by exact rfl)
      · intro e1 w1 hb hp hun
        refine Ops.mv_int rfl rfl rfl ?_
        refine Ops.nil ?_
        exact After.dn (Below.refl _ _) (by exact rfl)
      · intro e1 w1 hb hp hun
        refine Ops.idx (hB2.later hb).2 rfl rfl rfl (by omega) (by omega) ?_
        refine Ops.nil ?_
        exact After.dn (Below.refl _ _) (by exact rfl)
      · intro e1 w1 hb hp hun
        refine Ops.ld_int (hB2.later hb) rfl (by omega) rfl rfl ?_
        refine Ops.nil ?_
        exact After.dn (Below.refl _ _) (by exact rfl)
      · intro e1 w1 hb hp hun
        refine Ops.geq rfl rfl rfl ?_
        refine Ops.nil ?_
        exact After.dn (Below.refl _ _) (by exact congrArg Value.bool (decide_eq_true h2))
      intro u w3 hb _
      refine thenQ_n ?_
      refine Cd.cond_t rfl ?_
      refine Cd.seq ?_
      refine Cd.region ?_
      refine Ops.mv_bool rfl rfl rfl ?_
      refine Ops.nil ?_
      refine thenQ_n ?_
      refine Cd.ret ?_
      refine blockQ_r ?_
      refine thenQ_r ?_
      refine thenQ_r ?_
      refine blockQ_r ?_
      refine thenQ_r ?_
      refine ret1_b rfl ?_
      exact ⟨by rw [decide_eq_false (fun h : Fce F face => by have := h.1.step (k := k) (by omega) hkl; omega)], hS2.none.later hb⟩
    · refine Cd.draw [.ex (.slice (B) (m) (d)), .ex (.int .i64 ((k : Int))), .ex (.int .i64 (((k : Int)) - ((1 : Int)))), .ex (.pointer (ptrAt (B) (((k : Int)) - ((1 : Int))).toNat)), .ex (.int .i64 (gi (face) (((k : Int)) - ((1 : Int))))), .ex (.slice (B) (m) (d)), .ex (.int .i64 ((k : Int))), .ex (.pointer (ptrAt (B) ((k : Int)).toNat)), .ex (.int .i64 (gi (face) ((k : Int)))), .ex (.bool (false))] (by kernel_rfl) (by kernel_rfl) rfl (List.forall_mem_cons.2 ⟨Yd.lasts_ex _, (List.forall_mem_cons.2 ⟨Yd.lasts_ex _, (List.forall_mem_cons.2 ⟨Yd.lasts_ex _, (List.forall_mem_cons.2 ⟨Yd.lasts_ex _, (List.forall_mem_cons.2 ⟨Yd.lasts_ex _, (List.forall_mem_cons.2 ⟨Yd.lasts_ex _, (List.forall_mem_cons.2 ⟨Yd.lasts_ex _, (List.forall_mem_cons.2 ⟨Yd.lasts_ex _, (List.forall_mem_cons.2 ⟨Yd.lasts_ex _, (List.forall_mem_cons.2 ⟨Yd.lasts_ex _, (fun _ h => by cases h)⟩)⟩)⟩)⟩)⟩)⟩)⟩)⟩)⟩)⟩) ⟨?_, ?_, ?_, ?_, ?_, ?_, ?_, ?_, ?_, ?_, trivial⟩ ?_
      · intro e1 w1 hb hp hun
        refine Ops.ldf_s (j := 0) (h3.below hb) (by exact congrArg Value.pointer (ptrAt_zero _).symm) rfl rfl rfl rfl ?_
        refine Ops.nil ?_
        exact After.dn (Below.refl _ _) (by exact rfl)
      · intro e1 w1 hb hp hun
        refine Ops.mv_int rfl rfl rfl ?_
        refine Ops.nil ?_
        exact After.dn (Below.refl _ _) (by exact rfl)
      · intro e1 w1 hb hp hun
        refine Ops.sub rfl rfl rfl (by omega) ?_
        refine Ops.nil ?_
        exact After.dn (Below.refl _ _) (by exact rfl)
      · intro e1 w1 hb hp hun
        refine Ops.idx (hB2.later hb).2 rfl rfl rfl (by omega) (by omega) ?_
        refine Ops.nil ?_
        exact After.dn (Below.refl _ _) (by exact rfl)
      · intro e1 w1 hb hp hun
        refine Ops.ld_int (hB2.later hb) rfl (by omega) rfl rfl ?_
        refine Ops.nil ?_
        exact After.dn (Below.refl _ _) (by exact rfl)
      · intro e1 w1 hb hp hun
        refine Ops.ldf_s (j := 0) (h3.below hb) (by exact congrArg Value.pointer (ptrAt_zero _).symm) rfl rfl rfl rfl ?_
        refine Ops.nil ?_
        exact After.dn (Below.refl _ _) (by exact rfl)
      · intro e1 w1 hb hp hun
        refine Ops.mv_int rfl rfl rfl ?_
        refine Ops.nil ?_
        exact After.dn (Below.refl _ _) (by exact rfl)
      · intro e1 w1 hb hp hun
        refine Ops.idx (hB2.later hb).2 rfl rfl rfl (by omega) (by omega) ?_
        refine Ops.nil ?_
        exact After.dn (Below.refl _ _) (by exact rfl)
      · intro e1 w1 hb hp hun
        refine Ops.ld_int (hB2.later hb) rfl (by omega) rfl rfl ?_
        refine Ops.nil ?_
        exact After.dn (Below.refl _ _) (by exact rfl)
      · intro e1 w1 hb hp hun
        refine Ops.geq rfl rfl rfl ?_
        refine Ops.nil ?_
        exact After.dn (Below.refl _ _) (by exact congrArg Value.bool (decide_eq_false h2))
      intro u w3 hb _
      refine thenQ_n ?_
      refine Cd.cond_f rfl ?_
      refine Cd.skip ?_
      refine blockQ_n ?_
      refine thenQ_n ?_
      refine Cd.region ?_
      refine Ops.mv_int rfl rfl rfl ?_
      refine Ops.add rfl rfl rfl (by omega) ?_
      refine Ops.mv_int rfl rfl rfl ?_
      refine Ops.nil ?_
      refine thenQ_n ?_
      exact ⟨k + 1, by show m + 1 - (k + 1) < m + 1 - k; omega, ⟨rfl, rfl, rfl, trivial⟩, by omega, hA.snoc hkl (.inr (by omega)), by omega, hS2.later hb⟩
  · rw [List.take_of_length_le (by omega)] at hA
    refine Cd.exit ?_
    refine thenQ_x ?_
    refine thenQ_x ?_
    refine blockQ_x ?_
    refine thenQ_n ?_
    refine Cd.seq ?_
    refine Cd.region ?_
    refine Ops.ld h3 (j := 0) (by exact congrArg Value.pointer (ptrAt_zero P3).symm) (by omega) rfl rfl rfl ?_
    refine Ops.len rfl rfl ?_
    refine Ops.eql rfl rfl rfl ?_
    refine Ops.mv_bool rfl rfl rfl ?_
    refine Ops.split_p 25 rfl (fun h2 => ?_) (fun h2 => ?_)
    · have he : face = [] := List.eq_nil_of_length_eq_zero (by omega)
      refine Ops.skipg rfl rfl rfl rfl rfl ?_
      refine Ops.skipg rfl rfl rfl rfl rfl ?_
      refine Ops.skipg rfl rfl rfl rfl rfl ?_
      refine Ops.skipg rfl rfl rfl rfl rfl ?_
      refine Ops.skipg rfl rfl rfl rfl rfl ?_
      refine Ops.skipg rfl rfl rfl rfl rfl ?_
      refine Ops.pick_t rfl rfl rfl ?_
      refine Ops.mv_bool rfl rfl rfl ?_
      refine Ops.nil ?_
      refine thenQ_n ?_
      refine Cd.ret ?_
      refine ret1_b rfl ?_
      exact ⟨by rw [decide_eq_true (show Fce F face from ⟨hA, .inl he⟩)], hS2.none⟩
    · have he : ¬ face = [] := fun h => h2 (by rw [h] at hbl; simp at hbl; omega)
      refine Ops.rung rfl rfl rfl ?_
      refine Ops.mv_ptr rfl rfl rfl ?_
      refine Ops.rung rfl rfl rfl ?_
      refine Ops.nilp (hS2.old hP) (by omega) rfl rfl ?_
      refine Ops.rung rfl rfl rfl ?_
      refine Ops.fld (hS2.old hP) rfl rfl rfl rfl inferInstance ?_
      refine Ops.rung rfl rfl rfl ?_
      refine Ops.ldf_s (hS2.old hP) rfl rfl rfl rfl rfl ?_
      refine Ops.rung rfl rfl rfl ?_
      refine Ops.fn1 rfl rfl ?_
      refine Ops.rung rfl rfl rfl ?_
      have hM := hS2.oldRows hR
      refine Ops.call (containsRF_c A n c rs 121 [.pointer P3] (fun i => decide (Ins face (gl F (i : Int)))) w2 hM.top (by omega) (fun w' i hb hi => hasFace1_c _ _ _ (gl F (i : Int)) P3 B m d face w' (h3.below hb) (hB2.later hb) ((hM.later hb).at_ (i := (i : Int)) (by omega) (by omega)) hm (by have := ((hM.cap_ (i := (i : Int)) (by omega) (by omega))); omega))) rfl rfl rfl ?_
      rintro _ w3 ⟨rfl, hst⟩
      refine Ops.pick_f rfl rfl rfl ?_
      refine Ops.mv_bool rfl rfl rfl ?_
      refine Ops.nil ?_
      refine thenQ_n ?_
      refine Cd.ret ?_
      refine ret1_b rfl ?_
      refine ⟨congrArg Value.bool (decide_eq_decide.2 ?_), hS2.none.later hst.below⟩
      constructor
      · rintro ⟨j, hj, hp⟩
        exact ⟨hA, .inr ⟨_, by rw [gl_mem (show j < F.length by omega)]; exact List.getElem_mem _, of_decide_eq_true hp⟩⟩
      · rintro ⟨_, h | ⟨f, hf, hi⟩⟩
        · exact absurd h he
        · obtain ⟨j, hj, rfl⟩ := List.mem_iff_getElem.1 hf
          exact ⟨j, by omega, decide_eq_true (by rw [gl_mem hj]; exact hi)⟩

theorem implLinkOf_c (V : Int) (A : Option Addr) (n c : Nat) (rs : List SlV) (F : List (List Int)) (B : Option Addr) (m d : Nat) (face : List Int) (w : World) (hT : Tab w) (hR : RowsI w A n rs F) (hB : RdI w B m face) (hn : n ≤ 9223372036854775807) (hm : m ≤ 1000000000) :
    Ret Tryz.prog 15 [.agg #[.int .i64 V, .slice A n c], .slice B m d] w (AnsC (lkV V F face) (lkL V F face) (lkK V F face) w) := by
  have hFl := hR.len
  refine Ret.of_cd Tryz.func15 rfl Tryz.ntmps15 rfl (postc2 rfl rfl) ?_
  refine Cd.seq ?_
  refine Cd.region ?_
  refine Ops.box2 (St.refl w) rfl rfl ?_
  intro Ab w1 hS1
  refine Ops.new2 hS1 rfl ?_
  intro A4 w2 hS2
  refine Ops.mv_int rfl rfl rfl ?_
  refine Ops.nil ?_
  refine thenQ_n ?_
  refine Cd.seq ?_
  refine Cd.block ?_
  refine Cd.seq ?_
  refine Cd.region ?_
  refine Ops.ld_agg 1 (hS2.rd 1 rfl) rfl rfl rfl ?_
  refine Ops.call (isComplex_c V A n c rs F _ (hT.later hS2.below) (hS2.oldRows hR) hn) rfl rfl rfl ?_
  rintro _ w3 ⟨rfl, hst⟩
  have hS3 := hS2.later hst.below
  first | refine Ops.not_p rfl rfl ?_ | refine Ops.not rfl rfl ?_
  refine Ops.mv_bool rfl rfl rfl ?_
  refine Ops.nil ?_
  refine thenQ_n ?_
  unfold lkV lkL lkK
  refine Cd.cond_p _ rfl (fun h1 => ?_) (fun h1 => ?_)
  · rw [if_neg (fun h => h1 h.1), if_neg (fun h => h1 h.1), if_neg h1]
    refine Cd.seq ?_
    refine Cd.region ?_
    refine Ops.bldZ2 (by exact inferInstance) (by exact inferInstance) rfl rfl rfl ?_
    refine Ops.st_agg 2 0 hS3 rfl rfl rfl rfl rfl rfl rfl ?_
    intro w9 hS9
    refine Ops.mv_int rfl rfl rfl ?_
    refine Ops.nil ?_
    refine thenQ_n ?_
    refine Cd.ret ?_
    refine blockQ_r ?_
    refine thenQ_r ?_
    skip
    refine retc2_r rfl (hS9.rd 0 rfl) rfl ?_
    exact AnsC.none hS9
  have h1 := Classical.not_not.1 h1
  have hn4 := h1.f
  refine Cd.seq ?_
  refine Cd.region ?_
  refine Ops.mv_sl rfl rfl rfl ?_
  refine Ops.call (hasFace_c Ab V A n c rs F B m d face _ (hS3.rd 1 rfl) (hS3.oldRows hR) (hS3.oldI hB) (by omega) hm) rfl rfl rfl ?_
  rintro _ w4 ⟨rfl, hst⟩
  have hS4 := hS3.later hst.below
  first | refine Ops.not_p rfl rfl ?_ | refine Ops.not rfl rfl ?_
  refine Ops.mv_bool rfl rfl rfl ?_
  refine Ops.nil ?_
  refine thenQ_n ?_
  refine Cd.cond_p _ rfl (fun h2 => ?_) (fun h2 => ?_)
  · rw [if_neg (fun h => h2 h.2), if_neg (fun h => h2 h.2), if_pos h1, if_neg h2]
    refine Cd.seq ?_
    refine Cd.region ?_
    refine Ops.bldZ2 (by exact inferInstance) (by exact inferInstance) rfl rfl rfl ?_
    refine Ops.st_agg 2 0 hS4 rfl rfl rfl rfl rfl rfl rfl ?_
    intro w9 hS9
    refine Ops.mv_int rfl rfl rfl ?_
    refine Ops.nil ?_
    refine thenQ_n ?_
    refine Cd.ret ?_
    refine blockQ_r ?_
    refine thenQ_r ?_
    skip
    refine retc2_r rfl (hS9.rd 0 rfl) rfl ?_
    exact AnsC.none hS9
  have h2 := Classical.not_not.1 h2
  rw [if_pos ⟨h1, h2⟩, if_pos ⟨h1, h2⟩, if_pos h1, if_pos h2]
  obtain ⟨hL1, hL2, hL3⟩ := h1.lnk face
  refine Cd.skip ?_
  refine blockQ_n ?_
  refine thenQ_n ?_
  refine Cd.seq ?_
  refine Cd.region ?_
  refine Ops.mv_sl rfl rfl rfl ?_
  refine Ops.nil ?_
  refine thenQ_n ?_
  refine Cd.seq ?_
  refine Cd.seq ?_
  refine Cd.region ?_
  refine Ops.fld (hS4.rd 1 rfl) rfl rfl rfl rfl inferInstance ?_
  refine Ops.ldf_s (hS4.rd 1 rfl) rfl rfl rfl rfl rfl ?_
  refine Ops.len rfl rfl ?_
  refine Ops.mv_int rfl rfl rfl ?_
  refine Ops.nil ?_
  refine thenQ_n ?_
  refine Cd.block ?_
  have hS5 : St w w4 ([cxZ A4, cxB Ab V A n c, CkR 25 none (lnkL (F.take 0) face).length 0 []] ++ rowsCk 2 [] (lnkL (F.take 0) face)) := (hS4.nil 25).perm (List.perm_append_comm (l₁ := [CkR 25 none 0 0 []]) (l₂ := [_, _]))
  refine Cd.loop (α := Nat × (Option Addr × Nat) × List SlV) (fun z => [(1, .slice B m d), (4, .pointer A4), (6, .slice z.2.1.1 (lnkL (F.take z.1) face).length z.2.1.2), (20, .slice A n c), (21, .int .i64 (n : Int)), (22, .int .i64 (z.1 : Int))])
    (fun z w' => z.1 ≤ n ∧ z.2.2.length = (lnkL (F.take z.1) face).length ∧ St w w' ([cxZ A4, cxB Ab V A n c, CkR 25 z.2.1.1 (lnkL (F.take z.1) face).length z.2.1.2 z.2.2] ++ rowsCk 2 z.2.2 (lnkL (F.take z.1) face))) (fun z => n - z.1) (0, (none, 0), []) ⟨rfl, rfl, rfl, rfl, rfl, rfl, trivial⟩ ⟨Nat.zero_le _, rfl, hS5⟩ ?_
  clear hS5 hS4 hS3 hS2 hS1
  rintro ⟨i, ⟨A5, c5⟩, rs5⟩ e w3 ⟨hi, hrl, hS3⟩
  dsimp only at hi hrl hS3 ⊢
  refine Cd.seq ?_
  refine Cd.region ?_
  refine Ops.lss rfl rfl rfl ?_
  refine Ops.nil ?_
  refine thenQ_n ?_
  refine Cd.seq ?_
  refine Cd.cond_p _ rfl (fun h3 => ?_) (fun h3 => ?_)
  · have hiF : i < F.length := by omega
    have hM := hS3.oldRows hR
    have hrow := hM.at_ (i := (i : Int)) (by omega) (by omega)
    have hcap := hM.cap_ (i := (i : Int)) (by omega) (by omega)
    have hrl0 := hrow.1
    have hfl := (h1.at_ hiF).1
    have hsucc := lnkL_succ (face := face) hiF
    have hll := lnkL_len (F.take i) face
    have htl : (F.take i).length = i := by simp; omega
    refine Cd.skip ?_
    refine thenQ_n ?_
    refine Cd.seq ?_
    refine Cd.block ?_
    refine Cd.seq ?_
    refine Cd.region ?_
    refine Ops.idx hM.top.2 rfl rfl rfl (by omega) (by omega) ?_
    refine Ops.ld_sl hM.top rfl (by omega) rfl rfl ?_
    refine Ops.mv_sl rfl rfl rfl ?_
    refine Ops.nil ?_
    refine thenQ_n ?_
    refine Cd.seq ?_
    refine Cd.region ?_
    refine Ops.mv_sl rfl rfl rfl ?_
    refine Ops.mv_sl rfl rfl rfl ?_
    refine Ops.call (isPart_c B m d face _ _ _ (gl F (i : Int)) _ (hS3.oldI hB) hrow hm (by omega)) rfl rfl rfl ?_
    rintro _ w4 ⟨rfl, hst⟩
    have hS3 := hS3.later hst.below
    have hM := hS3.oldRows hR
    have hrow := hM.at_ (i := (i : Int)) (by omega) (by omega)
    refine Ops.nil ?_
    refine thenQ_n ?_
    refine Cd.cond_p _ rfl (fun h4 => ?_) (fun h4 => ?_)
    · rw [if_pos h4] at hsucc
      refine Cd.region ?_
      refine Ops.mv_sl rfl rfl rfl ?_
      refine Ops.mv_sl rfl rfl rfl ?_
      refine Ops.mv_sl rfl rfl rfl ?_
      refine Ops.call (lessOf_c _ _ _ (gl F (i : Int)) _ _ _ face _ hrow (hS3.oldI hB) (by omega) (by omega)) rfl rfl rfl ?_
      rintro _ w4 ⟨A2, c2, rfl, hst⟩
      have hS5 := hS3.call hst
      refine Ops.bs1R hS5 rfl rfl rfl ?_
      intro A7 w6 hS6
      refine Ops.appR 4 hS6 rfl (hS6.rdR 0 rfl) rfl rfl rfl (by omega) (by omega) rfl ?_
      intro A8 c8 w7 hS7
      have hS7 := hS7.tail
      have hl1 : (lnkL (F.take (i + 1)) face).length = (lnkL (F.take i) face).length + 1 := by rw [hsucc]; simp
      refine Ops.mv_sl rfl rfl rfl ?_
      refine Ops.nil ?_
      refine blockQ_n ?_
      refine thenQ_n ?_
      refine Cd.region ?_
      refine Ops.add rfl rfl rfl (by omega) ?_
      refine Ops.mv_int rfl rfl rfl ?_
      refine Ops.nil ?_
      refine thenQ_n ?_
      refine ⟨(i + 1, (A8, c8), rs5 ++ [⟨A2, (lessL (gl F (i : Int)) face).length, c2⟩]), by show n - (i + 1) < n - i; omega, ⟨rfl, rfl, by show Value.slice A8 ((lnkL (F.take i) face).length + 1) c8 = .slice A8 (lnkL (F.take (i + 1)) face).length c8; rw [hl1], rfl, rfl, rfl, trivial⟩, by show i + 1 ≤ n; omega, by show (rs5 ++ [_]).length = _; rw [hl1]; simp; omega, ?_⟩
      show St w w7 ([cxZ A4, cxB Ab V A n c, CkR 25 A8 (lnkL (F.take (i + 1)) face).length c8 (rs5 ++ [⟨A2, (lessL (gl F (i : Int)) face).length, c2⟩])] ++ rowsCk 2 (rs5 ++ [⟨A2, (lessL (gl F (i : Int)) face).length, c2⟩]) (lnkL (F.take (i + 1)) face))
      rw [hl1, hsucc, rowsCk_append hrl, ← List.append_assoc]
      exact hS7.perm (List.perm_append_comm (l₁ := [CkI 2 A2 (lessL (gl F (i : Int)) face).length c2 (lessL (gl F (i : Int)) face)]))
    · rw [if_neg h4] at hsucc
      rw [← hsucc] at hrl hS3 ⊢
      refine Cd.skip ?_
      refine blockQ_n ?_
      refine thenQ_n ?_
      refine Cd.region ?_
      refine Ops.add rfl rfl rfl (by omega) ?_
      refine Ops.mv_int rfl rfl rfl ?_
      refine Ops.nil ?_
      refine thenQ_n ?_
      exact ⟨(i + 1, (A5, c5), rs5), by show n - (i + 1) < n - i; omega, ⟨rfl, rfl, rfl, rfl, rfl, rfl, trivial⟩, by show i + 1 ≤ n; omega, hrl, hS3⟩
  · rw [List.take_of_length_le (by omega)] at hrl hS3 ⊢
    have hS4 : St w w3 (mat 25 2 A5 (lnkL F face).length c5 rs5 (lnkL F face)) := hS3.tail.tail
    have hid := map_cs_id (L := lnkL F face) fun l hl => (hL2 l hl).1
    have hC := complexOf_c A5 _ c5 rs5 (lnkL F face) w3 (hT.later hS3.below) (St.rowsI (ks := []) (by rwa [List.append_nil]) rfl) (by omega) (fun l hl => by have := (hL2 l hl).2; omega)
    rw [hid] at hC
    refine Cd.exit ?_
    refine thenQ_x ?_
    refine thenQ_x ?_
    refine blockQ_x ?_
    refine thenQ_n ?_
    refine Cd.seq ?_
    refine Cd.region ?_
    refine Ops.mv_sl rfl rfl rfl ?_
    refine Ops.call hC rfl rfl rfl ?_
    rintro _ w6 ⟨A6, c6, rs6, rfl, hrl6, hst6⟩
    have hS6 := (hS3.sub (List.sublist_append_left _ _)).call2 hst6
    refine Ops.extract rfl rfl rfl ?_
    refine Ops.extract rfl rfl rfl ?_
    refine Ops.st_agg 2 0 hS6 rfl rfl rfl rfl rfl rfl rfl ?_
    intro w7 hS7
    refine Ops.mv_int rfl rfl rfl ?_
    refine Ops.nil ?_
    refine thenQ_n ?_
    refine Cd.ret ?_
    skip
    refine retc2_r rfl (hS7.rd 0 rfl) rfl ?_
    exact ⟨A6, c6, rs6, rfl, hrl6, hS7.sub (List.Sublist.cons _ (List.Sublist.cons _ (List.sublist_cons_self _ _)))⟩
end Go.Proofs.YtdedegbendjmbaaGreatDoor.Vc
/-
  Plain mathematics of complexes: faces of deletions, links and skeletons, counted. Conditions: as each states them. No program in sight.
-/
namespace Go.Proofs.YtdedegbendjmbaaGreatDoor.Vc

/-- so many faces with k elements -/
def nf (F : List (List Int)) (k : Nat) : Nat := (fcs F k).length
theorem sub_SA {a b : List Int} (h : a.Sublist b) (hb : SA b) : SA a := List.Pairwise.sublist h hb
theorem fcs_sa {F : List (List Int)} {k : Nat} (hs : ∀ f ∈ F, SA f) {x : List Int} (h : x ∈ fcs F k) : SA x := by
  rcases faL_mem.1 (fcs_mem.1 h) with ⟨_, rfl⟩ | ⟨_, f, hf, h1, _⟩
  · exact List.Pairwise.nil
  · exact sub_SA h1 (hs f hf)
theorem fcs_pos {F : List (List Int)} {k : Nat} (hk : 0 < k) {x : List Int} : x ∈ fcs F k ↔ ∃ f ∈ F, x.Sublist f ∧ x.length = k := by
  rw [fcs_mem, faL_mem]
  constructor
  · rintro (⟨h, _⟩ | ⟨_, h⟩)
    · omega
    · exact h
  · exact fun h => .inr ⟨hk, h⟩
theorem fcs_fac {ls : List (List Int)} (hs : ∀ l ∈ ls, SA l) (k : Nat) : fcs (facP ls) k = fcs ls k := by
  refine fcs_of (fcs_SL _ _) fun x => ?_
  rw [fcs_mem, faL_mem, faL_mem]
  constructor
  · rintro (h | ⟨h0, f, hf, h1, h2⟩)
    · exact .inl h
    · exact .inr ⟨h0, f, (facP_mem.1 hf).1, h1, h2⟩
  · rintro (h | ⟨h0, f, hf, h1, h2⟩)
    · exact .inl h
    · have hne : f ≠ [] := fun e => by
        have := h1.length_le
        rw [e, List.length_nil] at this; omega
      obtain ⟨y, hy, hi⟩ := max_ex hs hf hne
      exact .inr ⟨h0, y, facP_mem.2 hy, h1.trans (Ins.sub (hs f hf) (hs y hy.1) hi), h2⟩
theorem fcs_map {f : Int → Int} {s : List Int} (h : Mono f s) {ls : List (List Int)} (hl : ∀ l ∈ ls, Ins l s) (k : Nat) : fcs (ls.map (List.map f)) k = (fcs ls k).map (List.map f) := by
  have hin : ∀ x ∈ fcs ls k, Ins x s := fun x hx => by
    rcases faL_mem.1 (fcs_mem.1 hx) with ⟨_, rfl⟩ | ⟨_, g, hg, h1, _⟩
    · intro y hy; cases hy
    · exact (Ins.of_sub h1).trans (hl g hg)
  refine (fcs_of ?_ fun x => ?_).symm
  · unfold SL
    rw [List.pairwise_map]
    exact (fcs_SL ls k).imp_of_mem fun {a b} ha hb hab => h.lt (hin a ha) (hin b hb) hab
  · rw [List.mem_map, faL_mem]
    constructor
    · rintro ⟨y, hy, rfl⟩
      rcases faL_mem.1 (fcs_mem.1 hy) with ⟨h0, rfl⟩ | ⟨h0, g, hg, h1, h2⟩
      · exact .inl ⟨h0, rfl⟩
      · exact .inr ⟨h0, g.map f, List.mem_map.2 ⟨g, hg, rfl⟩, h1.map f, by rw [List.length_map]; exact h2⟩
    · rintro (⟨h0, rfl⟩ | ⟨h0, g, hg, h1, h2⟩)
      · exact ⟨[], fcs_mem.2 (faL_mem.2 (.inl ⟨h0, rfl⟩)), rfl⟩
      · obtain ⟨g0, hg0, rfl⟩ := List.mem_map.1 hg
        obtain ⟨y, hy, rfl⟩ := List.sublist_map_iff.1 h1
        exact ⟨y, fcs_mem.2 (faL_mem.2 (.inr ⟨h0, g0, hg0, hy, by simpa using h2⟩)), rfl⟩
/-- numbers of faces do not change when the complex of some lists is taken -/
theorem nf_cx {ls : List (List Int)} (hs : ∀ l ∈ ls, SA l) (hb : ¬ CxBad ls) (k : Nat) : nf (cxL ls) k = nf ls k := by
  unfold nf cxL
  rw [if_neg hb]
  unfold cxF
  rw [fcs_map (s := cvP ls) (ix_mono (s := cvP ls) (cs_SA _)) (fun l hl => cvP_ins (facP_mem.1 hl).1), List.length_map, fcs_fac hs]
theorem nf_short {F : List (List Int)} {k : Nat} (h : dpt F < k) : nf F k = 0 := by unfold nf; rw [fcs_short h]; rfl
theorem nf_zero (F : List (List Int)) : nf F 0 = 1 := by unfold nf; rw [fcs_zero]; rfl
theorem nf_pos {F : List (List Int)} {k : Nat} (h : k ≤ dpt F) : 0 < nf F k := by
  by_cases hk : k = 0
  · rw [hk, nf_zero]; omega
  · have hne : F ≠ [] := fun e => by rw [e] at h; simp [dpt] at h; exact hk h
    obtain ⟨f, hf, hl⟩ := dpt_ex hne
    exact List.length_pos_of_mem (fcs_mem.2 (faL_mem.2 (.inr ⟨by omega, f, hf, List.take_sublist k f, by rw [List.length_take]; omega⟩)) : f.take k ∈ fcs F k)
/-- depths by the numbers of faces -/
theorem dpt_of {F G : List (List Int)} (h : ∀ k, nf F k = nf G k) : dpt F = dpt G := by
  have h1 := nf_pos (F := F) (k := dpt F) (Nat.le_refl _)
  have h2 := nf_pos (F := G) (k := dpt G) (Nat.le_refl _)
  rcases Nat.lt_trichotomy (dpt F) (dpt G) with h3 | h3 | h3
  · rw [← h, nf_short h3] at h2; omega
  · exact h3
  · rw [h, nf_short h3] at h1; omega
theorem fvP_of {F G : List (List Int)} (h : ∀ k, nf F k = nf G k) : fvP F = fvP G := by
  unfold fvP
  rw [dpt_of h]
  exact List.map_congr_left fun k _ => by rw [show (fcs F k).length = nf F k from rfl, h k]; rfl
theorem fv_cx {ls : List (List Int)} (hs : ∀ l ∈ ls, SA l) (hb : ¬ CxBad ls) : fvP (cxL ls) = fvP ls := fvP_of (nf_cx hs hb)
/-- the element at a place, 0 outside (the law's at9) -/
def at0 (f : List Int) (k : Int) : Int := if 0 ≤ k ∧ k < f.length then gi f k else 0
theorem at0_fv (F : List (List Int)) (k : Nat) : at0 (fvP F) (k : Int) = nf F k := by
  unfold at0
  rw [fvP_len]
  split
  · exact fvP_at F (by omega)
  · rw [nf_short (by omega)]; rfl

/-! a vertex left out -/
def delL (F : List (List Int)) (v : Int) : List (List Int) := F.map fun f => lessL f [v]
theorem lessL_one {l : List Int} (h : SA l) {v : Int} (hv : v ∈ l) : (lessL l [v]).length + 1 = l.length := by
  have e : lessL l [v] = l.erase v := by
    rw [h.nodup.erase_eq_filter]
    unfold lessL
    refine List.filter_congr fun x _ => ?_
    by_cases hx : x = v <;> simp [hx]
  have := List.length_pos_of_mem hv
  rw [e, List.length_erase_of_mem hv]
  omega
theorem lessL_self {l : List Int} {v : Int} (hv : v ∉ l) : lessL l [v] = l := by
  unfold lessL
  rw [List.filter_eq_self]
  intro x hx
  have : x ≠ v := fun e => hv (e ▸ hx)
  simp [this]
theorem filter_two {α : Type} (p : α → Bool) : ∀ l : List α, l.length = (l.filter p).length + (l.filter fun x => !p x).length
  | [] => rfl
  | a :: r => by
    have := filter_two p r
    cases h : p a <;> simp [h] <;> omega
theorem fcs_without {F : List (List Int)} (hs : ∀ f ∈ F, SA f) (v : Int) (k : Nat) : (fcs F k).filter (fun x => !decide (v ∈ x)) = fcs (delL F v) k := by
  refine fcs_of (List.Pairwise.filter _ (fcs_SL F k)) fun x => ?_
  rw [List.mem_filter, fcs_mem, faL_mem, faL_mem]
  constructor
  · rintro ⟨h1 | ⟨h0, f, hf, h1, h2⟩, h3⟩
    · exact .inl h1
    · have hv : v ∉ x := by simpa using h3
      refine .inr ⟨h0, _, List.mem_map.2 ⟨f, hf, rfl⟩, ?_, h2⟩
      have := h1.filter fun y => !decide (y ∈ [v])
      rw [show x.filter (fun y => !decide (y ∈ [v])) = x from lessL_self hv] at this
      exact this
  · rintro (h1 | ⟨h0, g, hg, h1, h2⟩)
    · exact ⟨.inl h1, by simp [h1.2]⟩
    · obtain ⟨f, hf, rfl⟩ := List.mem_map.1 hg
      refine ⟨.inr ⟨h0, f, hf, h1.trans List.filter_sublist, h2⟩, ?_⟩
      have : v ∉ x := fun hv => by
        have := lessL_mem.1 (h1.subset hv)
        simp at this
      simpa using this
theorem fcs_with {V : Int} {F : List (List Int)} (hc : Cplx V F) {v : Int} (hv0 : 0 ≤ v) (hv1 : v < V) (k : Nat) : ((fcs F (k + 1)).filter fun x => decide (v ∈ x)).length = (fcs (lnkL F [v]) k).length := by
  have hs : ∀ f ∈ F, SA f := fun f hf => (hc.row f hf).2.1
  have hA : ∀ x, x ∈ (fcs F (k + 1)).filter (fun x => decide (v ∈ x)) → SA x ∧ v ∈ x := fun x hx => by
    obtain ⟨h1, h2⟩ := List.mem_filter.1 hx
    exact ⟨fcs_sa hs h1, by simpa using h2⟩
  rw [← List.length_map (f := fun x => lessL x [v])]
  refine List.Perm.length_eq ((List.perm_ext_iff_of_nodup ?_ (fcs_SL _ _).nodup).2 fun y => ?_)
  · refine List.pairwise_map.2 (((fcs_SL F (k + 1)).nodup.filter _).imp_of_mem fun {a b} ha hb hab e => hab ?_)
    have h1 := hA a ha
    have h2 := hA b hb
    refine h1.1.eq h2.1 fun z => ?_
    by_cases hz : z = v
    · subst hz; exact ⟨fun _ => h2.2, fun _ => h1.2⟩
    · have h3 : z ∈ lessL a [v] ↔ z ∈ lessL b [v] := by rw [e]
      simpa [lessL_mem, hz] using h3
  · rw [List.mem_map]
    constructor
    · rintro ⟨x, hx, rfl⟩
      have h1 := hA x hx
      obtain ⟨f, hf, h2, h3⟩ := (fcs_pos (by omega)).1 (List.mem_filter.1 hx).1
      have hl := lessL_one h1.1 h1.2
      rw [fcs_mem, faL_mem]
      by_cases hk : k = 0
      · exact .inl ⟨hk, List.eq_nil_of_length_eq_zero (by omega)⟩
      · refine .inr ⟨by omega, lessL f [v], ?_, h2.filter _, by omega⟩
        refine List.mem_map.2 ⟨f, List.mem_filter.2 ⟨hf, decide_eq_true fun z hz => ?_⟩, rfl⟩
        obtain rfl : z = v := by simpa using hz
        exact h2.subset h1.2
    · intro hy
      have key : ∃ f ∈ F, v ∈ f ∧ y.Sublist (lessL f [v]) ∧ y.length = k := by
        rcases faL_mem.1 (fcs_mem.1 hy) with ⟨hk, rfl⟩ | ⟨_, g, hg, h1, h2⟩
        · obtain ⟨f, hf, h1⟩ := hc.all v hv0 hv1
          exact ⟨f, hf, h1, List.nil_sublist _, hk.symm⟩
        · obtain ⟨f, hf, rfl⟩ := List.mem_map.1 hg
          obtain ⟨hf, hi⟩ := List.mem_filter.1 hf
          exact ⟨f, hf, of_decide_eq_true hi v (by simp), h1, h2⟩
      obtain ⟨f, hf, hvf, h1, h2⟩ := key
      have hsy : SA y := sub_SA h1 (lessL_SA (hs f hf))
      have hvy : v ∉ y := fun h => by have := lessL_mem.1 (h1.subset h); simp at this
      have hx : SA (f.filter fun z => decide (z ∈ y ∨ z = v)) := List.Pairwise.filter _ (hs f hf)
      have hvx : v ∈ f.filter fun z => decide (z ∈ y ∨ z = v) := List.mem_filter.2 ⟨hvf, by simp⟩
      have e : lessL (f.filter fun z => decide (z ∈ y ∨ z = v)) [v] = y := by
        refine (lessL_SA hx).eq hsy fun z => ?_
        rw [lessL_mem, List.mem_filter]
        simp only [List.mem_singleton, decide_eq_true_eq]
        constructor
        · rintro ⟨⟨_, h3 | h3⟩, h4⟩
          · exact h3
          · exact absurd h3 h4
        · intro hz
          exact ⟨⟨(lessL_mem.1 (h1.subset hz)).1, .inl hz⟩, fun e => hvy (e ▸ hz)⟩
      refine ⟨_, List.mem_filter.2 ⟨(fcs_pos (by omega)).2 ⟨f, hf, List.filter_sublist, ?_⟩, by simpa using hvx⟩, e⟩
      have := lessL_one hx hvx
      rw [e] at this
      omega
/-- faces are those without a vertex and those of its link together with it -/
theorem nf_split {V : Int} {F : List (List Int)} (hc : Cplx V F) {v : Int} (hv0 : 0 ≤ v) (hv1 : v < V) (k : Nat) : nf F (k + 1) = nf (delL F v) (k + 1) + nf (lnkL F [v]) k := by
  have h := filter_two (fun x => decide (v ∈ x)) (fcs F (k + 1))
  rw [fcs_with hc hv0 hv1, fcs_without fun f hf => (hc.row f hf).2.1] at h
  unfold nf
  omega
theorem delL_sa {F : List (List Int)} (hs : ∀ f ∈ F, SA f) (v : Int) : ∀ l ∈ delL F v, SA l := fun l hl => by
  obtain ⟨f, hf, rfl⟩ := List.mem_map.1 hl
  exact lessL_SA (hs f hf)
/-- lists of a complex's vertices make one where they are not too many -/
theorem cx_fine {ls : List (List Int)} {V : Int} (hV : 0 ≤ V ∧ V ≤ 60) (h6 : ∀ l ∈ ls, l.length ≤ 6) (hx : ∀ l ∈ ls, ∀ x ∈ l, 0 ≤ x ∧ x < V) : (cvP ls).length ≤ 60 := by
  have h1 : Ins (cvP ls) (rngI V.toNat) := fun x hx' => by
    obtain ⟨l, hl, hxl⟩ := List.mem_flatten.1 ((cs_mem _ _).1 hx')
    have := hx l hl x hxl
    exact (rngI_mem _ _).2 ⟨this.1, by omega⟩
  have h2 : (cvP ls).length ≤ (rngI V.toNat).length := Ins.len (cs_SA _) (rngI_SA _) h1
  rw [rngI_len] at h2
  omega
theorem facP_len {ls : List (List Int)} : (facP ls).length ≤ ls.length :=
  Nat.le_trans (List.length_filter_le _ _) (putS_len ls)
theorem Cplx.sub {V : Int} {F : List (List Int)} (hc : Cplx V F) {g : List Int → List Int} (hg : ∀ f ∈ F, (g f).Sublist f) : ¬ CxBad (F.map g) := by
  have h6 : ∀ l ∈ F.map g, l.length ≤ 6 := fun l hl => by
    obtain ⟨f, hf, rfl⟩ := List.mem_map.1 hl
    exact Nat.le_trans (hg f hf).length_le (hc.row f hf).1.2
  rintro (⟨l, hl, h⟩ | h | h)
  · have := h6 l hl; omega
  · have := cx_fine hc.v h6 fun l hl x hx => by
      obtain ⟨f, hf, rfl⟩ := List.mem_map.1 hl
      exact (hc.row f hf).2.2 x ((hg f hf).subset hx)
    omega
  · have h1 := facP_len (ls := F.map g)
    have h2 := hc.f
    rw [List.length_map] at h1
    omega
theorem del_fine {V : Int} {F : List (List Int)} (hc : Cplx V F) (v : Int) : ¬ CxBad (delL F v) := hc.sub fun _ _ => List.filter_sublist
theorem lnk_fine {V : Int} {F : List (List Int)} (hc : Cplx V F) (face : List Int) : ¬ CxBad (lnkL F face) := by
  obtain ⟨h1, h2, _⟩ := hc.lnk face
  rintro (⟨l, hl, h⟩ | h | h)
  · have := (h2 l hl).2; omega
  · have := cx_fine (ls := lnkL F face) hc.v (fun l hl => (h2 l hl).2) fun l hl x hx => by
      obtain ⟨f, hf, rfl⟩ := lnkL_mem hl
      exact (hc.row f hf).2.2 x (lessL_mem.1 hx).1
    omega
  · have h3 := facP_len (ls := lnkL F face)
    omega

/-! skeletons -/
def sklL (F : List (List Int)) (k : Nat) : List (List Int) := F.flatMap fun f => ptsP f (min k f.length)
theorem sklL_mem {F : List (List Int)} {k : Nat} {x : List Int} : x ∈ sklL F k ↔ ∃ f ∈ F, x.Sublist f ∧ x.length = min k f.length := by
  unfold sklL
  rw [List.mem_flatMap]
  simp only [ptsP_mem]
theorem sub_lenK {α : Type} : ∀ {l x : List α} {k : Nat}, x.Sublist l → x.length ≤ k → k ≤ l.length → ∃ y : List α, x.Sublist y ∧ y.Sublist l ∧ y.length = k := by
  intro l
  induction l with
  | nil => intro x k h1 h2 h3; exact ⟨[], h1, List.Sublist.refl _, by simp at h3; simp [h3]⟩
  | cons a r ih =>
    intro x k h1 h2 h3
    by_cases hk : k = r.length + 1
    · exact ⟨a :: r, h1, List.Sublist.refl _, by simp [hk]⟩
    · have h3 : k ≤ r.length := by simp at h3; omega
      cases h1 with
      | cons _ h =>
        obtain ⟨y, e1, e2, e3⟩ := ih h h2 h3
        exact ⟨y, e1, e2.cons a, e3⟩
      | cons_cons _ h =>
        match k, h2 with
        | k + 1, h2 =>
          obtain ⟨y, e1, e2, e3⟩ := ih (k := k) h (by simpa using h2) (by omega)
          exact ⟨a :: y, e1.cons_cons a, e2.cons_cons a, by simp [e3]⟩
theorem nf_skl {F : List (List Int)} {k j : Nat} (h : j ≤ k) : nf (sklL F k) j = nf F j := by
  unfold nf
  congr 1
  refine (fcs_of (fcs_SL F j) fun x => ?_).symm
  rw [fcs_mem, faL_mem, faL_mem]
  constructor
  · rintro (h1 | ⟨h0, f, hf, h1, h2⟩)
    · exact .inl h1
    · have hl := h1.length_le
      obtain ⟨y, e1, e2, e3⟩ := sub_lenK h1 (k := min k f.length) (by omega) (by omega)
      exact .inr ⟨h0, y, sklL_mem.2 ⟨f, hf, e2, e3⟩, e1, h2⟩
  · rintro (h1 | ⟨h0, y, hy, h1, h2⟩)
    · exact .inl h1
    · obtain ⟨f, hf, e2, _⟩ := sklL_mem.1 hy
      exact .inr ⟨h0, f, hf, h1.trans e2, h2⟩
theorem skl_dpt {F : List (List Int)} {k : Nat} (h : k ≤ dpt F) : dpt (sklL F k) = k := by
  have h1 : dpt (sklL F k) ≤ k := dpt_bd fun x hx => by
    obtain ⟨f, _, _, e⟩ := sklL_mem.1 hx
    omega
  have h2 : 0 < nf (sklL F k) k := by rw [nf_skl (Nat.le_refl _)]; exact nf_pos h
  rcases Nat.lt_or_ge (dpt (sklL F k)) k with h3 | h3
  · rw [nf_short h3] at h2; omega
  · omega
theorem skl_fv {F : List (List Int)} {k : Nat} (h : k ≤ dpt F) : fvP (sklL F k) = (fvP F).take (k + 1) := by
  unfold fvP
  rw [skl_dpt h, ← List.map_take, List.take_range, show min (k + 1) (dpt F + 1) = k + 1 by omega]
  refine List.map_congr_left fun j hj => ?_
  have := List.mem_range.1 hj
  rw [show (fcs (sklL F k) j).length = nf (sklL F k) j from rfl, nf_skl (by omega)]; rfl
theorem sklL_sa {F : List (List Int)} (hs : ∀ f ∈ F, SA f) (k : Nat) : ∀ l ∈ sklL F k, SA l := fun l hl => by
  obtain ⟨f, hf, h1, _⟩ := sklL_mem.1 hl
  exact sub_SA h1 (hs f hf)
end Go.Proofs.YtdedegbendjmbaaGreatDoor.Vc
/-
  A vertex left out of a complex, walked on both sides. Conditions: as each states them.
-/
namespace Go.Proofs.YtdedegbendjmbaaGreatDoor.Vc
open Go.RowKit

def dlV (V : Int) (F : List (List Int)) (v : Int) : Int := if Cplx V F ∧ 0 ≤ v ∧ v < V then cxV (delL F v) else 0
def dlL (V : Int) (F : List (List Int)) (v : Int) : List (List Int) := if Cplx V F ∧ 0 ≤ v ∧ v < V then cxL (delL F v) else []
def dlK (V : Int) (F : List (List Int)) (v : Int) : Int := if Cplx V F then (if 0 ≤ v ∧ v < V then cxK (delL F v) else 2) else 1
theorem delL_succ {F : List (List Int)} {v : Int} {i : Nat} (h : i < F.length) : delL (F.take (i + 1)) v = delL (F.take i) v ++ [lessL (gl F (i : Int)) [v]] := by
  unfold delL
  rw [take_succ_gl h, List.map_append]; rfl
theorem delL_len (F : List (List Int)) (v : Int) : (delL F v).length = F.length := by simp [delL]
theorem Cplx.del {V : Int} {F : List (List Int)} (h : Cplx V F) (v : Int) : (delL F v).length ≤ 400 ∧ (∀ l ∈ delL F v, SA l ∧ l.length ≤ 6) ∧ (delL F v).flatten.length ≤ 2400 := by
  have h1 : (delL F v).length ≤ 400 := by rw [delL_len]; exact h.f
  have h2 : ∀ l ∈ delL F v, SA l ∧ l.length ≤ 6 := fun l hl => by
    obtain ⟨f, hf, rfl⟩ := List.mem_map.1 hl
    exact ⟨lessL_SA (h.row f hf).2.1, Nat.le_trans (lessL_len _ _) (h.row f hf).1.2⟩
  refine ⟨h1, h2, ?_⟩
  have := flat_le2 (b := 6) fun l hl => (h2 l hl).2
  omega

theorem implDeletionOf_c (V : Int) (A : Option Addr) (n c : Nat) (rs : List SlV) (F : List (List Int)) (v : Int) (w : World) (hT : Tab w) (hR : RowsI w A n rs F) (hn : n ≤ 9223372036854775807) :
    Ret Tryz.prog 38 [.agg #[.int .i64 V, .slice A n c], .int .i64 v] w (AnsC (dlV V F v) (dlL V F v) (dlK V F v) w) := by
  have hFl := hR.len
  refine Ret.of_cd Tryz.func38 rfl Tryz.ntmps38 rfl (postc2 rfl rfl) ?_
  refine Cd.seq ?_
  refine Cd.region ?_
  refine Ops.box2 (St.refl w) rfl rfl ?_
  intro Ab w1 hS1
  refine Ops.new2 hS1 rfl ?_
  intro A4 w2 hS2
  refine Ops.mv_int rfl rfl rfl ?_
  refine Ops.nil ?_
  refine thenQ_n ?_
  refine Cd.seq ?_
  refine Cd.block ?_
  refine Cd.seq ?_
  refine Cd.region ?_
  refine Ops.ld_agg 1 (hS2.rd 1 rfl) rfl rfl rfl ?_
  refine Ops.call (isComplex_c V A n c rs F _ (hT.later hS2.below) (hS2.oldRows hR) hn) rfl rfl rfl ?_
  rintro _ w3 ⟨rfl, hst⟩
  have hS3 := hS2.later hst.below
  first | refine Ops.not_p rfl rfl ?_ | refine Ops.not rfl rfl ?_
  refine Ops.mv_bool rfl rfl rfl ?_
  refine Ops.nil ?_
  refine thenQ_n ?_
  unfold dlV dlL dlK
  refine Cd.cond_p _ rfl (fun h1 => ?_) (fun h1 => ?_)
  · rw [if_neg (fun h => h1 h.1), if_neg (fun h => h1 h.1), if_neg h1]
    refine Cd.seq ?_
    refine Cd.region ?_
    refine Ops.bldZ2 (by exact inferInstance) (by exact inferInstance) rfl rfl rfl ?_
    refine Ops.st_agg 2 0 hS3 rfl rfl rfl rfl rfl rfl rfl ?_
    intro w9 hS9
    refine Ops.mv_int rfl rfl rfl ?_
    refine Ops.nil ?_
    refine thenQ_n ?_
    refine Cd.ret ?_
    refine blockQ_r ?_
    refine thenQ_r ?_
    skip
    refine retc2_r rfl (hS9.rd 0 rfl) rfl ?_
    exact AnsC.none hS9
  have h1 := Classical.not_not.1 h1
  have hn4 := h1.f
  have hV := h1.v
  refine Cd.seq ?_
  refine Cd.region ?_
  refine Ops.mv_int rfl rfl rfl ?_
  refine Ops.fld (hS3.rd 1 rfl) rfl rfl rfl rfl inferInstance ?_
  refine Ops.ldf_i (hS3.rd 1 rfl) rfl rfl rfl rfl rfl ?_
  refine Ops.sub rfl rfl rfl (by omega) ?_
  refine Ops.call (within_c _ _ _ _) rfl rfl rfl ?_
  rintro _ w3 ⟨rfl, rfl⟩
  first | refine Ops.not_p rfl rfl ?_ | refine Ops.not rfl rfl ?_
  refine Ops.mv_bool rfl rfl rfl ?_
  refine Ops.nil ?_
  refine thenQ_n ?_
  refine Cd.cond_p _ rfl (fun h2 => ?_) (fun h2 => ?_)
  · have h2' : ¬ (0 ≤ v ∧ v < V) := fun h => h2 (by omega)
    rw [if_neg (fun h => h2' h.2), if_neg (fun h => h2' h.2), if_pos h1, if_neg h2']
    refine Cd.seq ?_
    refine Cd.region ?_
    refine Ops.bldZ2 (by exact inferInstance) (by exact inferInstance) rfl rfl rfl ?_
    refine Ops.st_agg 2 0 hS3 rfl rfl rfl rfl rfl rfl rfl ?_
    intro w9 hS9
    refine Ops.mv_int rfl rfl rfl ?_
    refine Ops.nil ?_
    refine thenQ_n ?_
    refine Cd.ret ?_
    refine blockQ_r ?_
    refine thenQ_r ?_
    skip
    refine retc2_r rfl (hS9.rd 0 rfl) rfl ?_
    exact AnsC.none hS9
  have h2' : 0 ≤ v ∧ v < V := by have := Classical.not_not.1 h2; omega
  rw [if_pos ⟨h1, h2'⟩, if_pos ⟨h1, h2'⟩, if_pos h1, if_pos h2']
  obtain ⟨hL1, hL2, hL3⟩ := h1.del v
  refine Cd.skip ?_
  refine blockQ_n ?_
  refine thenQ_n ?_
  refine Cd.seq ?_
  refine Cd.region ?_
  refine Ops.mv_sl rfl rfl rfl ?_
  refine Ops.nil ?_
  refine thenQ_n ?_
  refine Cd.seq ?_
  refine Cd.seq ?_
  refine Cd.region ?_
  refine Ops.fld (hS3.rd 1 rfl) rfl rfl rfl rfl inferInstance ?_
  refine Ops.ldf_s (hS3.rd 1 rfl) rfl rfl rfl rfl rfl ?_
  refine Ops.len rfl rfl ?_
  refine Ops.mv_int rfl rfl rfl ?_
  refine Ops.nil ?_
  refine thenQ_n ?_
  refine Cd.block ?_
  have hS5 : St w w3 ([cxZ A4, cxB Ab V A n c, CkR 25 none (delL (F.take 0) v).length 0 []] ++ rowsCk 2 [] (delL (F.take 0) v)) := (hS3.nil 25).perm (List.perm_append_comm (l₁ := [CkR 25 none 0 0 []]) (l₂ := [_, _]))
  refine Cd.loop (α := Nat × (Option Addr × Nat) × List SlV) (fun z => [(1, .int .i64 v), (4, .pointer A4), (6, .slice z.2.1.1 (delL (F.take z.1) v).length z.2.1.2), (23, .slice A n c), (24, .int .i64 (n : Int)), (25, .int .i64 (z.1 : Int))])
    (fun z w' => z.1 ≤ n ∧ z.2.2.length = (delL (F.take z.1) v).length ∧ St w w' ([cxZ A4, cxB Ab V A n c, CkR 25 z.2.1.1 (delL (F.take z.1) v).length z.2.1.2 z.2.2] ++ rowsCk 2 z.2.2 (delL (F.take z.1) v))) (fun z => n - z.1) (0, (none, 0), []) ⟨rfl, rfl, rfl, rfl, rfl, rfl, trivial⟩ ⟨Nat.zero_le _, rfl, hS5⟩ ?_
  clear hS5 hS3 hS2 hS1
  rintro ⟨i, ⟨A5, c5⟩, rs5⟩ e w3 ⟨hi, hrl, hS3⟩
  dsimp only at hi hrl hS3 ⊢
  refine Cd.seq ?_
  refine Cd.region ?_
  refine Ops.lss rfl rfl rfl ?_
  refine Ops.nil ?_
  refine thenQ_n ?_
  refine Cd.seq ?_
  refine Cd.cond_p _ rfl (fun h3 => ?_) (fun h3 => ?_)
  · have hiF : i < F.length := by omega
    have hM := hS3.oldRows hR
    have hrow := hM.at_ (i := (i : Int)) (by omega) (by omega)
    have hrl0 := hrow.1
    have hfl := (h1.at_ hiF).1
    have hsucc := delL_succ (v := v) hiF
    have hll := delL_len (F.take i) v
    have htl : (F.take i).length = i := by simp; omega
    refine Cd.skip ?_
    refine thenQ_n ?_
    refine Cd.seq ?_
    refine Cd.block ?_
    refine Cd.seq ?_
    refine Cd.region ?_
    refine Ops.idx hM.top.2 rfl rfl rfl (by omega) (by omega) ?_
    refine Ops.ld_sl hM.top rfl (by omega) rfl rfl ?_
    refine Ops.mv_sl rfl rfl rfl ?_
    refine Ops.nil ?_
    refine thenQ_n ?_
    refine Cd.region ?_
    refine Ops.mv_sl rfl rfl rfl ?_
    refine Ops.mv_sl rfl rfl rfl ?_
    refine Ops.mv_int rfl rfl rfl ?_
    refine Ops.bs1I (St.refl w3) rfl rfl rfl ?_
    intro A9 w4 hT4
    have hrow4 := hrow.later hT4.below
    refine Ops.call (lessOf_c _ _ _ (gl F (i : Int)) _ _ _ [v] _ hrow4 (hT4.rdI 0 rfl) (by omega) (by omega)) rfl rfl rfl ?_
    rintro _ w5 ⟨A2, c2, rfl, hst⟩
    have hS5 := (hS3.later hT4.below).call hst
    refine Ops.bs1R hS5 rfl rfl rfl ?_
    intro A7 w6 hS6
    refine Ops.appR 4 hS6 rfl (hS6.rdR 0 rfl) rfl rfl rfl (by omega) (by omega) rfl ?_
    intro A8 c8 w7 hS7
    have hS7 := hS7.tail
    have hl1 : (delL (F.take (i + 1)) v).length = (delL (F.take i) v).length + 1 := by rw [hsucc]; simp
    refine Ops.mv_sl rfl rfl rfl ?_
    refine Ops.nil ?_
    refine blockQ_n ?_
    refine thenQ_n ?_
    refine Cd.region ?_
    refine Ops.add rfl rfl rfl (by omega) ?_
    refine Ops.mv_int rfl rfl rfl ?_
    refine Ops.nil ?_
    refine thenQ_n ?_
    refine ⟨(i + 1, (A8, c8), rs5 ++ [⟨A2, (lessL (gl F (i : Int)) [v]).length, c2⟩]), by show n - (i + 1) < n - i; omega, ⟨rfl, rfl, by show Value.slice A8 ((delL (F.take i) v).length + 1) c8 = .slice A8 (delL (F.take (i + 1)) v).length c8; rw [hl1], rfl, rfl, rfl, trivial⟩, by show i + 1 ≤ n; omega, by show (rs5 ++ [_]).length = _; rw [hl1, List.length_append, hrl]; rfl, ?_⟩
    show St w w7 ([cxZ A4, cxB Ab V A n c, CkR 25 A8 (delL (F.take (i + 1)) v).length c8 (rs5 ++ [⟨A2, (lessL (gl F (i : Int)) [v]).length, c2⟩])] ++ rowsCk 2 (rs5 ++ [⟨A2, (lessL (gl F (i : Int)) [v]).length, c2⟩]) (delL (F.take (i + 1)) v))
    rw [hl1, hsucc, rowsCk_append hrl, ← List.append_assoc]
    exact hS7.perm (List.perm_append_comm (l₁ := [CkI 2 A2 (lessL (gl F (i : Int)) [v]).length c2 (lessL (gl F (i : Int)) [v])]))
  · rw [List.take_of_length_le (by omega)] at hrl hS3 ⊢
    have hS4 : St w w3 (mat 25 2 A5 (delL F v).length c5 rs5 (delL F v)) := hS3.tail.tail
    have hid := map_cs_id (L := delL F v) fun l hl => (hL2 l hl).1
    have hC := complexOf_c A5 _ c5 rs5 (delL F v) w3 (hT.later hS3.below) (St.rowsI (ks := []) (by rwa [List.append_nil]) rfl) (by omega) (fun l hl => by have := (hL2 l hl).2; omega)
    rw [hid] at hC
    refine Cd.exit ?_
    refine thenQ_x ?_
    refine thenQ_x ?_
    refine blockQ_x ?_
    refine thenQ_n ?_
    refine Cd.seq ?_
    refine Cd.region ?_
    refine Ops.mv_sl rfl rfl rfl ?_
    refine Ops.call hC rfl rfl rfl ?_
    rintro _ w6 ⟨A6, c6, rs6, rfl, hrl6, hst6⟩
    have hS6 := (hS3.sub (List.sublist_append_left _ _)).call2 hst6
    refine Ops.extract rfl rfl rfl ?_
    refine Ops.extract rfl rfl rfl ?_
    refine Ops.st_agg 2 0 hS6 rfl rfl rfl rfl rfl rfl rfl ?_
    intro w7 hS7
    refine Ops.mv_int rfl rfl rfl ?_
    refine Ops.nil ?_
    refine thenQ_n ?_
    refine Cd.ret ?_
    skip
    refine retc2_r rfl (hS7.rd 0 rfl) rfl ?_
    exact ⟨A6, c6, rs6, rfl, hrl6, hS7.sub (List.Sublist.cons _ (List.Sublist.cons _ (List.sublist_cons_self _ _)))⟩

theorem specDeletionOf_c (V : Int) (A : Option Addr) (n c : Nat) (rs : List SlV) (F : List (List Int)) (v : Int) (w : World) (hR : RowsI w A n rs F) (hn : n ≤ 9223372036854775807) :
    Ret Tryz.prog 39 [.agg #[.int .i64 V, .slice A n c], .int .i64 v] w (AnsC (dlV V F v) (dlL V F v) (dlK V F v) w) := by
  have hFl := hR.len
  refine Ret.of_cd Tryz.func39 rfl Tryz.ntmps39 rfl (postc2 rfl rfl) ?_
  refine Cd.seq ?_
  refine Cd.region ?_
  refine Ops.box2 (St.refl w) rfl rfl ?_
  intro Ab w1 hS1
  refine Ops.new2 hS1 rfl ?_
  intro A4 w2 hS2
  refine Ops.mv_int rfl rfl rfl ?_
  refine Ops.nil ?_
  refine thenQ_n ?_
  refine Cd.seq ?_
  refine Cd.block ?_
  refine Cd.seq ?_
  refine Cd.region ?_
  refine Ops.ld_agg 1 (hS2.rd 1 rfl) rfl rfl rfl ?_
  refine Ops.call (l17Is_c V A n c rs F _ (hS2.oldRows hR) hn) rfl rfl rfl ?_
  rintro _ w3 ⟨rfl, hst⟩
  have hS3 := hS2.later hst.below
  first | refine Ops.not_p rfl rfl ?_ | refine Ops.not rfl rfl ?_
  refine Ops.mv_bool rfl rfl rfl ?_
  refine Ops.nil ?_
  refine thenQ_n ?_
  unfold dlV dlL dlK
  refine Cd.cond_p _ rfl (fun h1 => ?_) (fun h1 => ?_)
  · rw [if_neg (fun h => h1 h.1), if_neg (fun h => h1 h.1), if_neg h1]
    refine Cd.seq ?_
    refine Cd.region ?_
    refine Ops.bldZ2 (by exact inferInstance) (by exact inferInstance) rfl rfl rfl ?_
    refine Ops.st_agg 2 0 hS3 rfl rfl rfl rfl rfl rfl rfl ?_
    intro w9 hS9
    refine Ops.mv_int rfl rfl rfl ?_
    refine Ops.nil ?_
    refine thenQ_n ?_
    refine Cd.ret ?_
    refine blockQ_r ?_
    refine thenQ_r ?_
    skip
    refine retc2_r rfl (hS9.rd 0 rfl) rfl ?_
    exact AnsC.none hS9
  have h1 := Classical.not_not.1 h1
  have hn4 := h1.f
  have hV := h1.v
  refine Cd.seq ?_
  refine Cd.region ?_
  refine Ops.mv_int rfl rfl rfl ?_
  refine Ops.fld (hS3.rd 1 rfl) rfl rfl rfl rfl inferInstance ?_
  refine Ops.ldf_i (hS3.rd 1 rfl) rfl rfl rfl rfl rfl ?_
  refine Ops.sub rfl rfl rfl (by omega) ?_
  refine Ops.call (l01In_c _ _ _ _) rfl rfl rfl ?_
  rintro _ w3 ⟨rfl, rfl⟩
  first | refine Ops.not_p rfl rfl ?_ | refine Ops.not rfl rfl ?_
  refine Ops.mv_bool rfl rfl rfl ?_
  refine Ops.nil ?_
  refine thenQ_n ?_
  refine Cd.cond_p _ rfl (fun h2 => ?_) (fun h2 => ?_)
  · have h2' : ¬ (0 ≤ v ∧ v < V) := fun h => h2 (by omega)
    rw [if_neg (fun h => h2' h.2), if_neg (fun h => h2' h.2), if_pos h1, if_neg h2']
    refine Cd.seq ?_
    refine Cd.region ?_
    refine Ops.bldZ2 (by exact inferInstance) (by exact inferInstance) rfl rfl rfl ?_
    refine Ops.st_agg 2 0 hS3 rfl rfl rfl rfl rfl rfl rfl ?_
    intro w9 hS9
    refine Ops.mv_int rfl rfl rfl ?_
    refine Ops.nil ?_
    refine thenQ_n ?_
    refine Cd.ret ?_
    refine blockQ_r ?_
    refine thenQ_r ?_
    skip
    refine retc2_r rfl (hS9.rd 0 rfl) rfl ?_
    exact AnsC.none hS9
  have h2' : 0 ≤ v ∧ v < V := by have := Classical.not_not.1 h2; omega
  rw [if_pos ⟨h1, h2'⟩, if_pos ⟨h1, h2'⟩, if_pos h1, if_pos h2']
  obtain ⟨hL1, hL2, hL3⟩ := h1.del v
  refine Cd.skip ?_
  refine blockQ_n ?_
  refine thenQ_n ?_
  refine Cd.seq ?_
  refine Cd.region ?_
  refine Ops.bs0 hS3 rfl ?_
  intro A5 w4 hS4
  have hS5 : St w w4 ([cxZ A4, cxB Ab V A n c, CkR 25 A5 (delL (F.take 0) v).length 0 []] ++ rowsCk 2 [] (delL (F.take 0) v)) := hS4.perm (List.perm_append_comm (l₁ := [_]) (l₂ := [_, _]))
  refine Ops.mv_sl rfl rfl rfl ?_
  refine Ops.nil ?_
  refine thenQ_n ?_
  refine Cd.seq ?_
  refine Cd.seq ?_
  refine Cd.region ?_
  refine Ops.mv_int rfl rfl rfl ?_
  refine Ops.nil ?_
  refine thenQ_n ?_
  refine Cd.block ?_
  refine Cd.loop (α := Nat × (Option Addr × Nat) × List SlV) (fun z => [(1, .int .i64 v), (2, .pointer Ab), (4, .pointer A4), (6, .slice z.2.1.1 (delL (F.take z.1) v).length z.2.1.2), (7, .int .i64 (z.1 : Int))])
    (fun z w' => z.1 ≤ n ∧ z.2.2.length = (delL (F.take z.1) v).length ∧ St w w' ([cxZ A4, cxB Ab V A n c, CkR 25 z.2.1.1 (delL (F.take z.1) v).length z.2.1.2 z.2.2] ++ rowsCk 2 z.2.2 (delL (F.take z.1) v))) (fun z => n - z.1) (0, (A5, 0), []) ⟨rfl, rfl, rfl, rfl, rfl, trivial⟩ ⟨Nat.zero_le _, rfl, hS5⟩ ?_
  clear hS5 hS4 hS3 hS2 hS1
  rintro ⟨i, ⟨A5, c5⟩, rs5⟩ e w3 ⟨hi, hrl, hS3⟩
  dsimp only at hi hrl hS3 ⊢
  have hB3 := hS3.rd 1 rfl
  refine Cd.seq ?_
  refine Cd.seq ?_
  refine Cd.region ?_
  refine Ops.mv_int rfl rfl rfl ?_
  refine Ops.fld hB3 rfl rfl rfl rfl inferInstance ?_
  refine Ops.ldf_s hB3 rfl rfl rfl rfl rfl ?_
  refine Ops.len rfl rfl ?_
  refine Ops.lss rfl rfl rfl ?_
  refine Ops.nil ?_
  refine thenQ_n ?_
  refine Cd.cond_p _ rfl (fun h3 => ?_) (fun h3 => ?_)
  · have hiF : i < F.length := by omega
    have hM := hS3.oldRows hR
    have hrow := hM.at_ (i := (i : Int)) (by omega) (by omega)
    have hrl0 := hrow.1
    have hfl := (h1.at_ hiF).1
    have hsucc := delL_succ (v := v) hiF
    have hll := delL_len (F.take i) v
    have htl : (F.take i).length = i := by simp; omega
    refine Cd.skip ?_
    refine thenQ_n ?_
    refine Cd.seq ?_
    refine Cd.block ?_
    refine Cd.region ?_
    refine Ops.mv_sl rfl rfl rfl ?_
    refine Ops.fld hB3 rfl rfl rfl rfl inferInstance ?_
    refine Ops.ldf_s hB3 rfl rfl rfl rfl rfl ?_
    refine Ops.mv_int rfl rfl rfl ?_
    refine Ops.idx hM.top.2 rfl rfl rfl (by omega) (by omega) ?_
    refine Ops.ld_sl hM.top rfl (by omega) rfl rfl ?_
    refine Ops.mv_int rfl rfl rfl ?_
    refine Ops.bs1I (St.refl w3) rfl rfl rfl ?_
    intro A9 w4 hT4
    have hrow4 := hrow.later hT4.below
    refine Ops.call (l17Without_c _ _ _ (gl F (i : Int)) _ _ _ [v] _ hrow4 (hT4.rdI 0 rfl) (by omega) (by omega)) rfl rfl rfl ?_
    rintro _ w5 ⟨A2, c2, rfl, hst⟩
    have hS5 := (hS3.later hT4.below).call hst
    refine Ops.bs1R hS5 rfl rfl rfl ?_
    intro A7 w6 hS6
    refine Ops.appR 4 hS6 rfl (hS6.rdR 0 rfl) rfl rfl rfl (by omega) (by omega) rfl ?_
    intro A8 c8 w7 hS7
    have hS7 := hS7.tail
    have hl1 : (delL (F.take (i + 1)) v).length = (delL (F.take i) v).length + 1 := by rw [hsucc]; simp
    refine Ops.mv_sl rfl rfl rfl ?_
    refine Ops.nil ?_
    refine blockQ_n ?_
    refine thenQ_n ?_
    refine Cd.region ?_
    refine Ops.mv_int rfl rfl rfl ?_
    refine Ops.add rfl rfl rfl (by omega) ?_
    refine Ops.mv_int rfl rfl rfl ?_
    refine Ops.nil ?_
    refine thenQ_n ?_
    refine ⟨(i + 1, (A8, c8), rs5 ++ [⟨A2, (lessL (gl F (i : Int)) [v]).length, c2⟩]), by show n - (i + 1) < n - i; omega, ⟨rfl, rfl, rfl, by show Value.slice A8 ((delL (F.take i) v).length + 1) c8 = .slice A8 (delL (F.take (i + 1)) v).length c8; rw [hl1], rfl, trivial⟩, by show i + 1 ≤ n; omega, by show (rs5 ++ [_]).length = _; rw [hl1, List.length_append, hrl]; rfl, ?_⟩
    show St w w7 ([cxZ A4, cxB Ab V A n c, CkR 25 A8 (delL (F.take (i + 1)) v).length c8 (rs5 ++ [⟨A2, (lessL (gl F (i : Int)) [v]).length, c2⟩])] ++ rowsCk 2 (rs5 ++ [⟨A2, (lessL (gl F (i : Int)) [v]).length, c2⟩]) (delL (F.take (i + 1)) v))
    rw [hl1, hsucc, rowsCk_append hrl, ← List.append_assoc]
    exact hS7.perm (List.perm_append_comm (l₁ := [CkI 2 A2 (lessL (gl F (i : Int)) [v]).length c2 (lessL (gl F (i : Int)) [v])]))
  · rw [List.take_of_length_le (by omega)] at hrl hS3 ⊢
    have hS4 : St w w3 (mat 25 2 A5 (delL F v).length c5 rs5 (delL F v)) := hS3.tail.tail
    refine Cd.exit ?_
    refine thenQ_x ?_
    refine thenQ_x ?_
    refine blockQ_x ?_
    refine thenQ_n ?_
    refine Cd.seq ?_
    refine Cd.region ?_
    refine Ops.mv_sl rfl rfl rfl ?_
    refine Ops.call (l17Make_c A5 _ c5 rs5 (delL F v) _ (St.rowsI (ks := []) (by rwa [List.append_nil]) rfl) (by omega) (by omega) (fun l hl => (hL2 l hl).1)) rfl rfl rfl ?_
    rintro _ w6 ⟨A6, c6, rs6, rfl, hrl6, hst6⟩
    have hS6 := (hS3.sub (List.sublist_append_left _ _)).call2 hst6
    refine Ops.extract rfl rfl rfl ?_
    refine Ops.extract rfl rfl rfl ?_
    refine Ops.st_agg 2 0 hS6 rfl rfl rfl rfl rfl rfl rfl ?_
    intro w7 hS7
    refine Ops.mv_int rfl rfl rfl ?_
    refine Ops.nil ?_
    refine thenQ_n ?_
    refine Cd.ret ?_
    skip
    refine retc2_r rfl (hS7.rd 0 rfl) rfl ?_
    exact ⟨A6, c6, rs6, rfl, hrl6, hS7.sub (List.Sublist.cons _ (List.Sublist.cons _ (List.sublist_cons_self _ _)))⟩
end Go.Proofs.YtdedegbendjmbaaGreatDoor.Vc
/-
  Skeletons of complexes, walked on both sides. Conditions: as each states them.
-/
namespace Go.Proofs.YtdedegbendjmbaaGreatDoor.Vc
open Go.RowKit

def skV (V : Int) (F : List (List Int)) (k : Int) : Int := if Cplx V F ∧ 0 ≤ k ∧ k ≤ 6 then cxV (sklL F k.toNat) else 0
def skL (V : Int) (F : List (List Int)) (k : Int) : List (List Int) := if Cplx V F ∧ 0 ≤ k ∧ k ≤ 6 then cxL (sklL F k.toNat) else []
def skK (V : Int) (F : List (List Int)) (k : Int) : Int := if Cplx V F then (if 0 ≤ k ∧ k ≤ 6 then cxK (sklL F k.toNat) else 2) else 1
theorem sklL_succ {F : List (List Int)} {k i : Nat} (h : i < F.length) : sklL (F.take (i + 1)) k = sklL (F.take i) k ++ ptsP (gl F (i : Int)) (min k (gl F (i : Int)).length) := by
  unfold sklL
  rw [take_succ_gl h, List.flatMap_append]; simp
theorem sklL_num {F : List (List Int)} {k : Nat} (h6 : ∀ f ∈ F, f.length ≤ 6) : (sklL F k).length ≤ 64 * F.length := by
  unfold sklL
  induction F with
  | nil => simp
  | cons a r ih =>
    have h1 := ptsP_small (l := a) (min k a.length) (h6 a (by simp))
    have h2 := ih fun f hf => h6 f (by simp [hf])
    rw [List.flatMap_cons, List.length_append, List.length_cons]
    omega
theorem Cplx.skl {V : Int} {F : List (List Int)} (h : Cplx V F) (k : Nat) : (sklL F k).length ≤ 25600 ∧ (∀ l ∈ sklL F k, SA l ∧ l.length ≤ 6) ∧ (sklL F k).flatten.length ≤ 153600 := by
  have h1 : (sklL F k).length ≤ 25600 := by
    have := sklL_num (k := k) fun f hf => (h.row f hf).1.2
    have := h.f
    omega
  have h2 : ∀ l ∈ sklL F k, SA l ∧ l.length ≤ 6 := fun l hl => by
    obtain ⟨f, hf, h3, h4⟩ := sklL_mem.1 hl
    exact ⟨sub_SA h3 (h.row f hf).2.1, Nat.le_trans h3.length_le (h.row f hf).1.2⟩
  refine ⟨h1, h2, ?_⟩
  have := flat_le2 (b := 6) fun l hl => (h2 l hl).2
  omega
theorem ptsP_full {l : List Int} (h : SA l) : ptsP l l.length = [l] :=
  SL.eq (ptsP_SL h) (by simp [SL]) fun x => by
    rw [ptsP_mem]
    constructor
    · rintro ⟨h1, h2⟩
      rw [h1.eq_of_length h2]; simp
    · intro hx
      obtain rfl : x = l := by simpa using hx
      exact ⟨List.Sublist.refl _, rfl⟩
/-- parts put one by one into no lists are the parts in order -/
theorem prP_nil {l : List Int} (h : SA l) (k : Nat) : prP [] l [] k 0 = ptsP l k :=
  SL.eq (prP_SL (by simp [SL]) _ _ _ _) (ptsP_SL h) fun x => by
    unfold prP
    rw [(foldPut_SL _ (by simp [SL])).2]
    simp

theorem implSkeletonOf_c (V : Int) (A : Option Addr) (n c : Nat) (rs : List SlV) (F : List (List Int)) (k : Int) (w : World) (hT : Tab w) (hR : RowsI w A n rs F) (hn : n ≤ 9223372036854775807) :
    Ret Tryz.prog 43 [.agg #[.int .i64 V, .slice A n c], .int .i64 k] w (AnsC (skV V F k) (skL V F k) (skK V F k) w) := by
  have hFl := hR.len
  refine Ret.of_cd Tryz.func43 rfl Tryz.ntmps43 rfl (postc2 rfl rfl) ?_
  refine Cd.seq ?_
  refine Cd.region ?_
  refine Ops.box2 (St.refl w) rfl rfl ?_
  intro Ab w1 hS1
  refine Ops.new2 hS1 rfl ?_
  intro A4 w2 hS2
  refine Ops.mv_int rfl rfl rfl ?_
  refine Ops.nil ?_
  refine thenQ_n ?_
  refine Cd.seq ?_
  refine Cd.block ?_
  refine Cd.seq ?_
  refine Cd.region ?_
  refine Ops.ld_agg 1 (hS2.rd 1 rfl) rfl rfl rfl ?_
  refine Ops.call (isComplex_c V A n c rs F _ (hT.later hS2.below) (hS2.oldRows hR) hn) rfl rfl rfl ?_
  rintro _ w3 ⟨rfl, hst⟩
  have hS3 := hS2.later hst.below
  first | refine Ops.not_p rfl rfl ?_ | refine Ops.not rfl rfl ?_
  refine Ops.mv_bool rfl rfl rfl ?_
  refine Ops.nil ?_
  refine thenQ_n ?_
  unfold skV skL skK
  refine Cd.cond_p _ rfl (fun h1 => ?_) (fun h1 => ?_)
  · rw [if_neg (fun h => h1 h.1), if_neg (fun h => h1 h.1), if_neg h1]
    refine Cd.seq ?_
    refine Cd.region ?_
    refine Ops.bldZ2 (by exact inferInstance) (by exact inferInstance) rfl rfl rfl ?_
    refine Ops.st_agg 2 0 hS3 rfl rfl rfl rfl rfl rfl rfl ?_
    intro w9 hS9
    refine Ops.mv_int rfl rfl rfl ?_
    refine Ops.nil ?_
    refine thenQ_n ?_
    refine Cd.ret ?_
    refine blockQ_r ?_
    refine thenQ_r ?_
    skip
    refine retc2_r rfl (hS9.rd 0 rfl) rfl ?_
    exact AnsC.none hS9
  have h1 := Classical.not_not.1 h1
  have hn4 := h1.f
  refine Cd.seq ?_
  refine Cd.region ?_
  refine Ops.mv_int rfl rfl rfl ?_
  refine Ops.call (within_c _ _ _ _) rfl rfl rfl ?_
  rintro _ w3 ⟨rfl, rfl⟩
  first | refine Ops.not_p rfl rfl ?_ | refine Ops.not rfl rfl ?_
  refine Ops.mv_bool rfl rfl rfl ?_
  refine Ops.nil ?_
  refine thenQ_n ?_
  refine Cd.cond_p _ rfl (fun h2 => ?_) (fun h2 => ?_)
  · rw [if_neg (fun h => h2 h.2), if_neg (fun h => h2 h.2), if_pos h1, if_neg h2]
    refine Cd.seq ?_
    refine Cd.region ?_
    refine Ops.bldZ2 (by exact inferInstance) (by exact inferInstance) rfl rfl rfl ?_
    refine Ops.st_agg 2 0 hS3 rfl rfl rfl rfl rfl rfl rfl ?_
    intro w9 hS9
    refine Ops.mv_int rfl rfl rfl ?_
    refine Ops.nil ?_
    refine thenQ_n ?_
    refine Cd.ret ?_
    refine blockQ_r ?_
    refine thenQ_r ?_
    skip
    refine retc2_r rfl (hS9.rd 0 rfl) rfl ?_
    exact AnsC.none hS9
  have h2 := Classical.not_not.1 h2
  rw [if_pos ⟨h1, h2⟩, if_pos ⟨h1, h2⟩, if_pos h1, if_pos h2]
  obtain ⟨kn, rfl⟩ : ∃ kn : Nat, k = kn := ⟨k.toNat, by omega⟩
  rw [Int.toNat_natCast]
  obtain ⟨hL1, hL2, hL3⟩ := h1.skl kn
  refine Cd.skip ?_
  refine blockQ_n ?_
  refine thenQ_n ?_
  refine Cd.seq ?_
  refine Cd.region ?_
  refine Ops.mv_sl rfl rfl rfl ?_
  refine Ops.nil ?_
  refine thenQ_n ?_
  refine Cd.seq ?_
  refine Cd.seq ?_
  refine Cd.region ?_
  refine Ops.fld (hS3.rd 1 rfl) rfl rfl rfl rfl inferInstance ?_
  refine Ops.ldf_s (hS3.rd 1 rfl) rfl rfl rfl rfl rfl ?_
  refine Ops.len rfl rfl ?_
  refine Ops.mv_int rfl rfl rfl ?_
  refine Ops.nil ?_
  refine thenQ_n ?_
  refine Cd.block ?_
  have hS5 : St w w3 ([cxZ A4, cxB Ab V A n c, CkR 25 none (sklL (F.take 0) kn).length 0 []] ++ rowsCk 2 [] (sklL (F.take 0) kn)) := (hS3.nil 25).perm (List.perm_append_comm (l₁ := [CkR 25 none 0 0 []]) (l₂ := [_, _]))
  refine Cd.loop (α := Nat × (Option Addr × Nat) × List SlV) (fun z => [(1, .int .i64 (kn : Int)), (4, .pointer A4), (6, .slice z.2.1.1 (sklL (F.take z.1) kn).length z.2.1.2), (20, .slice A n c), (21, .int .i64 (n : Int)), (22, .int .i64 (z.1 : Int))])
    (fun z w' => z.1 ≤ n ∧ z.2.2.length = (sklL (F.take z.1) kn).length ∧ St w w' ([cxZ A4, cxB Ab V A n c, CkR 25 z.2.1.1 (sklL (F.take z.1) kn).length z.2.1.2 z.2.2] ++ rowsCk 2 z.2.2 (sklL (F.take z.1) kn))) (fun z => n - z.1) (0, (none, 0), []) ⟨rfl, rfl, rfl, rfl, rfl, rfl, trivial⟩ ⟨Nat.zero_le _, rfl, hS5⟩ ?_
  clear hS5 hS3 hS2 hS1
  rintro ⟨i, ⟨A5, c5⟩, rs5⟩ e w3 ⟨hi, hrl, hS3⟩
  dsimp only at hi hrl hS3 ⊢
  refine Cd.seq ?_
  refine Cd.region ?_
  refine Ops.lss rfl rfl rfl ?_
  refine Ops.nil ?_
  refine thenQ_n ?_
  refine Cd.seq ?_
  refine Cd.cond_p _ rfl (fun h3 => ?_) (fun h3 => ?_)
  · have hiF : i < F.length := by omega
    have hM := hS3.oldRows hR
    have hrow := hM.at_ (i := (i : Int)) (by omega) (by omega)
    have hcap := hM.cap_ (i := (i : Int)) (by omega) (by omega)
    have hrl0 := hrow.1
    have hfl := (h1.at_ hiF).1
    have hsucc := sklL_succ (k := kn) hiF
    have hll := sklL_num (k := kn) (F := F.take i) fun f hf => (h1.row f (List.mem_of_mem_take hf)).1.2
    have htl : (F.take i).length = i := by simp; omega
    have hpn := ptsP_small (l := gl F (i : Int)) (min kn (gl F (i : Int)).length) hfl.2
    refine Cd.skip ?_
    refine thenQ_n ?_
    refine Cd.seq ?_
    refine Cd.block ?_
    refine Cd.seq ?_
    refine Cd.region ?_
    refine Ops.idx hM.top.2 rfl rfl rfl (by omega) (by omega) ?_
    refine Ops.ld_sl hM.top rfl (by omega) rfl rfl ?_
    refine Ops.mv_sl rfl rfl rfl ?_
    refine Ops.nil ?_
    refine thenQ_n ?_
    refine Cd.region ?_
    refine Ops.mv_sl rfl rfl rfl ?_
    refine Ops.mv_sl rfl rfl rfl ?_
    refine Ops.mv_int rfl rfl rfl ?_
    refine Ops.mv_sl rfl rfl rfl ?_
    refine Ops.call (sizeI_c _ _ _ _) rfl rfl rfl ?_
    rintro _ w3 ⟨rfl, rfl⟩
    refine Ops.minI rfl rfl rfl ?_
    refine Ops.call (partsOf_c (min kn (gl F (i : Int)).length) _ _ _ (gl F (i : Int)) _ hrow hcap.1 (by omega) (by omega)) rfl (by show [_, Value.int .i64 (min (kn : Int) _)] = _; congr 3; omega) rfl ?_
    rintro _ w4 ⟨A6, c6, rs6, rfl, hrl6, hT⟩
    generalize hN : ptsP (gl F (i : Int)) (min kn (gl F (i : Int)).length) = N at *
    have hR6 : RdR w4 A6 N.length rs6 := hT.rdR 0 rfl
    have hS4 := hS3.call2 hT
    refine Ops.appR 2 hS4 rfl hR6 rfl rfl rfl (by omega) (by omega) rfl ?_
    intro A7 c7 w5 hS5
    have hS5 : St w w5 ([cxZ A4, cxB Ab V A n c, CkR 25 A7 ((sklL (F.take i) kn).length + N.length) c7 (rs5 ++ rs6)] ++ (rowsCk 2 rs5 (sklL (F.take i) kn) ++ (CkR 25 A6 N.length c6 rs6 :: (rowsCk 2 rs6 N ++ [])))) := by
      have := hS5
      simp only [List.append_assoc] at this
      exact this
    have hl1 : (sklL (F.take (i + 1)) kn).length = (sklL (F.take i) kn).length + N.length := by rw [hsucc, List.length_append]
    refine Ops.mv_sl rfl rfl rfl ?_
    refine Ops.nil ?_
    refine blockQ_n ?_
    refine thenQ_n ?_
    refine Cd.region ?_
    refine Ops.add rfl rfl rfl (by omega) ?_
    refine Ops.mv_int rfl rfl rfl ?_
    refine Ops.nil ?_
    refine thenQ_n ?_
    refine ⟨(i + 1, (A7, c7), rs5 ++ rs6), by show n - (i + 1) < n - i; omega, ⟨rfl, rfl, by show Value.slice A7 ((sklL (F.take i) kn).length + N.length) c7 = .slice A7 (sklL (F.take (i + 1)) kn).length c7; rw [hl1], rfl, rfl, rfl, trivial⟩, by show i + 1 ≤ n; omega, by show (rs5 ++ rs6).length = _; rw [hl1, List.length_append, hrl, hrl6], ?_⟩
    show St w w5 ([cxZ A4, cxB Ab V A n c, CkR 25 A7 (sklL (F.take (i + 1)) kn).length c7 (rs5 ++ rs6)] ++ rowsCk 2 (rs5 ++ rs6) (sklL (F.take (i + 1)) kn))
    rw [hl1, hsucc, rowsCk_append hrl]
    refine hS5.sub ((List.Sublist.refl _).append ((List.Sublist.refl _).append ?_))
    rw [List.append_nil]
    exact List.sublist_cons_self _ _
  · rw [List.take_of_length_le (by omega)] at hrl hS3 ⊢
    have hS4 : St w w3 (mat 25 2 A5 (sklL F kn).length c5 rs5 (sklL F kn)) := hS3.tail.tail
    have hid := map_cs_id (L := sklL F kn) fun l hl => (hL2 l hl).1
    have hC := complexOf_c A5 _ c5 rs5 (sklL F kn) w3 (hT.later hS3.below) (St.rowsI (ks := []) (by rwa [List.append_nil]) rfl) (by omega) (fun l hl => by have := (hL2 l hl).2; omega)
    rw [hid] at hC
    refine Cd.exit ?_
    refine thenQ_x ?_
    refine thenQ_x ?_
    refine blockQ_x ?_
    refine thenQ_n ?_
    refine Cd.seq ?_
    refine Cd.region ?_
    refine Ops.mv_sl rfl rfl rfl ?_
    refine Ops.call hC rfl rfl rfl ?_
    rintro _ w6 ⟨A6, c6, rs6, rfl, hrl6, hst6⟩
    have hS6 := (hS3.sub (List.sublist_append_left _ _)).call2 hst6
    refine Ops.extract rfl rfl rfl ?_
    refine Ops.extract rfl rfl rfl ?_
    refine Ops.st_agg 2 0 hS6 rfl rfl rfl rfl rfl rfl rfl ?_
    intro w7 hS7
    refine Ops.mv_int rfl rfl rfl ?_
    refine Ops.nil ?_
    refine thenQ_n ?_
    refine Cd.ret ?_
    skip
    refine retc2_r rfl (hS7.rd 0 rfl) rfl ?_
    exact ⟨A6, c6, rs6, rfl, hrl6, hS7.sub (List.Sublist.cons _ (List.Sublist.cons _ (List.sublist_cons_self _ _)))⟩

/-- a row of rows continued by another one -/
theorem l17Append_c {w0 w : World} {ks : List Ck} (i j : Nat) {A B : Option Addr} {n c m d : Nat} {ss ts : List SlV} (hS : St w0 w ks) (hij : i ≠ j) (hi : ks[i]? = some (CkR 25 A n c ss)) (hj : ks[j]? = some (CkR 25 B m d ts)) (hn : n ≤ 1000000) (hm : m ≤ 1000000) :
    Ret Tryz.prog 99 [.slice A n c, .slice B m d] w (fun v w' => ∃ A' c', v = .slice A' (n + m) c' ∧ St w0 w' (ks.set i (CkR 25 A' (n + m) c' (ss ++ ts)))) := by
  have hil : i < ks.length := (List.getElem?_eq_some_iff.1 hi).1
  have htl : ts.length = m := (hS.rdR j hj).1
  have geti : ∀ k, (ks.set i k)[i]? = some k := fun k => by simp [hil]
  have getj : ∀ k, (ks.set i k)[j]? = some (CkR 25 B m d ts) := fun k => by rw [List.getElem?_set_ne hij]; exact hj
  refine Ret.of_cd Tryz.func99 rfl Tryz.ntmps99 rfl (post1 rfl) ?_
  refine Cd.seq ?_
  refine Cd.region ?_
  refine Ops.mv_sl rfl rfl rfl ?_
  refine Ops.nil ?_
  refine thenQ_n ?_
  refine Cd.seq ?_
  refine Cd.region ?_
  refine Ops.mv_sl rfl rfl rfl ?_
  refine Ops.mv_sl rfl rfl rfl ?_
  refine Ops.nil ?_
  refine thenQ_n ?_
  refine Cd.seq ?_
  refine Cd.seq ?_
  refine Cd.region ?_
  refine Ops.mv_int rfl rfl rfl ?_
  refine Ops.nil ?_
  refine thenQ_n ?_
  refine Cd.block ?_
  refine Cd.loop (α := Nat × Option Addr × Nat) (fun z => [(1, .slice B m d), (5, .slice z.2.1 (n + z.1) z.2.2), (6, .int .i64 (z.1 : Int))]) (fun z w' => z.1 ≤ m ∧ St w0 w' (ks.set i (CkR 25 z.2.1 (n + z.1) z.2.2 (ss ++ ts.take z.1)))) (fun z => m - z.1) (0, A, c) ⟨rfl, rfl, rfl, trivial⟩ ⟨Nat.zero_le _, by
    show St w0 w (ks.set i (CkR 25 A (n + 0) c (ss ++ ts.take 0)))
    rw [List.take_zero, List.append_nil, Nat.add_zero, set_id hi]; exact hS⟩ ?_
  rintro ⟨q, A5, c5⟩ e w1 ⟨hq, hS1⟩
  dsimp only at hq hS1 ⊢
  refine Cd.seq ?_
  refine Cd.seq ?_
  refine Cd.region ?_
  refine Ops.mv_int rfl rfl rfl ?_
  refine Ops.mv_sl rfl rfl rfl ?_
  refine Ops.len rfl rfl ?_
  refine Ops.lss rfl rfl rfl ?_
  refine Ops.nil ?_
  refine thenQ_n ?_
  refine Cd.cond_p _ rfl (fun h1 => ?_) (fun h1 => ?_)
  · have hR1 : RdR w1 B m ts := hS1.rdR j (getj _)
    refine Cd.skip ?_
    refine thenQ_n ?_
    refine Cd.seq ?_
    refine Cd.block ?_
    refine Cd.region ?_
    refine Ops.mv_sl rfl rfl rfl ?_
    refine Ops.mv_sl rfl rfl rfl ?_
    refine Ops.mv_int rfl rfl rfl ?_
    refine Ops.idx hR1.2 rfl rfl rfl (by omega) (by omega) ?_
    refine Ops.ld_sl hR1 rfl (by omega) rfl rfl ?_
    refine Ops.bs1R (St.refl w1) rfl rfl rfl ?_
    intro A7 w2 hT2
    have hS2 := hS1.later hT2.below
    refine Ops.appR i hS2 (geti _) (hT2.rdR 0 rfl) rfl rfl rfl (by omega) (by omega) rfl ?_
    intro A8 c8 w3 hS3
    rw [List.set_set] at hS3
    have htk : ts.take (q + 1) = ts.take q ++ [⟨(rg ts (q : Int)).a, (rg ts (q : Int)).n, (rg ts (q : Int)).c⟩] := by
      rw [List.take_succ_eq_append_getElem (by omega)]
      congr 2
      simp [rg, List.getD_eq_getElem?_getD, List.getElem?_eq_getElem (show q < ts.length by omega)]
    refine Ops.mv_sl rfl rfl rfl ?_
    refine Ops.nil ?_
    refine blockQ_n ?_
    refine thenQ_n ?_
    refine Cd.region ?_
    refine Ops.mv_int rfl rfl rfl ?_
    refine Ops.add rfl rfl rfl (by omega) ?_
    refine Ops.mv_int rfl rfl rfl ?_
    refine Ops.nil ?_
    refine thenQ_n ?_
    refine ⟨(q + 1, A8, c8), by show m - (q + 1) < m - q; omega, ⟨rfl, rfl, rfl, trivial⟩, by show q + 1 ≤ m; omega, ?_⟩
    show St w0 w3 (ks.set i (CkR 25 A8 (n + (q + 1)) c8 (ss ++ ts.take (q + 1))))
    rw [htk, ← List.append_assoc, ← Nat.add_assoc]
    exact hS3
  · have hqm : q = m := by omega
    subst hqm
    rw [List.take_of_length_le (by omega)] at hS1
    refine Cd.exit ?_
    refine thenQ_x ?_
    refine thenQ_x ?_
    refine blockQ_x ?_
    refine thenQ_n ?_
    refine Cd.seq ?_
    refine Cd.region ?_
    refine Ops.mv_sl rfl rfl rfl ?_
    refine Ops.mv_sl rfl rfl rfl ?_
    refine Ops.nil ?_
    refine thenQ_n ?_
    refine Cd.ret ?_
    refine ret1_s rfl ?_
    exact ⟨A5, c5, rfl, hS1⟩

/-- rows that are read below a base or are one's own -/
structure RowsS (w : World) (ks : List Ck) (n : Nat) (rs : List SlV) (xss : List (List Int)) : Prop where
  rl : rs.length = n
  len : xss.length = n
  at_ : ∀ j, j < n → (RdI w (rs.getD j slNil).a (rs.getD j slNil).n (xss.getD j []) ∧ (rs.getD j slNil).n ≤ (rs.getD j slNil).c ∧ (rs.getD j slNil).c ≤ maxLen) ∨ CkI 2 (rs.getD j slNil).a (rs.getD j slNil).n (rs.getD j slNil).c (xss.getD j []) ∈ ks
theorem RowsS.nil (w : World) (ks : List Ck) : RowsS w ks 0 [] [] := ⟨rfl, rfl, fun _ hj => absurd hj (Nat.not_lt_zero _)⟩
theorem RowsS.W {w w' : World} {ks ms : List Ck} {n : Nat} {rs : List SlV} {xss : List (List Int)} (h : RowsS w ks n rs xss) (hS : St w w' ms) (hsub : ∀ k ∈ ks, k ∈ ms) : RowsW w' n rs xss := by
  refine ⟨h.rl, h.len, fun j hj => ?_, fun j hj => ?_⟩
  · rcases h.at_ j hj with ⟨h1, _⟩ | h1
    · exact hS.oldI h1
    · obtain ⟨i, hi⟩ := List.mem_iff_getElem?.1 (hsub _ h1)
      exact hS.rdI i hi
  · rcases h.at_ j hj with ⟨_, h2⟩ | h1
    · exact h2
    · obtain ⟨i, hi⟩ := List.mem_iff_getElem?.1 (hsub _ h1)
      exact hS.cap i hi
theorem RowsS.mono {w : World} {ks ms : List Ck} {n : Nat} {rs : List SlV} {xss : List (List Int)} (h : RowsS w ks n rs xss) (hsub : ∀ k ∈ ks, k ∈ ms) : RowsS w ms n rs xss :=
  ⟨h.rl, h.len, fun j hj => (h.at_ j hj).imp_right (hsub _)⟩
theorem getD_app1 {α : Type} {d : α} {l r : List α} {j : Nat} (h : j < l.length) : (l ++ r).getD j d = l.getD j d := by simp [List.getD_eq_getElem?_getD, List.getElem?_append_left h]
theorem getD_app2 {α : Type} {d : α} {l r : List α} {j : Nat} (h : l.length ≤ j) : (l ++ r).getD j d = r.getD (j - l.length) d := by simp [List.getD_eq_getElem?_getD, List.getElem?_append_right h]
theorem RowsS.append {w : World} {ks : List Ck} {n m : Nat} {rs ts : List SlV} {xss yss : List (List Int)} (h : RowsS w ks n rs xss) (h' : RowsS w ks m ts yss) : RowsS w ks (n + m) (rs ++ ts) (xss ++ yss) := by
  refine ⟨by rw [List.length_append, h.rl, h'.rl], by rw [List.length_append, h.len, h'.len], fun j hj => ?_⟩
  by_cases hjn : j < n
  · rw [getD_app1 (by rw [h.rl]; exact hjn), getD_app1 (by rw [h.len]; exact hjn)]
    exact h.at_ j hjn
  · rw [getD_app2 (by rw [h.rl]; omega), getD_app2 (by rw [h.len]; omega), h.rl, h.len]
    exact h'.at_ (j - n) (by omega)
theorem RowsS.own {w : World} {ks : List Ck} {rs : List SlV} {xss : List (List Int)} (hl : rs.length = xss.length) (hk : ∀ k ∈ rowsCk 2 rs xss, k ∈ ks) : RowsS w ks xss.length rs xss :=
  ⟨hl, rfl, fun j hj => .inr (hk _ (List.mem_iff_getElem?.2 ⟨j, rowsCk_get hl (by omega)⟩))⟩

set_option maxHeartbeats 1000000 in
theorem specSkeletonOf_c (V : Int) (A : Option Addr) (n c : Nat) (rs : List SlV) (F : List (List Int)) (k : Int) (w : World) (hR : RowsI w A n rs F) (hn : n ≤ 9223372036854775807) :
    Ret Tryz.prog 44 [.agg #[.int .i64 V, .slice A n c], .int .i64 k] w (AnsC (skV V F k) (skL V F k) (skK V F k) w) := by
  have hFl := hR.len
  refine Ret.of_cd Tryz.func44 rfl Tryz.ntmps44 rfl (postc2 rfl rfl) ?_
  refine Cd.seq ?_
  refine Cd.region ?_
  refine Ops.box2 (St.refl w) rfl rfl ?_
  intro Ab w1 hS1
  refine Ops.new2 hS1 rfl ?_
  intro A4 w2 hS2
  refine Ops.mv_int rfl rfl rfl ?_
  refine Ops.nil ?_
  refine thenQ_n ?_
  refine Cd.seq ?_
  refine Cd.block ?_
  refine Cd.seq ?_
  refine Cd.region ?_
  refine Ops.ld_agg 1 (hS2.rd 1 rfl) rfl rfl rfl ?_
  refine Ops.call (l17Is_c V A n c rs F _ (hS2.oldRows hR) hn) rfl rfl rfl ?_
  rintro _ w3 ⟨rfl, hst⟩
  have hS3 := hS2.later hst.below
  first | refine Ops.not_p rfl rfl ?_ | refine Ops.not rfl rfl ?_
  refine Ops.mv_bool rfl rfl rfl ?_
  refine Ops.nil ?_
  refine thenQ_n ?_
  unfold skV skL skK
  refine Cd.cond_p _ rfl (fun h1 => ?_) (fun h1 => ?_)
  · rw [if_neg (fun h => h1 h.1), if_neg (fun h => h1 h.1), if_neg h1]
    refine Cd.seq ?_
    refine Cd.region ?_
    refine Ops.bldZ2 (by exact inferInstance) (by exact inferInstance) rfl rfl rfl ?_
    refine Ops.st_agg 2 0 hS3 rfl rfl rfl rfl rfl rfl rfl ?_
    intro w9 hS9
    refine Ops.mv_int rfl rfl rfl ?_
    refine Ops.nil ?_
    refine thenQ_n ?_
    refine Cd.ret ?_
    refine blockQ_r ?_
    refine thenQ_r ?_
    skip
    refine retc2_r rfl (hS9.rd 0 rfl) rfl ?_
    exact AnsC.none hS9
  have h1 := Classical.not_not.1 h1
  have hn4 := h1.f
  refine Cd.seq ?_
  refine Cd.region ?_
  refine Ops.mv_int rfl rfl rfl ?_
  refine Ops.call (l01In_c _ _ _ _) rfl rfl rfl ?_
  rintro _ w3 ⟨rfl, rfl⟩
  first | refine Ops.not_p rfl rfl ?_ | refine Ops.not rfl rfl ?_
  refine Ops.mv_bool rfl rfl rfl ?_
  refine Ops.nil ?_
  refine thenQ_n ?_
  refine Cd.cond_p _ rfl (fun h2 => ?_) (fun h2 => ?_)
  · rw [if_neg (fun h => h2 h.2), if_neg (fun h => h2 h.2), if_pos h1, if_neg h2]
    refine Cd.seq ?_
    refine Cd.region ?_
    refine Ops.bldZ2 (by exact inferInstance) (by exact inferInstance) rfl rfl rfl ?_
    refine Ops.st_agg 2 0 hS3 rfl rfl rfl rfl rfl rfl rfl ?_
    intro w9 hS9
    refine Ops.mv_int rfl rfl rfl ?_
    refine Ops.nil ?_
    refine thenQ_n ?_
    refine Cd.ret ?_
    refine blockQ_r ?_
    refine thenQ_r ?_
    skip
    refine retc2_r rfl (hS9.rd 0 rfl) rfl ?_
    exact AnsC.none hS9
  have h2 := Classical.not_not.1 h2
  rw [if_pos ⟨h1, h2⟩, if_pos ⟨h1, h2⟩, if_pos h1, if_pos h2]
  obtain ⟨kn, rfl⟩ : ∃ kn : Nat, k = kn := ⟨k.toNat, by omega⟩
  rw [Int.toNat_natCast]
  obtain ⟨hL1, hL2, hL3⟩ := h1.skl kn
  refine Cd.skip ?_
  refine blockQ_n ?_
  refine thenQ_n ?_
  refine Cd.seq ?_
  refine Cd.region ?_
  refine Ops.bs0 hS3 rfl ?_
  intro A5 w4 hS4
  clear hS3 hS2 hS1
  have hS4 : St w w4 [CkR 25 A5 0 0 [], cxZ A4, cxB Ab V A n c] := hS4
  refine Ops.mv_sl rfl rfl rfl ?_
  refine Ops.nil ?_
  refine thenQ_n ?_
  refine Cd.seq ?_
  refine Cd.seq ?_
  refine Cd.region ?_
  refine Ops.mv_int rfl rfl rfl ?_
  refine Ops.nil ?_
  refine thenQ_n ?_
  refine Cd.block ?_
  refine Cd.loop (α := Nat × (Option Addr × Nat) × List SlV × List Ck) (fun z => [(1, .int .i64 (kn : Int)), (2, .pointer Ab), (4, .pointer A4), (6, .slice z.2.1.1 (sklL (F.take z.1) kn).length z.2.1.2), (7, .int .i64 (z.1 : Int))])
    (fun z w' => z.1 ≤ n ∧ RowsS w z.2.2.2 (sklL (F.take z.1) kn).length z.2.2.1 (sklL (F.take z.1) kn) ∧ St w w' (CkR 25 z.2.1.1 (sklL (F.take z.1) kn).length z.2.1.2 z.2.2.1 :: cxZ A4 :: cxB Ab V A n c :: z.2.2.2)) (fun z => n - z.1) (0, (A5, 0), [], []) ⟨rfl, rfl, rfl, rfl, rfl, trivial⟩ ⟨Nat.zero_le _, RowsS.nil _ _, hS4⟩ ?_
  clear hS4
  rintro ⟨i, ⟨A5, c5⟩, rs5, ks⟩ e w3 ⟨hi, hW, hS3⟩
  dsimp only at hi hW hS3 ⊢
  have hrl := hW.rl
  have hB3 := hS3.rd 2 rfl
  refine Cd.seq ?_
  refine Cd.seq ?_
  refine Cd.region ?_
  refine Ops.mv_int rfl rfl rfl ?_
  refine Ops.fld hB3 rfl rfl rfl rfl inferInstance ?_
  refine Ops.ldf_s hB3 rfl rfl rfl rfl rfl ?_
  refine Ops.len rfl rfl ?_
  refine Ops.lss rfl rfl rfl ?_
  refine Ops.nil ?_
  refine thenQ_n ?_
  refine Cd.cond_p _ rfl (fun h3 => ?_) (fun h3 => ?_)
  · have hiF : i < F.length := by omega
    have hM := hS3.oldRows hR
    have hrow := hM.at_ (i := (i : Int)) (by omega) (by omega)
    have hcap := hM.cap_ (i := (i : Int)) (by omega) (by omega)
    have hrl0 := hrow.1
    have hfl := (h1.at_ hiF).1
    have hfs := (h1.at_ hiF).2.1
    have hsucc := sklL_succ (k := kn) hiF
    have hll := sklL_num (k := kn) (F := F.take i) fun f hf => (h1.row f (List.mem_of_mem_take hf)).1.2
    have htl : (F.take i).length = i := by simp; omega
    refine Cd.skip ?_
    refine thenQ_n ?_
    refine Cd.seq ?_
    refine Cd.block ?_
    refine Cd.seq ?_
    refine Cd.region ?_
    refine Ops.fld hB3 rfl rfl rfl rfl inferInstance ?_
    refine Ops.ldf_s hB3 rfl rfl rfl rfl rfl ?_
    refine Ops.mv_int rfl rfl rfl ?_
    refine Ops.idx hM.top.2 rfl rfl rfl (by omega) (by omega) ?_
    refine Ops.ld_sl hM.top rfl (by omega) rfl rfl ?_
    refine Ops.len rfl rfl ?_
    refine Ops.mv_int rfl rfl rfl ?_
    refine Ops.leq rfl rfl rfl ?_
    refine Ops.nil ?_
    refine thenQ_n ?_
    refine Cd.cond_p _ rfl (fun h4 => ?_) (fun h4 => ?_)
    · rw [Nat.min_eq_right (by omega), ptsP_full hfs] at hsucc
      refine Cd.region ?_
      refine Ops.mv_sl rfl rfl rfl ?_
      refine Ops.fld hB3 rfl rfl rfl rfl inferInstance ?_
      refine Ops.ldf_s hB3 rfl rfl rfl rfl rfl ?_
      refine Ops.mv_int rfl rfl rfl ?_
      refine Ops.idx hM.top.2 rfl rfl rfl (by omega) (by omega) ?_
      refine Ops.ld_sl hM.top rfl (by omega) rfl rfl ?_
      refine Ops.bs1R (St.refl w3) rfl rfl rfl ?_
      intro A7 w4 hT4
      have hS4 := hS3.later hT4.below
      refine Ops.appR 0 hS4 rfl (hT4.rdR 0 rfl) rfl rfl rfl (by omega) (by omega) rfl ?_
      intro A8 c8 w5 hS5
      have hl1 : (sklL (F.take (i + 1)) kn).length = (sklL (F.take i) kn).length + 1 := by rw [hsucc, List.length_append]; rfl
      refine Ops.mv_sl rfl rfl rfl ?_
      refine Ops.nil ?_
      refine blockQ_n ?_
      refine thenQ_n ?_
      refine Cd.region ?_
      refine Ops.mv_int rfl rfl rfl ?_
      refine Ops.add rfl rfl rfl (by omega) ?_
      refine Ops.mv_int rfl rfl rfl ?_
      refine Ops.nil ?_
      refine thenQ_n ?_
      refine ⟨(i + 1, (A8, c8), rs5 ++ [⟨(rg rs (i : Int)).a, (rg rs (i : Int)).n, (rg rs (i : Int)).c⟩], ks), by show n - (i + 1) < n - i; omega, ⟨rfl, rfl, rfl, by show Value.slice A8 ((sklL (F.take i) kn).length + 1) c8 = .slice A8 (sklL (F.take (i + 1)) kn).length c8; rw [hl1], rfl, trivial⟩, by show i + 1 ≤ n; omega, ?_, ?_⟩
      · show RowsS w ks (sklL (F.take (i + 1)) kn).length _ (sklL (F.take (i + 1)) kn)
        rw [hl1, hsucc]
        refine hW.append ⟨rfl, rfl, fun j hj => ?_⟩
        obtain rfl : j = 0 := by omega
        exact .inl ⟨hR.at_ (i := (i : Int)) (by omega) (by omega), hR.cap_ (i := (i : Int)) (by omega) (by omega)⟩
      · show St w w5 (CkR 25 A8 (sklL (F.take (i + 1)) kn).length c8 _ :: _)
        rw [hl1]
        exact hS5
    · rw [Nat.min_eq_left (by omega)] at hsucc
      have hpn := ptsP_small (l := gl F (i : Int)) kn hfl.2
      have hpn0 := ptsP_small (l := (gl F (i : Int)).drop 0) kn (by simpa using hfl.2)
      refine Cd.region ?_
      refine Ops.mv_sl rfl rfl rfl ?_
      refine Ops.fld hB3 rfl rfl rfl rfl inferInstance ?_
      refine Ops.ldf_s hB3 rfl rfl rfl rfl rfl ?_
      refine Ops.mv_int rfl rfl rfl ?_
      refine Ops.idx hM.top.2 rfl rfl rfl (by omega) (by omega) ?_
      refine Ops.ld_sl hM.top rfl (by omega) rfl rfl ?_
      refine Ops.mv_int rfl rfl rfl ?_
      refine Ops.bs0 (St.refl w3) rfl ?_
      intro A9 w4 hT4
      have hT4' : St w3 w4 (mat 25 2 none ([] : List (List Int)).length 0 [] [] ++ (CkI 2 A9 ([] : List Int).length 0 [] :: [])) := hT4.nil 25
      refine Ops.call (l17Parts_c (gl F (i : Int)) _ _ _ (by omega) kn none 0 [] [] A9 0 [] kn 0 w3 w4 [] hT4' rfl (by simp [SL]) (by show 0 + _ ≤ _; omega) (hrow.later hT4.below) (by simp) (by omega) (by omega)) rfl rfl rfl ?_
      rintro _ w5 ⟨A6, c6, rs6, rfl, hr6, _, hT5⟩
      rw [prP_nil hfs] at hT5 hr6 ⊢
      generalize hN : ptsP (gl F (i : Int)) kn = N at *
      have hS5 : St w w5 (CkR 25 A5 (sklL (F.take i) kn).length c5 rs5 :: CkR 25 A6 N.length c6 rs6 :: ([cxZ A4, cxB Ab V A n c] ++ (ks ++ rowsCk 2 rs6 N))) := by
        refine (hS3.call2 hT5).perm ?_
        rw [List.append_nil]
        refine List.Perm.cons _ ?_
        show (([cxZ A4, cxB Ab V A n c] ++ ks) ++ (CkR 25 A6 N.length c6 rs6 :: rowsCk 2 rs6 N)).Perm _
        rw [← List.append_assoc [cxZ A4, cxB Ab V A n c]]
        exact List.perm_middle
      refine Ops.call (l17Append_c 0 1 hS5 (by decide) rfl rfl (by omega) (by omega)) rfl rfl rfl ?_
      rintro _ w6 ⟨A8, c8, rfl, hS6⟩
      have hS6 : St w w6 (CkR 25 A8 ((sklL (F.take i) kn).length + N.length) c8 (rs5 ++ rs6) :: CkR 25 A6 N.length c6 rs6 :: ([cxZ A4, cxB Ab V A n c] ++ (ks ++ rowsCk 2 rs6 N))) := hS6
      have hl1 : (sklL (F.take (i + 1)) kn).length = (sklL (F.take i) kn).length + N.length := by rw [hsucc, List.length_append]
      refine Ops.mv_sl rfl rfl rfl ?_
      refine Ops.nil ?_
      refine blockQ_n ?_
      refine thenQ_n ?_
      refine Cd.region ?_
      refine Ops.mv_int rfl rfl rfl ?_
      refine Ops.add rfl rfl rfl (by omega) ?_
      refine Ops.mv_int rfl rfl rfl ?_
      refine Ops.nil ?_
      refine thenQ_n ?_
      refine ⟨(i + 1, (A8, c8), rs5 ++ rs6, ks ++ rowsCk 2 rs6 N), by show n - (i + 1) < n - i; omega, ⟨rfl, rfl, rfl, by show Value.slice A8 ((sklL (F.take i) kn).length + N.length) c8 = .slice A8 (sklL (F.take (i + 1)) kn).length c8; rw [hl1], rfl, trivial⟩, by show i + 1 ≤ n; omega, ?_, ?_⟩
      · show RowsS w (ks ++ rowsCk 2 rs6 N) (sklL (F.take (i + 1)) kn).length _ (sklL (F.take (i + 1)) kn)
        rw [hl1, hsucc]
        exact (hW.mono fun k hk => List.mem_append_left _ hk).append (RowsS.own hr6 fun k hk => List.mem_append_right _ hk)
      · show St w w6 (CkR 25 A8 (sklL (F.take (i + 1)) kn).length c8 _ :: _)
        rw [hl1]
        exact hS6.sub (List.Sublist.cons_cons _ (List.sublist_cons_self _ _))
  · rw [List.take_of_length_le (by omega)] at hrl hS3 hW ⊢
    have hI : RowsI w3 A5 (sklL F kn).length rs5 (sklL F kn) := (hW.W hS3 fun k hk => List.mem_cons_of_mem _ (List.mem_cons_of_mem _ (List.mem_cons_of_mem _ hk))).I (hS3.rdR 0 rfl)
    refine Cd.exit ?_
    refine thenQ_x ?_
    refine thenQ_x ?_
    refine blockQ_x ?_
    refine thenQ_n ?_
    refine Cd.seq ?_
    refine Cd.region ?_
    refine Ops.mv_sl rfl rfl rfl ?_
    refine Ops.call (l17Make_c A5 _ c5 rs5 (sklL F kn) _ hI (by omega) (by omega) (fun l hl => (hL2 l hl).1)) rfl rfl rfl ?_
    rintro _ w6 ⟨A6, c6, rs6, rfl, hrl6, hst6⟩
    have hS6 := (hS3.tail.sub (List.Sublist.cons_cons _ (List.Sublist.cons_cons _ (List.nil_sublist _)))).call2 hst6
    refine Ops.extract rfl rfl rfl ?_
    refine Ops.extract rfl rfl rfl ?_
    refine Ops.st_agg 2 0 hS6 rfl rfl rfl rfl rfl rfl rfl ?_
    intro w7 hS7
    refine Ops.mv_int rfl rfl rfl ?_
    refine Ops.nil ?_
    refine thenQ_n ?_
    refine Cd.ret ?_
    skip
    refine retc2_r rfl (hS7.rd 0 rfl) rfl ?_
    exact ⟨A6, c6, rs6, rfl, hrl6, hS7.sub (List.Sublist.cons _ (List.sublist_cons_self _ _))⟩
end Go.Proofs.YtdedegbendjmbaaGreatDoor.Vc
/-
  The complex of any lists, walked on both sides. Conditions: as each states them.
-/
namespace Go.Proofs.YtdedegbendjmbaaGreatDoor.Vc
open Go.RowKit

def NegL (ls : List (List Int)) : Prop := ∃ l ∈ ls, ∃ x ∈ l, x < 0
instance (ls : List (List Int)) : Decidable (NegL ls) := by unfold NegL; exact inferInstance
def coV (ls : List (List Int)) : Int := if NegL ls then 0 else cxV (ls.map cs)
def coL (ls : List (List Int)) : List (List Int) := if NegL ls then [] else cxL (ls.map cs)
def coK (ls : List (List Int)) : Int := if NegL ls then 1 else cxK (ls.map cs)
theorem NegL.take {ls : List (List Int)} {i : Nat} (h : i < ls.length) (h1 : ¬ NegL (ls.take i)) (h2 : ∀ x ∈ gl ls (i : Int), ¬ x < 0) : ¬ NegL (ls.take (i + 1)) := by
  rw [take_succ_gl h]
  rintro ⟨l, hl, x, hx, h3⟩
  rcases List.mem_append.1 hl with hl | hl
  · exact h1 ⟨l, hl, x, hx, h3⟩
  · obtain rfl : l = gl ls (i : Int) := by simpa using hl
    exact h2 x hx h3

theorem specComplexOf_c (A : Option Addr) (n c : Nat) (rs : List SlV) (ls : List (List Int)) (w : World) (hR : RowsI w A n rs ls) (hn : n ≤ 1000) (hr : ∀ l ∈ ls, l.length ≤ 1000) :
    Ret Tryz.prog 29 [.slice A n c] w (AnsC (coV ls) (coL ls) (coK ls) w) := by
  have hll : ls.length = n := hR.len
  refine Ret.of_cd Tryz.func29 rfl Tryz.ntmps29 rfl (postc2 rfl rfl) ?_
  refine Cd.seq ?_
  refine Cd.region ?_
  refine Ops.new2 (St.refl w) rfl ?_
  intro A2 w1 hS1
  have hS1 : St w w1 [cxZ A2] := hS1
  refine Ops.mv_int rfl rfl rfl ?_
  refine Ops.nil ?_
  refine thenQ_n ?_
  refine Cd.seq ?_
  refine Cd.region ?_
  refine Ops.bs0 hS1 rfl ?_
  intro A4 w2 hS2
  have hS2 : St w w2 ([cxZ A2, CkR 25 A4 0 0 []] ++ rowsCk 2 [] ((ls.take 0).map cs)) := hS2.swap
  unfold coV coL coK
  refine Ops.mv_sl rfl rfl rfl ?_
  refine Ops.nil ?_
  refine thenQ_n ?_
  refine Cd.seq ?_
  refine Cd.seq ?_
  refine Cd.region ?_
  refine Ops.mv_int rfl rfl rfl ?_
  refine Ops.nil ?_
  refine thenQ_n ?_
  refine Cd.block ?_
  refine Cd.loop (α := Nat × (Option Addr × Nat) × List SlV) (fun z => [(0, .slice A n c), (2, .pointer A2), (4, .slice z.2.1.1 z.1 z.2.1.2), (5, .int .i64 (z.1 : Int))]) (fun z w' => z.1 ≤ n ∧ ¬ NegL (ls.take z.1) ∧ z.2.2.length = z.1 ∧ St w w' ([cxZ A2, CkR 25 z.2.1.1 z.1 z.2.1.2 z.2.2] ++ rowsCk 2 z.2.2 ((ls.take z.1).map cs))) (fun z => n - z.1) (0, (A4, 0), []) ⟨rfl, rfl, rfl, rfl, trivial⟩ ⟨Nat.zero_le _, by simp [NegL], rfl, hS2⟩ ?_
  clear hS1 hS2
  rintro ⟨i, ⟨A4, c4⟩, rs4⟩ e w3 ⟨hi, hN, hrl4, hS3⟩
  dsimp only at hi hN hrl4 hS3 ⊢
  refine Cd.seq ?_
  refine Cd.seq ?_
  refine Cd.region ?_
  refine Ops.mv_int rfl rfl rfl ?_
  refine Ops.mv_sl rfl rfl rfl ?_
  refine Ops.len rfl rfl ?_
  refine Ops.lss rfl rfl rfl ?_
  refine Ops.nil ?_
  refine thenQ_n ?_
  refine Cd.cond_p _ rfl (fun h3 => ?_) (fun h3 => ?_)
  · have hil : i < ls.length := by omega
    have hlen := hr (gl ls (i : Int)) (by rw [gl_mem hil]; exact List.getElem_mem _)
    refine Cd.skip ?_
    refine thenQ_n ?_
    refine Cd.seq ?_
    refine Cd.block ?_
    refine Cd.seq ?_
    refine Cd.region ?_
    refine Ops.bs0 (St.refl w3) rfl ?_
    intro A6 w4 hT4
    have hT4 : St w3 w4 [CkI 2 A6 (cs ((gl ls (i : Int)).take 0)).length 0 (cs ((gl ls (i : Int)).take 0))] := by rw [List.take_zero, cs_nil]; exact hT4
    refine Ops.mv_sl rfl rfl rfl ?_
    refine Ops.nil ?_
    refine thenQ_n ?_
    refine Cd.seq ?_
    refine Cd.seq ?_
    refine Cd.region ?_
    refine Ops.mv_int rfl rfl rfl ?_
    refine Ops.nil ?_
    refine thenQ_n ?_
    refine Cd.block ?_
    refine Cd.loop (α := Nat × Option Addr × Nat) (fun z => [(0, .slice A n c), (2, .pointer A2), (4, .slice A4 i c4), (5, .int .i64 (i : Int)), (6, .slice z.2.1 (cs ((gl ls (i : Int)).take z.1)).length z.2.2), (7, .int .i64 (z.1 : Int))]) (fun z w' => z.1 ≤ (gl ls (i : Int)).length ∧ (∀ x ∈ (gl ls (i : Int)).take z.1, ¬ x < 0) ∧ St w3 w' [CkI 2 z.2.1 (cs ((gl ls (i : Int)).take z.1)).length z.2.2 (cs ((gl ls (i : Int)).take z.1))]) (fun z => (gl ls (i : Int)).length - z.1) (0, A6, 0) ⟨rfl, rfl, rfl, rfl, by show Value.slice A6 0 0 = .slice A6 (cs ((gl ls (i : Int)).take 0)).length 0; rw [List.take_zero, cs_nil]; rfl, rfl, trivial⟩ ⟨Nat.zero_le _, by simp, hT4⟩ ?_
    clear hT4
    rintro ⟨k, A6, c6⟩ e w5 ⟨hk, hP, hT5⟩
    dsimp only at hk hP hT5 ⊢
    have hS5 := hS3.later hT5.below
    have hM := hS5.oldRows hR
    have hrow := hM.at_ (i := (i : Int)) (by omega) (by omega)
    have hrl := hrow.1
    have hcl := cs_len ((gl ls (i : Int)).take k)
    have hcl2 : ((gl ls (i : Int)).take k).length ≤ 1000 := by simp; omega
    refine Cd.seq ?_
    refine Cd.seq ?_
    refine Cd.region ?_
    refine Ops.mv_int rfl rfl rfl ?_
    refine Ops.mv_sl rfl rfl rfl ?_
    refine Ops.mv_int rfl rfl rfl ?_
    refine Ops.idx hM.top.2 rfl rfl rfl (by omega) (by omega) ?_
    refine Ops.ld_sl hM.top rfl (by omega) rfl rfl ?_
    refine Ops.len rfl rfl ?_
    refine Ops.lss rfl rfl rfl ?_
    refine Ops.nil ?_
    refine thenQ_n ?_
    refine Cd.cond_p _ rfl (fun h4 => ?_) (fun h4 => ?_)
    · have hkl : k < (gl ls (i : Int)).length := by omega
      refine Cd.skip ?_
      refine thenQ_n ?_
      refine Cd.seq ?_
      refine Cd.block ?_
      refine Cd.seq ?_
      refine Cd.seq ?_
      refine Cd.region ?_
      refine Ops.mv_sl rfl rfl rfl ?_
      refine Ops.mv_int rfl rfl rfl ?_
      refine Ops.idx hM.top.2 rfl rfl rfl (by omega) (by omega) ?_
      refine Ops.ld_sl hM.top rfl (by omega) rfl rfl ?_
      refine Ops.mv_int rfl rfl rfl ?_
      refine Ops.idx hrow.2 rfl rfl rfl (by omega) (by omega) ?_
      refine Ops.ld_int hrow rfl (by omega) rfl rfl ?_
      refine Ops.lss rfl rfl rfl ?_
      refine Ops.nil ?_
      refine thenQ_n ?_
      refine Cd.cond_p _ rfl (fun h5 => ?_) (fun h5 => ?_)
      · have hneg : NegL ls := ⟨gl ls (i : Int), by rw [gl_mem hil]; exact List.getElem_mem _, gi (gl ls (i : Int)) (k : Int), by rw [gi_mem hkl]; exact List.getElem_mem _, h5⟩
        rw [if_pos hneg, if_pos hneg, if_pos hneg]
        refine Cd.seq ?_
        refine Cd.region ?_
        refine Ops.bldZ2 (by exact inferInstance) (by exact inferInstance) rfl rfl rfl ?_
        refine Ops.st_agg 2 0 hS5 rfl rfl rfl rfl rfl rfl rfl ?_
        intro w9 hS9
        refine Ops.mv_int rfl rfl rfl ?_
        refine Ops.nil ?_
        refine thenQ_n ?_
        refine Cd.ret ?_
        refine thenQ_r ?_
        refine blockQ_r ?_
        refine thenQ_r ?_
        refine thenQ_r ?_
        refine blockQ_r ?_
        refine thenQ_r ?_
        refine blockQ_r ?_
        refine thenQ_r ?_
        refine thenQ_r ?_
        refine blockQ_r ?_
        refine thenQ_r ?_
        skip
        refine retc2_r rfl (hS9.rd 0 rfl) rfl ?_
        exact AnsC.none hS9
      · have htk := take_succ_gi hkl
        have hcc := cs_cs ((gl ls (i : Int)).take k) (gi (gl ls (i : Int)) (k : Int))
        rw [← htk] at hcc
        refine Cd.skip ?_
        refine thenQ_n ?_
        refine Cd.region ?_
        refine Ops.mv_sl rfl rfl rfl ?_
        refine Ops.mv_sl rfl rfl rfl ?_
        refine Ops.mv_int rfl rfl rfl ?_
        refine Ops.idx hM.top.2 rfl rfl rfl (by omega) (by omega) ?_
        refine Ops.ld_sl hM.top rfl (by omega) rfl rfl ?_
        refine Ops.mv_int rfl rfl rfl ?_
        refine Ops.idx hrow.2 rfl rfl rfl (by omega) (by omega) ?_
        refine Ops.ld_int hrow rfl (by omega) rfl rfl ?_
        refine Ops.call (l17Insert_c A6 _ c6 (cs ((gl ls (i : Int)).take k)) (gi (gl ls (i : Int)) (k : Int)) _ (hT5.rdI 0 rfl) (hT5.cap 0 rfl).1 (by omega) (cs_SA _)) rfl rfl rfl ?_
        rintro _ w6 ⟨A7, c7, rfl, hb6, hor⟩
        rw [hcc] at hor ⊢
        have hT6 : St w3 w6 [CkI 2 A7 (cs ((gl ls (i : Int)).take (k + 1))).length c7 (cs ((gl ls (i : Int)).take (k + 1)))] := by
          rcases hor with ⟨rfl, rfl, he⟩ | hst
          · rw [he]; exact hT5.later hb6
          · exact (hT5.call hst).sub (List.sublist_append_left _ _)
        refine Ops.mv_sl rfl rfl rfl ?_
        refine Ops.nil ?_
        refine blockQ_n ?_
        refine thenQ_n ?_
        refine Cd.region ?_
        refine Ops.mv_int rfl rfl rfl ?_
        refine Ops.add rfl rfl rfl (by omega) ?_
        refine Ops.mv_int rfl rfl rfl ?_
        refine Ops.nil ?_
        refine thenQ_n ?_
        refine ⟨(k + 1, A7, c7), by show (gl ls (i : Int)).length - (k + 1) < (gl ls (i : Int)).length - k; omega, ⟨rfl, rfl, rfl, rfl, rfl, rfl, trivial⟩, by show k + 1 ≤ _; omega, ?_, hT6⟩
        show ∀ x ∈ (gl ls (i : Int)).take (k + 1), ¬ x < 0
        rw [htk]
        intro x hx
        rcases List.mem_append.1 hx with hx | hx
        · exact hP x hx
        · obtain rfl : x = gi (gl ls (i : Int)) (k : Int) := by simpa using hx
          exact h5
    · rw [List.take_of_length_le (by omega)] at hP hT5 ⊢
      have hcl3 := cs_len (gl ls (i : Int))
      have hS5 := hS3.call hT5
      refine Cd.exit ?_
      refine thenQ_x ?_
      refine thenQ_x ?_
      refine blockQ_x ?_
      refine thenQ_n ?_
      refine Cd.region ?_
      refine Ops.mv_sl rfl rfl rfl ?_
      refine Ops.mv_sl rfl rfl rfl ?_
      refine Ops.bs1R hS5 rfl rfl rfl ?_
      intro A7 w6 hS6
      refine Ops.appR 3 hS6 rfl (hS6.rdR 0 rfl) rfl rfl rfl (by omega) (by omega) rfl ?_
      intro A8 c8 w7 hS7
      have hS7 := hS7.tail
      have hsucc : (ls.take (i + 1)).map cs = (ls.take i).map cs ++ [cs (gl ls (i : Int))] := by rw [take_succ_gl hil, List.map_append]; rfl
      refine Ops.mv_sl rfl rfl rfl ?_
      refine Ops.nil ?_
      refine blockQ_n ?_
      refine thenQ_n ?_
      refine Cd.region ?_
      refine Ops.mv_int rfl rfl rfl ?_
      refine Ops.add rfl rfl rfl (by omega) ?_
      refine Ops.mv_int rfl rfl rfl ?_
      refine Ops.nil ?_
      refine thenQ_n ?_
      refine ⟨(i + 1, (A8, c8), rs4 ++ [⟨A6, (cs (gl ls (i : Int))).length, c6⟩]), by show n - (i + 1) < n - i; omega, ⟨rfl, rfl, rfl, rfl, trivial⟩, by show i + 1 ≤ n; omega, NegL.take hil hN hP, by show (rs4 ++ [_]).length = i + 1; rw [List.length_append, hrl4]; rfl, ?_⟩
      show St w w7 ([cxZ A2, CkR 25 A8 (i + 1) c8 (rs4 ++ [⟨A6, (cs (gl ls (i : Int))).length, c6⟩])] ++ rowsCk 2 (rs4 ++ [⟨A6, (cs (gl ls (i : Int))).length, c6⟩]) ((ls.take (i + 1)).map cs))
      rw [hsucc, rowsCk_append (by rw [List.length_map, List.length_take, hrl4]; omega), ← List.append_assoc]
      exact hS7.perm (List.perm_append_comm (l₁ := [CkI 2 A6 (cs (gl ls (i : Int))).length c6 (cs (gl ls (i : Int)))]))
  · have hin : i = n := by omega
    subst hin
    rw [List.take_of_length_le (by omega)] at hN hS3
    rw [if_neg hN, if_neg hN, if_neg hN]
    have hfl : (ls.map cs).flatten.length ≤ 1000 * (ls.map cs).length := flat_le2 fun l hl => by
      obtain ⟨l0, hl0, rfl⟩ := List.mem_map.1 hl
      exact Nat.le_trans (cs_len l0) (hr l0 hl0)
    rw [List.length_map] at hfl
    have hS4 : St w w3 (mat 25 2 A4 (ls.map cs).length c4 rs4 (ls.map cs)) := by rw [List.length_map, hll]; exact hS3.tail
    have hI : RowsI w3 A4 i rs4 (ls.map cs) := by
      have := St.rowsI (ks := []) (by rwa [List.append_nil]) (show (ls.map cs).length = _ from rfl) (w := w3) (A := A4) (rs := rs4)
      rwa [List.length_map, hll] at this
    refine Cd.exit ?_
    refine thenQ_x ?_
    refine thenQ_x ?_
    refine blockQ_x ?_
    refine thenQ_n ?_
    refine Cd.seq ?_
    refine Cd.region ?_
    refine Ops.mv_sl rfl rfl rfl ?_
    refine Ops.call (l17Make_c A4 _ c4 rs4 (ls.map cs) _ hI (by omega) (by omega) (fun l hl => by obtain ⟨l0, _, rfl⟩ := List.mem_map.1 hl; exact cs_SA l0)) rfl rfl rfl ?_
    rintro _ w6 ⟨A6, c6, rs6, rfl, hrl6, hst6⟩
    have hS6 := (hS3.sub (List.sublist_append_left _ _)).call2 hst6
    refine Ops.extract rfl rfl rfl ?_
    refine Ops.extract rfl rfl rfl ?_
    refine Ops.st_agg 2 0 hS6 rfl rfl rfl rfl rfl rfl rfl ?_
    intro w7 hS7
    refine Ops.mv_int rfl rfl rfl ?_
    refine Ops.nil ?_
    refine thenQ_n ?_
    refine Cd.ret ?_
    skip
    refine retc2_r rfl (hS7.rd 0 rfl) rfl ?_
    exact ⟨A6, c6, rs6, rfl, hrl6, hS7.sub (List.Sublist.cons _ (List.sublist_cons_self _ _))⟩
end Go.Proofs.YtdedegbendjmbaaGreatDoor.Vc
/-
  Plain mathematics: polynomials told by their coefficients, and what becomes of numbers of faces. Conditions: as each states them. No program in sight.
-/
namespace Go.Proofs.YtdedegbendjmbaaGreatDoor.Vc

def sumN : Nat → (Nat → Int) → Int
  | 0, _ => 0
  | n + 1, g => sumN n g + g n
theorem sumN_congr {g h : Nat → Int} : ∀ {n : Nat}, (∀ i, i < n → g i = h i) → sumN n g = sumN n h
  | 0, _ => rfl
  | n + 1, H => by unfold sumN; rw [sumN_congr (n := n) fun i hi => H i (by omega), H n (by omega)]
theorem sumN_front (g : Nat → Int) : ∀ n : Nat, sumN (n + 1) g = g 0 + sumN n fun i => g (i + 1)
  | 0 => by simp [sumN]
  | n + 1 => by
    have := sumN_front g n
    rw [sumN, this, sumN]
    omega
theorem sumN_add (g h : Nat → Int) : ∀ n : Nat, sumN n (fun i => g i + h i) = sumN n g + sumN n h
  | 0 => rfl
  | n + 1 => by unfold sumN; rw [sumN_add g h n]; show _ + _ + (g n + h n) = _; omega
theorem sumN_mul (a : Int) (g : Nat → Int) : ∀ n : Nat, sumN n (fun i => a * g i) = a * sumN n g
  | 0 => by simp [sumN]
  | n + 1 => by unfold sumN; rw [sumN_mul a g n, Int.mul_add]
theorem sumN_zero : ∀ n : Nat, sumN n (fun _ => 0) = 0
  | 0 => rfl
  | n + 1 => by unfold sumN; rw [sumN_zero n]; rfl

def pX (p : Nat → Int) : Nat → Int
  | 0 => 0
  | n + 1 => p n
def pD (p : Nat → Int) : Nat → Int := fun n => p n - pX p n
def p1 : Nat → Int := fun n => if n = 0 then 1 else 0
def pDn : Nat → Nat → Int
  | 0 => p1
  | m + 1 => pD (pDn m)
def pW : List Int → Nat → Nat → Int
  | [], _ => fun _ => 0
  | a :: r, m => fun n => a * pDn m n + pX (pW r (m - 1)) n
theorem pX_D (p : Nat → Int) : pX (pD p) = pD (pX p) := by
  funext n
  match n with
  | 0 => rfl
  | 1 => show pD p 0 = pX p 1 - pX (pX p) 1; rfl
  | n + 2 => rfl
theorem pX_zero : pX (fun _ => 0) = fun _ => 0 := by funext n; cases n <;> rfl
theorem pW_D : ∀ {f : List Int} {m : Nat}, f.length ≤ m + 1 → pW f (m + 1) = pD (pW f m)
  | [], m, _ => by funext n; cases n <;> rfl
  | a :: r, m, h => by
    have e : pX (pW r m) = pD (pX (pW r (m - 1))) := by
      match r, m, h with
      | [], m, _ => funext n; match n with
        | 0 => rfl
        | 1 => rfl
        | n + 2 => rfl
      | b :: s, m + 1, h =>
        show pX (pW (b :: s) (m + 1)) = pD (pX (pW (b :: s) m))
        rw [pW_D (f := b :: s) (m := m) (by simpa using h), pX_D]
    funext n
    show a * pD (pDn m) n + pX (pW r m) n = (a * pDn m n + pX (pW r (m - 1)) n) - pX (fun n => a * pDn m n + pX (pW r (m - 1)) n) n
    rw [e]
    cases n with
    | zero => simp [pD, pX]
    | succ n => simp only [pD, pX, Int.mul_sub]; omega
theorem pDn_deg : ∀ {m n : Nat}, m < n → pDn m n = 0
  | 0, n, h => by simp [pDn, p1]; omega
  | m + 1, n + 1, h => by
    show pDn m (n + 1) - pDn m n = 0
    rw [pDn_deg (m := m) (by omega), pDn_deg (m := m) (by omega)]; rfl
def conv (p q : Nat → Int) (n : Nat) : Int := sumN (n + 1) fun i => p i * q (n - i)
theorem conv_add (p p' q : Nat → Int) (n : Nat) : conv (fun i => p i + p' i) q n = conv p q n + conv p' q n := by
  unfold conv
  rw [← sumN_add]
  exact sumN_congr fun i _ => Int.add_mul _ _ _
theorem conv_mul (a : Int) (p q : Nat → Int) (n : Nat) : conv (fun i => a * p i) q n = a * conv p q n := by
  unfold conv
  rw [← sumN_mul]
  exact sumN_congr fun i _ => Int.mul_assoc _ _ _
theorem conv_zero (q : Nat → Int) (n : Nat) : conv (fun _ => 0) q n = 0 := by
  unfold conv
  rw [sumN_congr (h := fun _ => 0) fun i _ => Int.zero_mul _]
  exact sumN_zero _
theorem conv_X (p q : Nat → Int) (n : Nat) : conv (pX p) q n = pX (conv p q) n := by
  cases n with
  | zero => simp [conv, sumN, pX]
  | succ n =>
    show sumN (n + 1 + 1) _ = sumN (n + 1) _
    rw [sumN_front]
    simp only [pX, Int.zero_mul, Int.zero_add]
    exact sumN_congr fun i hi => by rw [show n + 1 - (i + 1) = n - i by omega]
theorem conv_D (p q : Nat → Int) (n : Nat) : conv (pD p) q n = pD (conv p q) n := by
  have h : conv (pD p) q n + conv (pX p) q n = conv p q n := by
    rw [← conv_add]
    congr 1
    funext i
    show p i - pX p i + pX p i = p i
    omega
  rw [conv_X] at h
  show _ = conv p q n - pX (conv p q) n
  omega
theorem conv_one (q : Nat → Int) (n : Nat) : conv p1 q n = q n := by
  unfold conv
  rw [sumN_front, sumN_congr (h := fun _ => 0) (n := n) fun i _ => by simp [p1], sumN_zero]
  simp [p1]
theorem conv_Dn {g : List Int} {k : Nat} (hg : g.length ≤ k + 1) : ∀ m n : Nat, conv (pDn m) (pW g k) n = pW g (m + k) n
  | 0, n => by rw [Nat.zero_add]; exact conv_one _ n
  | m + 1, n => by
    show conv (pD (pDn m)) (pW g k) n = _
    rw [conv_D, show conv (pDn m) (pW g k) = pW g (m + k) from funext (conv_Dn hg m), show m + 1 + k = m + k + 1 by omega, pW_D (by omega)]

/-! lists of coefficients -/
def addL : List Int → List Int → List Int
  | [], g => g
  | f, [] => f
  | a :: f, b :: g => (a + b) :: addL f g
def cvl : List Int → List Int → List Int
  | [], _ => []
  | a :: r, g => addL (g.map (a * ·)) (0 :: cvl r g)
theorem addL_len : ∀ f g : List Int, (addL f g).length = max f.length g.length
  | [], g => by simp [addL]
  | a :: f, [] => by simp [addL]
  | a :: f, b :: g => by simp [addL, addL_len f g]
theorem addL_at : ∀ (f g : List Int) (n : Nat), (addL f g).getD n 0 = f.getD n 0 + g.getD n 0
  | [], g, n => by simp [addL]
  | a :: f, [], n => by simp [addL]
  | a :: f, b :: g, 0 => by simp [addL]
  | a :: f, b :: g, n + 1 => by simpa [addL] using addL_at f g n
theorem getD_map (a : Int) (g : List Int) (n : Nat) : (g.map (a * ·)).getD n 0 = a * g.getD n 0 := by
  simp only [List.getD_eq_getElem?_getD, List.getElem?_map]
  cases g[n]? <;> simp
theorem getD_cons0 (l : List Int) : (fun n => ((0 : Int) :: l).getD n 0) = pX fun n => l.getD n 0 := by
  funext n; cases n <;> rfl
theorem pW_add : ∀ (f g : List Int) (m n : Nat), pW (addL f g) m n = pW f m n + pW g m n
  | [], g, m, n => by show _ = 0 + _; simp [addL]
  | a :: f, [], m, n => by show _ = _ + 0; simp [addL]
  | a :: f, b :: g, m, n => by
    show (a + b) * pDn m n + pX (pW (addL f g) (m - 1)) n = (a * pDn m n + pX (pW f (m - 1)) n) + (b * pDn m n + pX (pW g (m - 1)) n)
    cases n with
    | zero => simp only [pX, Int.add_mul]; omega
    | succ n => simp only [pX, Int.add_mul, pW_add f g (m - 1) n]; omega
theorem pW_smul (a : Int) : ∀ (g : List Int) (m n : Nat), pW (g.map (a * ·)) m n = a * pW g m n
  | [], m, n => by show 0 = a * 0; simp
  | b :: g, m, n => by
    show (a * b) * pDn m n + pX (pW (g.map (a * ·)) (m - 1)) n = a * (b * pDn m n + pX (pW g (m - 1)) n)
    cases n with
    | zero => simp only [pX, Int.mul_add, Int.mul_assoc]; simp
    | succ n => simp only [pX, Int.mul_add, Int.mul_assoc, pW_smul a g (m - 1) n]
/-- the h-vector of an f-vector -/
def hP (f : List Int) : List Int := (List.range f.length).map (pW f (f.length - 1))
theorem sumN_X (p : Nat → Int) (n : Nat) : sumN (n + 1) (pX p) = sumN n p := by
  rw [sumN_front]
  show 0 + sumN n p = _
  omega
theorem sumN_D (p : Nat → Int) (n : Nat) : sumN (n + 1) (pD p) = p n := by
  induction n with
  | zero => simp [sumN, pD, pX]
  | succ n ih => rw [sumN, ih]; show p n + (p (n + 1) - p n) = _; omega
end Go.Proofs.YtdedegbendjmbaaGreatDoor.Vc
/-
  Plain mathematics of complexes: the join of two, and its numbers of faces. Conditions: as each states them. No program in sight.
-/
namespace Go.Proofs.YtdedegbendjmbaaGreatDoor.Vc

def jnL (V : Int) (F G : List (List Int)) : List (List Int) := F.flatMap fun a => G.map fun b => a ++ b.map (V + ·)
/-- the lists whose complex is the join -/
def jnS (V : Int) (F G : List (List Int)) : List (List Int) := if F = [] ∨ G = [] then F ++ G else jnL V F G
theorem jnL_mem {V : Int} {F G : List (List Int)} {x : List Int} : x ∈ jnL V F G ↔ ∃ a ∈ F, ∃ b ∈ G, x = a ++ b.map (V + ·) := by
  unfold jnL
  rw [List.mem_flatMap]
  constructor
  · rintro ⟨a, ha, h⟩
    obtain ⟨b, hb, rfl⟩ := List.mem_map.1 h
    exact ⟨a, ha, b, hb, rfl⟩
  · rintro ⟨a, ha, b, hb, rfl⟩
    exact ⟨a, ha, List.mem_map.2 ⟨b, hb, rfl⟩⟩
theorem len_prod {α β γ : Type} (A : List α) (B : List β) (f : α → β → γ) : (A.flatMap fun y => B.map fun z => f y z).length = A.length * B.length := by
  induction A with
  | nil => simp
  | cons a r ih => rw [List.flatMap_cons, List.length_append, List.length_map, ih, List.length_cons, Nat.add_mul, Nat.one_mul, Nat.add_comm]
/-- the faces of a join, pair by pair -/
def jnF (V : Int) (F G : List (List Int)) (k : Nat) : List (List Int) := (List.range (k + 1)).flatMap fun i => (fcs F i).flatMap fun y => (fcs G (k - i)).map fun z => y ++ z.map (V + ·)
theorem jnS_sa {V W : Int} {F G : List (List Int)} (hF : Cplx V F) (hG : Cplx W G) : ∀ l ∈ jnS V F G, SA l := fun l hl => by
  unfold jnS at hl
  split at hl
  · rcases List.mem_append.1 hl with h | h
    · exact (hF.row l h).2.1
    · exact (hG.row l h).2.1
  · obtain ⟨a, ha, b, hb, rfl⟩ := jnL_mem.1 hl
    refine List.pairwise_append.2 ⟨(hF.row a ha).2.1, List.pairwise_map.2 ((hG.row b hb).2.1.imp fun h => by omega), fun x hx y hy => ?_⟩
    obtain ⟨z, hz, rfl⟩ := List.mem_map.1 hy
    have h1 := (hF.row a ha).2.2 x hx
    have h2 := (hG.row b hb).2.2 z hz
    omega
end Go.Proofs.YtdedegbendjmbaaGreatDoor.Vc
/-
  Joins of complexes, walked in the program. Conditions: as each states them.
-/
namespace Go.Proofs.YtdedegbendjmbaaGreatDoor.Vc
open Go.RowKit

def JnBig (F G : List (List Int)) : Prop := F ≠ [] ∧ G ≠ [] ∧ 400 < F.length * G.length
instance (F G : List (List Int)) : Decidable (JnBig F G) := by unfold JnBig; exact inferInstance
def jnV (V : Int) (F G : List (List Int)) : Int := if JnBig F G then 0 else cxV (jnS V F G)
def jnLs (V : Int) (F G : List (List Int)) : List (List Int) := if JnBig F G then [] else cxL (jnS V F G)
def jnK (V : Int) (F G : List (List Int)) : Int := if JnBig F G then 3 else cxK (jnS V F G)
/-- lists of a join, as they are met -/
def jnG (V : Int) (F G : List (List Int)) (i k : Nat) : List (List Int) := jnL V (F.take i) G ++ (G.take k).map fun b => gl F (i : Int) ++ b.map (V + ·)
theorem jnG_zero (V : Int) (F G : List (List Int)) (i : Nat) : jnG V F G i 0 = jnL V (F.take i) G := by simp [jnG]
theorem jnG_all {V : Int} {F G : List (List Int)} {i : Nat} (h : i < F.length) : jnG V F G i G.length = jnG V F G (i + 1) 0 := by
  rw [jnG_zero]
  unfold jnG jnL
  rw [List.take_length, take_succ_gl h, List.flatMap_append]
  simp
theorem jnG_succ {V : Int} {F G : List (List Int)} {i k : Nat} (h : k < G.length) : jnG V F G i (k + 1) = jnG V F G i k ++ [gl F (i : Int) ++ (gl G (k : Int)).map (V + ·)] := by
  unfold jnG
  rw [take_succ_gl h, List.map_append, List.append_assoc]; rfl
theorem jnG_end (V : Int) (F G : List (List Int)) : jnG V F G F.length 0 = jnL V F G := by rw [jnG_zero, List.take_length]
theorem jnL_len (V : Int) (F G : List (List Int)) : (jnL V F G).length = F.length * G.length := len_prod F G _
theorem jnG_len {V : Int} {F G : List (List Int)} {i k : Nat} (hi : i < F.length) (hk : k ≤ G.length) : (jnG V F G i k).length ≤ F.length * G.length := by
  unfold jnG
  rw [List.length_append, jnL_len, List.length_map, List.length_take, List.length_take, Nat.min_eq_left (by omega), Nat.min_eq_left hk]
  have h1 : (i + 1) * G.length ≤ F.length * G.length := Nat.mul_le_mul_right _ (by omega)
  rw [Nat.add_mul, Nat.one_mul] at h1
  omega
theorem jn_small {F G : List (List Int)} (hF : F ≠ []) (hG : G ≠ []) (h : ¬ JnBig F G) : F.length * G.length ≤ 400 := Nat.le_of_not_lt fun h' => h ⟨hF, hG, h'⟩
theorem Cplx.jn {V W : Int} {F G : List (List Int)} (hF : Cplx V F) (hG : Cplx W G) (h : ¬ JnBig F G) : (jnS V F G).length ≤ 800 ∧ (∀ l ∈ jnS V F G, SA l ∧ l.length ≤ 12) ∧ (jnS V F G).flatten.length ≤ 9600 := by
  have h2 : ∀ l ∈ jnS V F G, SA l ∧ l.length ≤ 12 := fun l hl => by
    refine ⟨jnS_sa hF hG l hl, ?_⟩
    unfold jnS at hl
    split at hl
    · rcases List.mem_append.1 hl with h | h
      · have := (hF.row l h).1; omega
      · have := (hG.row l h).1; omega
    · obtain ⟨a, ha, b, hb, rfl⟩ := jnL_mem.1 hl
      have := (hF.row a ha).1
      have := (hG.row b hb).1
      rw [List.length_append, List.length_map]; omega
  have h1 : (jnS V F G).length ≤ 800 := by
    have := hF.f
    have := hG.f
    unfold jnS
    split
    · rw [List.length_append]; omega
    · rename_i h3
      rw [jnL_len]
      have := jn_small (fun e => h3 (.inl e)) (fun e => h3 (.inr e)) h
      omega
  refine ⟨h1, h2, ?_⟩
  have := flat_le2 (b := 12) fun l hl => (h2 l hl).2
  omega

end Go.Proofs.YtdedegbendjmbaaGreatDoor.Vc
/-
  Joins of complexes, walked in the reference; and joins on both sides. Conditions: as each states them.
-/
namespace Go.Proofs.YtdedegbendjmbaaGreatDoor.Vc
open Go.RowKit

theorem mat_two {t1 t2 : TypeId} {A B : Option Addr} {n c m d : Nat} {rs ts : List SlV} {F G : List (List Int)} : (mat t1 t2 B m d ts G ++ (mat t1 t2 A n c rs F ++ [])).Perm (CkR t1 A n c rs :: CkR t1 B m d ts :: (rowsCk t2 rs F ++ rowsCk t2 ts G)) := by
  rw [List.append_nil]
  refine List.perm_append_comm.trans ?_
  exact List.Perm.cons _ List.perm_middle
theorem two_eq {a b c d : Value} (h : a = c) (h' : b = d) : [a, b] = [c, d] := by rw [h, h']
theorem rowLen {w : World} {A : Option Addr} {n : Nat} {rs : List SlV} {F : List (List Int)} (hR : RowsI w A n rs F) {b : Nat} (h : ∀ f ∈ F, f.length ≤ b) : ∀ i, i < n → (rs.getD i slNil).n ≤ b := fun i hi => by
  have h1 := (hR.row i hi).1
  have h2 : F.getD i [] ∈ F := by
    have := hR.len
    rw [List.getD_eq_getElem?_getD, List.getElem?_eq_getElem (show i < F.length by omega)]; exact List.getElem_mem _
  have := h _ h2
  omega

set_option maxHeartbeats 1000000 in
theorem l17Join_c (V : Int) (A : Option Addr) (n c : Nat) (rs : List SlV) (F : List (List Int)) (W : Int) (B : Option Addr) (m d : Nat) (ts : List SlV) (G : List (List Int)) (w : World) (hR : RowsI w A n rs F) (hQ : RowsI w B m ts G) (hF : Cplx V F) (hG : Cplx W G) :
    Ret Tryz.prog 105 [.agg #[.int .i64 V, .slice A n c], .agg #[.int .i64 W, .slice B m d]] w (AnsC (jnV V F G) (jnLs V F G) (jnK V F G) w) := by
  have hFl := hR.len
  have hGl := hQ.len
  have hn4 := hF.f
  have hm4 := hG.f
  have hV := hF.v
  have hra := rowLen hR (b := 1000000000) fun f hf => by have := (hF.row f hf).1; omega
  have hrb := rowLen hQ (b := 1000000000) fun f hf => by have := (hG.row f hf).1; omega
  refine Ret.of_cd Tryz.func105 rfl Tryz.ntmps105 rfl (postc2 rfl rfl) ?_
  refine Cd.seq ?_
  refine Cd.region ?_
  refine Ops.box2 (St.refl w) rfl rfl ?_
  intro A2 w1 hS1
  refine Ops.box2 hS1 rfl rfl ?_
  intro A3 w2 hS2
  refine Ops.new2 hS2 rfl ?_
  intro A4 w3 hS3
  have hS3 : St w w3 [cxZ A4, cxB A3 W B m d, cxB A2 V A n c] := hS3
  clear hS1 hS2
  refine Ops.mv_int rfl rfl rfl ?_
  refine Ops.nil ?_
  refine thenQ_n ?_
  refine Cd.seq ?_
  refine Cd.seq ?_
  refine Cd.region ?_
  refine Ops.fld (hS3.rd 2 rfl) rfl rfl rfl rfl inferInstance ?_
  refine Ops.ldf_s (hS3.rd 2 rfl) rfl rfl rfl rfl rfl ?_
  refine Ops.len rfl rfl ?_
  refine Ops.eql rfl rfl rfl ?_
  refine Ops.mv_bool rfl rfl rfl ?_
  refine Ops.split_p 15 rfl (fun h1 => ?_) (fun h1 => ?_)
  · have hF0 : F = [] := List.eq_nil_of_length_eq_zero (by omega)
    have hbig : ¬ JnBig F G := fun h => h.1 hF0
    obtain ⟨hL1, hL2, hL3⟩ := hF.jn hG hbig
    have hjs : jnS V F G = F ++ G := by unfold jnS; rw [if_pos (.inl hF0)]
    rw [hjs] at hL1 hL2 hL3
    unfold jnV jnLs jnK
    rw [if_neg hbig, if_neg hbig, if_neg hbig, hjs]
    refine Ops.skipg rfl rfl rfl rfl rfl ?_
    refine Ops.skipg rfl rfl rfl rfl rfl ?_
    refine Ops.skipg rfl rfl rfl rfl rfl ?_
    refine Ops.skipg rfl rfl rfl rfl rfl ?_
    refine Ops.pick_t rfl rfl rfl ?_
    refine Ops.nil ?_
    refine thenQ_n ?_
    refine Cd.cond_t rfl ?_
    refine Cd.seq ?_
    refine Cd.drawP [6, 10] [.ex (.pointer (ptrAt (A2) 1)), .ex (.slice (A) (n) (c)), .pr (fun v w' => ∃ A1 c1 rs1, v = .slice A1 n c1 ∧ rs1.length = n ∧ St w3 w' (mat 25 2 A1 n c1 rs1 F ++ [])), .ex (.pointer (ptrAt (A3) 1)), .ex (.slice (B) (m) (d)), .p2 2 (fun a v w' => ∃ A1 c1 rs1 A5 c5 rs5, a = .slice A1 n c1 ∧ v = .slice A5 m c5 ∧ rs1.length = n ∧ rs5.length = m ∧ St w3 w' (mat 25 2 A5 m c5 rs5 G ++ (mat 25 2 A1 n c1 rs1 F ++ []))), .pr (fun v w' => ∃ A7 c7 rs7, v = .slice A7 (n + m) c7 ∧ rs7.length = n + m ∧ St w3 w' (mat 25 2 A7 (n + m) c7 rs7 (F ++ G) ++ [])), .pr (fun v w' => ∃ A8 c8 rs8, v = .tuple #[.agg #[.int .i64 (cxV (F ++ G)), .slice A8 (cxL (F ++ G)).length c8], .int .i64 (cxK (F ++ G))] ∧ rs8.length = (cxL (F ++ G)).length ∧ St w3 w' (mat 25 2 A8 (cxL (F ++ G)).length c8 rs8 (cxL (F ++ G)) ++ [])), .pr (fun v w' => ∃ A8 c8 rs8, v = .agg #[.int .i64 (cxV (F ++ G)), .slice A8 (cxL (F ++ G)).length c8] ∧ rs8.length = (cxL (F ++ G)).length ∧ St w3 w' (mat 25 2 A8 (cxL (F ++ G)).length c8 rs8 (cxL (F ++ G)) ++ [])), .ex (.int .i64 (cxK (F ++ G))), .pr (fun _ w' => ∃ A8 c8 rs8, rs8.length = (cxL (F ++ G)).length ∧ St w w' ([cxB A4 (cxV (F ++ G)) A8 (cxL (F ++ G)).length c8, cxB A3 W B m d, cxB A2 V A n c] ++ (mat 25 2 A8 (cxL (F ++ G)).length c8 rs8 (cxL (F ++ G)) ++ []))), .ex (.int .i64 (cxK (F ++ G)))] (by kernel_rfl) (by kernel_rfl) (List.forall_mem_cons.2 ⟨Ye.lasts_ex _, (List.forall_mem_cons.2 ⟨Ye.lasts_ex _, (List.forall_mem_cons.2 ⟨Ye.lasts_pr (fun v w w' h hb => by obtain ⟨A1, c1, rs1, hv, hl, hT⟩ := h; exact ⟨A1, c1, rs1, hv, hl, hT.later hb⟩), (List.forall_mem_cons.2 ⟨Ye.lasts_ex _, (List.forall_mem_cons.2 ⟨Ye.lasts_ex _, (List.forall_mem_cons.2 ⟨Ye.lasts_p2 (fun a v w w' h hb => by obtain ⟨A1, c1, rs1, A5, c5, rs5, h1, h2, h3, h4, hT⟩ := h; exact ⟨A1, c1, rs1, A5, c5, rs5, h1, h2, h3, h4, hT.later hb⟩), (List.forall_mem_cons.2 ⟨Ye.lasts_pr (fun v w w' h hb => by obtain ⟨A1, c1, rs1, hv, hl, hT⟩ := h; exact ⟨A1, c1, rs1, hv, hl, hT.later hb⟩), (List.forall_mem_cons.2 ⟨Ye.lasts_pr (fun v w w' h hb => by obtain ⟨A1, c1, rs1, hv, hl, hT⟩ := h; exact ⟨A1, c1, rs1, hv, hl, hT.later hb⟩), (List.forall_mem_cons.2 ⟨Ye.lasts_pr (fun v w w' h hb => by obtain ⟨A1, c1, rs1, hv, hl, hT⟩ := h; exact ⟨A1, c1, rs1, hv, hl, hT.later hb⟩), (List.forall_mem_cons.2 ⟨Ye.lasts_ex _, (List.forall_mem_cons.2 ⟨Ye.lasts_pr (fun v w w' h hb => by obtain ⟨A1, c1, rs1, hl, hT⟩ := h; exact ⟨A1, c1, rs1, hl, hT.later hb⟩), (List.forall_mem_cons.2 ⟨Ye.lasts_ex _, (fun _ h => by cases h)⟩)⟩)⟩)⟩)⟩)⟩)⟩)⟩)⟩)⟩)⟩)⟩) ⟨?_, ?_, ?_, ?_, ?_, ?_, ?_, ?_, ?_, ?_, ?_, ?_, trivial⟩ ?_
    · intro e1 w1 cc hlo hhi hb0 hp hun hq
      show Ops _ _ _ _ _ _ _
      replace hlo := le_of_lo hlo (b := 0) (by kernel_rfl)
      replace hhi := le_of_hi hhi (b := 0) (by kernel_rfl)
      obtain rfl : cc = 0 := by omega
      have hb := hb0 rfl
      refine Ops.fld ((hS3.rd 2 rfl).below hb) rfl rfl rfl rfl inferInstance ?_
      refine Ops.nil ?_
      exact AfterP.dn rfl (Below.refl _ _) (by exact rfl)
    · intro e1 w1 cc hlo hhi hb0 hp hun hq
      show Ops _ _ _ _ _ _ _
      replace hlo := le_of_lo hlo (b := 0) (by kernel_rfl)
      replace hhi := le_of_hi hhi (b := 0) (by kernel_rfl)
      obtain rfl : cc = 0 := by omega
      have hb := hb0 rfl
      refine Ops.ldf_s ((hS3.rd 2 rfl).below hb) rfl rfl rfl rfl rfl ?_
      refine Ops.nil ?_
      exact AfterP.dn rfl (Below.refl _ _) (by exact rfl)
    · intro e1 w1 cc hlo hhi hb0 hp hun hq
      show Ops _ _ _ _ _ _ _
      replace hlo := le_of_lo hlo (b := 0) (by kernel_rfl)
      replace hhi := le_of_hi hhi (b := 0) (by kernel_rfl)
      obtain rfl : cc = 0 := by omega
      have hb := hb0 rfl
      refine Ops.call (l01Own2_c A n c rs F _ ((hS3.later hb).oldRows hR) (by omega) hra) rfl rfl rfl ?_
      rintro _ w9 ⟨A1, c1, rs1, rfl, hrl, hst⟩
      refine Ops.nil ?_
      exact AfterP.dn rfl hst.below ⟨A1, c1, rs1, rfl, hrl, ((St.refl w3).later hb).call hst⟩
    · intro e1 w1 cc hlo hhi hb0 hp hun hq
      show Ops _ _ _ _ _ _ _
      replace hlo := le_of_lo hlo (b := 0) (by kernel_rfl)
      replace hhi := le_of_hi hhi (b := 0) (by kernel_rfl)
      obtain rfl : cc = 0 := by omega
      have hb := hb0 rfl
      refine Ops.fld ((hS3.rd 1 rfl).below hb) rfl rfl rfl rfl inferInstance ?_
      refine Ops.nil ?_
      exact AfterP.dn rfl (Below.refl _ _) (by exact rfl)
    · intro e1 w1 cc hlo hhi hb0 hp hun hq
      show Ops _ _ _ _ _ _ _
      replace hlo := le_of_lo hlo (b := 0) (by kernel_rfl)
      replace hhi := le_of_hi hhi (b := 0) (by kernel_rfl)
      obtain rfl : cc = 0 := by omega
      have hb := hb0 rfl
      refine Ops.ldf_s ((hS3.rd 1 rfl).below hb) rfl rfl rfl rfl rfl ?_
      refine Ops.nil ?_
      exact AfterP.dn rfl (Below.refl _ _) (by exact rfl)
    · intro e1 w1 cc hlo hhi hb0 hp hun hq
      show Ops _ _ _ _ _ _ _
      replace hlo := le_of_lo hlo (b := 0) (by kernel_rfl)
      replace hhi := le_of_hi hhi (b := 0) (by kernel_rfl)
      obtain rfl : cc = 0 := by omega
      have hb := hb0 rfl
      obtain ⟨A1, c1, rs1, h23, hl1, hT⟩ := (hp 2 _ _ (by kernel_rfl) rfl rfl (by kernel_rfl))
      refine Ops.call (l01Own2_c B m d ts G _ ((hS3.later hb).oldRows hQ) (by omega) hrb) rfl rfl rfl ?_
      rintro _ w9 ⟨A5, c5, rs5, rfl, hrl5, hst⟩
      refine Ops.nil ?_
      exact AfterP.dn rfl hst.below ⟨A1, c1, rs1, A5, c5, rs5, h23, rfl, hl1, hrl5, hT.call hst⟩
    · intro e1 w1 cc hlo hhi hb0 hp hun hq
      show Ops _ _ _ _ _ _ _
      replace hlo := le_of_lo hlo (b := 0) (by kernel_rfl)
      replace hhi := le_of_hi hhi (b := 0) (by kernel_rfl)
      obtain rfl : cc = 0 := by omega
      have hb := hb0 rfl
      obtain ⟨A1, c1, rs1, A5, c5, rs5, h23, h26, hl1, hl5, hT⟩ := (hp 5 _ _ (by kernel_rfl) rfl rfl (by kernel_rfl))
      refine Ops.call (l17Append_c 0 1 (hT.perm mat_two) (by decide) rfl rfl (by omega) (by omega)) rfl (by exact two_eq h23 h26) rfl ?_
      rintro _ w9 ⟨A7, c7, rfl, hst⟩
      refine Ops.nil ?_
      exact AfterU.dn rfl ⟨A7, c7, rs1 ++ rs5, rfl, by rw [List.length_append, hl1, hl5], by unfold mat; rw [rowsCk_append (by omega), List.append_nil]; exact St.sub hst (List.Sublist.cons_cons _ (List.sublist_cons_self _ _))⟩
    · intro e1 w1 cc hlo hhi hb0 hp hun hq
      show Ops _ _ _ _ _ _ _
      replace hlo := le_of_lo hlo (b := 1) (by kernel_rfl)
      replace hhi := le_of_hi hhi (b := 1) (by kernel_rfl)
      obtain rfl : cc = 1 := by omega
      have hph := hp 6 _ _ (by kernel_rfl) rfl rfl (by kernel_rfl)
      obtain ⟨A7, c7, rs7, h27, hl7, hT⟩ := (hp 6 _ _ (by kernel_rfl) rfl rfl (by kernel_rfl))
      refine Ops.call (l17Make_c A7 _ c7 rs7 (F ++ G) _ (St.rowsI hT (by rw [List.length_append, hFl, hGl])) (by omega) (by omega) (fun l hl => (hL2 l hl).1)) rfl (by exact congrArg (fun v => [v]) h27) rfl ?_
      rintro _ w9 ⟨A8, c8, rs8, rfl, hrl8, hst⟩
      refine Ops.nil ?_
      exact AfterP.dn rfl hst.below ⟨A8, c8, rs8, rfl, hrl8, (hT.call hst).sub (List.sublist_append_left _ _)⟩
    · intro e1 w1 cc hlo hhi hb0 hp hun hq
      show Ops _ _ _ _ _ _ _
      replace hlo := le_of_lo hlo (b := 1) (by kernel_rfl)
      replace hhi := le_of_hi hhi (b := 1) (by kernel_rfl)
      obtain rfl : cc = 1 := by omega
      have hph := hp 6 _ _ (by kernel_rfl) rfl rfl (by kernel_rfl)
      obtain ⟨A8, c8, rs8, h28, hl8, hT⟩ := (hp 7 _ _ (by kernel_rfl) rfl rfl (by kernel_rfl))
      refine Ops.extract (by exact h28) rfl rfl ?_
      refine Ops.nil ?_
      exact AfterP.dn rfl (Below.refl _ _) ⟨A8, c8, rs8, rfl, hl8, hT⟩
    · intro e1 w1 cc hlo hhi hb0 hp hun hq
      show Ops _ _ _ _ _ _ _
      replace hlo := le_of_lo hlo (b := 1) (by kernel_rfl)
      replace hhi := le_of_hi hhi (b := 1) (by kernel_rfl)
      obtain rfl : cc = 1 := by omega
      have hph := hp 6 _ _ (by kernel_rfl) rfl rfl (by kernel_rfl)
      obtain ⟨A8, c8, rs8, h28, hl8, hT⟩ := (hp 7 _ _ (by kernel_rfl) rfl rfl (by kernel_rfl))
      refine Ops.extract (by exact h28) rfl rfl ?_
      refine Ops.nil ?_
      exact AfterP.dn rfl (Below.refl _ _) (by exact rfl)
    · intro e1 w1 cc hlo hhi hb0 hp hun hq
      show Ops _ _ _ _ _ _ _
      replace hlo := le_of_lo hlo (b := 1) (by kernel_rfl)
      replace hhi := le_of_hi hhi (b := 1) (by kernel_rfl)
      obtain rfl : cc = 1 := by omega
      have hph := hp 6 _ _ (by kernel_rfl) rfl rfl (by kernel_rfl)
      obtain ⟨A8, c8, rs8, h29, hl8, hT⟩ := (hp 8 _ _ (by kernel_rfl) rfl rfl (by kernel_rfl))
      have hX := hS3.call2 hT
      refine Ops.st_agg 2 0 hX rfl rfl (by exact h29) rfl rfl rfl rfl ?_
      intro w9 hS9
      refine Ops.nil ?_
      exact AfterU.st rfl ⟨A8, c8, rs8, hl8, hS9⟩
    · intro e1 w1 cc hlo hhi hb0 hp hun hq
      show Ops _ _ _ _ _ _ _
      refine Ops.mv_int rfl rfl rfl ?_
      refine Ops.nil ?_
      exact AfterP.dn rfl (Below.refl _ _) (by exact rfl)
    intro u w5 _ hu _ _
    obtain ⟨A8, c8, rs8, hl8, hS9⟩ := hu 10 _ rfl (by kernel_rfl)
    refine thenQ_n ?_
    refine Cd.ret ?_
    refine thenQ_r ?_
    skip
    refine retc2_r rfl (hS9.rd 0 rfl) rfl ?_
    exact ⟨A8, c8, rs8, rfl, hl8, hS9.tail.tail.tail⟩
  have hF0 : F ≠ [] := fun e => h1 (by rw [e] at hFl; simp at hFl; omega)
  refine Ops.rung rfl rfl rfl ?_
  refine Ops.fld (hS3.rd 1 rfl) rfl rfl rfl rfl inferInstance ?_
  refine Ops.rung rfl rfl rfl ?_
  refine Ops.ldf_s (hS3.rd 1 rfl) rfl rfl rfl rfl rfl ?_
  refine Ops.rung rfl rfl rfl ?_
  refine Ops.len rfl rfl ?_
  refine Ops.rung rfl rfl rfl ?_
  refine Ops.eql rfl rfl rfl ?_
  refine Ops.pick_f rfl rfl rfl ?_
  refine Ops.nil ?_
  refine thenQ_n ?_
  refine Cd.cond_p _ rfl (fun h2 => ?_) (fun h2 => ?_)
  · have hG0 : G = [] := List.eq_nil_of_length_eq_zero (by omega)
    have hbig : ¬ JnBig F G := fun h => h.2.1 hG0
    obtain ⟨hL1, hL2, hL3⟩ := hF.jn hG hbig
    have hjs : jnS V F G = F ++ G := by unfold jnS; rw [if_pos (.inr hG0)]
    rw [hjs] at hL1 hL2 hL3
    unfold jnV jnLs jnK
    rw [if_neg hbig, if_neg hbig, if_neg hbig, hjs]
    refine Cd.seq ?_
    refine Cd.drawP [6, 10] [.ex (.pointer (ptrAt (A2) 1)), .ex (.slice (A) (n) (c)), .pr (fun v w' => ∃ A1 c1 rs1, v = .slice A1 n c1 ∧ rs1.length = n ∧ St w3 w' (mat 25 2 A1 n c1 rs1 F ++ [])), .ex (.pointer (ptrAt (A3) 1)), .ex (.slice (B) (m) (d)), .p2 2 (fun a v w' => ∃ A1 c1 rs1 A5 c5 rs5, a = .slice A1 n c1 ∧ v = .slice A5 m c5 ∧ rs1.length = n ∧ rs5.length = m ∧ St w3 w' (mat 25 2 A5 m c5 rs5 G ++ (mat 25 2 A1 n c1 rs1 F ++ []))), .pr (fun v w' => ∃ A7 c7 rs7, v = .slice A7 (n + m) c7 ∧ rs7.length = n + m ∧ St w3 w' (mat 25 2 A7 (n + m) c7 rs7 (F ++ G) ++ [])), .pr (fun v w' => ∃ A8 c8 rs8, v = .tuple #[.agg #[.int .i64 (cxV (F ++ G)), .slice A8 (cxL (F ++ G)).length c8], .int .i64 (cxK (F ++ G))] ∧ rs8.length = (cxL (F ++ G)).length ∧ St w3 w' (mat 25 2 A8 (cxL (F ++ G)).length c8 rs8 (cxL (F ++ G)) ++ [])), .pr (fun v w' => ∃ A8 c8 rs8, v = .agg #[.int .i64 (cxV (F ++ G)), .slice A8 (cxL (F ++ G)).length c8] ∧ rs8.length = (cxL (F ++ G)).length ∧ St w3 w' (mat 25 2 A8 (cxL (F ++ G)).length c8 rs8 (cxL (F ++ G)) ++ [])), .ex (.int .i64 (cxK (F ++ G))), .pr (fun _ w' => ∃ A8 c8 rs8, rs8.length = (cxL (F ++ G)).length ∧ St w w' ([cxB A4 (cxV (F ++ G)) A8 (cxL (F ++ G)).length c8, cxB A3 W B m d, cxB A2 V A n c] ++ (mat 25 2 A8 (cxL (F ++ G)).length c8 rs8 (cxL (F ++ G)) ++ []))), .ex (.int .i64 (cxK (F ++ G)))] (by kernel_rfl) (by kernel_rfl) (List.forall_mem_cons.2 ⟨Ye.lasts_ex _, (List.forall_mem_cons.2 ⟨Ye.lasts_ex _, (List.forall_mem_cons.2 ⟨Ye.lasts_pr (fun v w w' h hb => by obtain ⟨A1, c1, rs1, hv, hl, hT⟩ := h; exact ⟨A1, c1, rs1, hv, hl, hT.later hb⟩), (List.forall_mem_cons.2 ⟨Ye.lasts_ex _, (List.forall_mem_cons.2 ⟨Ye.lasts_ex _, (List.forall_mem_cons.2 ⟨Ye.lasts_p2 (fun a v w w' h hb => by obtain ⟨A1, c1, rs1, A5, c5, rs5, h1, h2, h3, h4, hT⟩ := h; exact ⟨A1, c1, rs1, A5, c5, rs5, h1, h2, h3, h4, hT.later hb⟩), (List.forall_mem_cons.2 ⟨Ye.lasts_pr (fun v w w' h hb => by obtain ⟨A1, c1, rs1, hv, hl, hT⟩ := h; exact ⟨A1, c1, rs1, hv, hl, hT.later hb⟩), (List.forall_mem_cons.2 ⟨Ye.lasts_pr (fun v w w' h hb => by obtain ⟨A1, c1, rs1, hv, hl, hT⟩ := h; exact ⟨A1, c1, rs1, hv, hl, hT.later hb⟩), (List.forall_mem_cons.2 ⟨Ye.lasts_pr (fun v w w' h hb => by obtain ⟨A1, c1, rs1, hv, hl, hT⟩ := h; exact ⟨A1, c1, rs1, hv, hl, hT.later hb⟩), (List.forall_mem_cons.2 ⟨Ye.lasts_ex _, (List.forall_mem_cons.2 ⟨Ye.lasts_pr (fun v w w' h hb => by obtain ⟨A1, c1, rs1, hl, hT⟩ := h; exact ⟨A1, c1, rs1, hl, hT.later hb⟩), (List.forall_mem_cons.2 ⟨Ye.lasts_ex _, (fun _ h => by cases h)⟩)⟩)⟩)⟩)⟩)⟩)⟩)⟩)⟩)⟩)⟩)⟩) ⟨?_, ?_, ?_, ?_, ?_, ?_, ?_, ?_, ?_, ?_, ?_, ?_, trivial⟩ ?_
    · intro e1 w1 cc hlo hhi hb0 hp hun hq
      show Ops _ _ _ _ _ _ _
      replace hlo := le_of_lo hlo (b := 0) (by kernel_rfl)
      replace hhi := le_of_hi hhi (b := 0) (by kernel_rfl)
      obtain rfl : cc = 0 := by omega
      have hb := hb0 rfl
      refine Ops.fld ((hS3.rd 2 rfl).below hb) rfl rfl rfl rfl inferInstance ?_
      refine Ops.nil ?_
      exact AfterP.dn rfl (Below.refl _ _) (by exact rfl)
    · intro e1 w1 cc hlo hhi hb0 hp hun hq
      show Ops _ _ _ _ _ _ _
      replace hlo := le_of_lo hlo (b := 0) (by kernel_rfl)
      replace hhi := le_of_hi hhi (b := 0) (by kernel_rfl)
      obtain rfl : cc = 0 := by omega
      have hb := hb0 rfl
      refine Ops.ldf_s ((hS3.rd 2 rfl).below hb) rfl rfl rfl rfl rfl ?_
      refine Ops.nil ?_
      exact AfterP.dn rfl (Below.refl _ _) (by exact rfl)
    · intro e1 w1 cc hlo hhi hb0 hp hun hq
      show Ops _ _ _ _ _ _ _
      replace hlo := le_of_lo hlo (b := 0) (by kernel_rfl)
      replace hhi := le_of_hi hhi (b := 0) (by kernel_rfl)
      obtain rfl : cc = 0 := by omega
      have hb := hb0 rfl
      refine Ops.call (l01Own2_c A n c rs F _ ((hS3.later hb).oldRows hR) (by omega) hra) rfl rfl rfl ?_
      rintro _ w9 ⟨A1, c1, rs1, rfl, hrl, hst⟩
      refine Ops.nil ?_
      exact AfterP.dn rfl hst.below ⟨A1, c1, rs1, rfl, hrl, ((St.refl w3).later hb).call hst⟩
    · intro e1 w1 cc hlo hhi hb0 hp hun hq
      show Ops _ _ _ _ _ _ _
      replace hlo := le_of_lo hlo (b := 0) (by kernel_rfl)
      replace hhi := le_of_hi hhi (b := 0) (by kernel_rfl)
      obtain rfl : cc = 0 := by omega
      have hb := hb0 rfl
      refine Ops.fld ((hS3.rd 1 rfl).below hb) rfl rfl rfl rfl inferInstance ?_
      refine Ops.nil ?_
      exact AfterP.dn rfl (Below.refl _ _) (by exact rfl)
    · intro e1 w1 cc hlo hhi hb0 hp hun hq
      show Ops _ _ _ _ _ _ _
      replace hlo := le_of_lo hlo (b := 0) (by kernel_rfl)
      replace hhi := le_of_hi hhi (b := 0) (by kernel_rfl)
      obtain rfl : cc = 0 := by omega
      have hb := hb0 rfl
      refine Ops.ldf_s ((hS3.rd 1 rfl).below hb) rfl rfl rfl rfl rfl ?_
      refine Ops.nil ?_
      exact AfterP.dn rfl (Below.refl _ _) (by exact rfl)
    · intro e1 w1 cc hlo hhi hb0 hp hun hq
      show Ops _ _ _ _ _ _ _
      replace hlo := le_of_lo hlo (b := 0) (by kernel_rfl)
      replace hhi := le_of_hi hhi (b := 0) (by kernel_rfl)
      obtain rfl : cc = 0 := by omega
      have hb := hb0 rfl
      obtain ⟨A1, c1, rs1, h23, hl1, hT⟩ := (hp 2 _ _ (by kernel_rfl) rfl rfl (by kernel_rfl))
      refine Ops.call (l01Own2_c B m d ts G _ ((hS3.later hb).oldRows hQ) (by omega) hrb) rfl rfl rfl ?_
      rintro _ w9 ⟨A5, c5, rs5, rfl, hrl5, hst⟩
      refine Ops.nil ?_
      exact AfterP.dn rfl hst.below ⟨A1, c1, rs1, A5, c5, rs5, h23, rfl, hl1, hrl5, hT.call hst⟩
    · intro e1 w1 cc hlo hhi hb0 hp hun hq
      show Ops _ _ _ _ _ _ _
      replace hlo := le_of_lo hlo (b := 0) (by kernel_rfl)
      replace hhi := le_of_hi hhi (b := 0) (by kernel_rfl)
      obtain rfl : cc = 0 := by omega
      have hb := hb0 rfl
      obtain ⟨A1, c1, rs1, A5, c5, rs5, h23, h26, hl1, hl5, hT⟩ := (hp 5 _ _ (by kernel_rfl) rfl rfl (by kernel_rfl))
      refine Ops.call (l17Append_c 0 1 (hT.perm mat_two) (by decide) rfl rfl (by omega) (by omega)) rfl (by exact two_eq h23 h26) rfl ?_
      rintro _ w9 ⟨A7, c7, rfl, hst⟩
      refine Ops.nil ?_
      exact AfterU.dn rfl ⟨A7, c7, rs1 ++ rs5, rfl, by rw [List.length_append, hl1, hl5], by unfold mat; rw [rowsCk_append (by omega), List.append_nil]; exact St.sub hst (List.Sublist.cons_cons _ (List.sublist_cons_self _ _))⟩
    · intro e1 w1 cc hlo hhi hb0 hp hun hq
      show Ops _ _ _ _ _ _ _
      replace hlo := le_of_lo hlo (b := 1) (by kernel_rfl)
      replace hhi := le_of_hi hhi (b := 1) (by kernel_rfl)
      obtain rfl : cc = 1 := by omega
      have hph := hp 6 _ _ (by kernel_rfl) rfl rfl (by kernel_rfl)
      obtain ⟨A7, c7, rs7, h27, hl7, hT⟩ := (hp 6 _ _ (by kernel_rfl) rfl rfl (by kernel_rfl))
      refine Ops.call (l17Make_c A7 _ c7 rs7 (F ++ G) _ (St.rowsI hT (by rw [List.length_append, hFl, hGl])) (by omega) (by omega) (fun l hl => (hL2 l hl).1)) rfl (by exact congrArg (fun v => [v]) h27) rfl ?_
      rintro _ w9 ⟨A8, c8, rs8, rfl, hrl8, hst⟩
      refine Ops.nil ?_
      exact AfterP.dn rfl hst.below ⟨A8, c8, rs8, rfl, hrl8, (hT.call hst).sub (List.sublist_append_left _ _)⟩
    · intro e1 w1 cc hlo hhi hb0 hp hun hq
      show Ops _ _ _ _ _ _ _
      replace hlo := le_of_lo hlo (b := 1) (by kernel_rfl)
      replace hhi := le_of_hi hhi (b := 1) (by kernel_rfl)
      obtain rfl : cc = 1 := by omega
      have hph := hp 6 _ _ (by kernel_rfl) rfl rfl (by kernel_rfl)
      obtain ⟨A8, c8, rs8, h28, hl8, hT⟩ := (hp 7 _ _ (by kernel_rfl) rfl rfl (by kernel_rfl))
      refine Ops.extract (by exact h28) rfl rfl ?_
      refine Ops.nil ?_
      exact AfterP.dn rfl (Below.refl _ _) ⟨A8, c8, rs8, rfl, hl8, hT⟩
    · intro e1 w1 cc hlo hhi hb0 hp hun hq
      show Ops _ _ _ _ _ _ _
      replace hlo := le_of_lo hlo (b := 1) (by kernel_rfl)
      replace hhi := le_of_hi hhi (b := 1) (by kernel_rfl)
      obtain rfl : cc = 1 := by omega
      have hph := hp 6 _ _ (by kernel_rfl) rfl rfl (by kernel_rfl)
      obtain ⟨A8, c8, rs8, h28, hl8, hT⟩ := (hp 7 _ _ (by kernel_rfl) rfl rfl (by kernel_rfl))
      refine Ops.extract (by exact h28) rfl rfl ?_
      refine Ops.nil ?_
      exact AfterP.dn rfl (Below.refl _ _) (by exact rfl)
    · intro e1 w1 cc hlo hhi hb0 hp hun hq
      show Ops _ _ _ _ _ _ _
      replace hlo := le_of_lo hlo (b := 1) (by kernel_rfl)
      replace hhi := le_of_hi hhi (b := 1) (by kernel_rfl)
      obtain rfl : cc = 1 := by omega
      have hph := hp 6 _ _ (by kernel_rfl) rfl rfl (by kernel_rfl)
      obtain ⟨A8, c8, rs8, h29, hl8, hT⟩ := (hp 8 _ _ (by kernel_rfl) rfl rfl (by kernel_rfl))
      have hX := hS3.call2 hT
      refine Ops.st_agg 2 0 hX rfl rfl (by exact h29) rfl rfl rfl rfl ?_
      intro w9 hS9
      refine Ops.nil ?_
      exact AfterU.st rfl ⟨A8, c8, rs8, hl8, hS9⟩
    · intro e1 w1 cc hlo hhi hb0 hp hun hq
      show Ops _ _ _ _ _ _ _
      refine Ops.mv_int rfl rfl rfl ?_
      refine Ops.nil ?_
      exact AfterP.dn rfl (Below.refl _ _) (by exact rfl)
    intro u w5 _ hu _ _
    obtain ⟨A8, c8, rs8, hl8, hS9⟩ := hu 10 _ rfl (by kernel_rfl)
    refine thenQ_n ?_
    refine Cd.ret ?_
    refine thenQ_r ?_
    skip
    refine retc2_r rfl (hS9.rd 0 rfl) rfl ?_
    exact ⟨A8, c8, rs8, rfl, hl8, hS9.tail.tail.tail⟩
  have hG0 : G ≠ [] := fun e => h2 (by rw [e] at hGl; simp at hGl; omega)
  have hnm : (n : Int) * m = ((n * m : Nat) : Int) := (Int.natCast_mul _ _).symm
  have hnm2 : n * m ≤ 400 * 400 := Nat.mul_le_mul (by omega) (by omega)
  refine Cd.skip ?_
  refine thenQ_n ?_
  refine Cd.seq ?_
  refine Cd.seq ?_
  refine Cd.region ?_
  refine Ops.fld (hS3.rd 2 rfl) rfl rfl rfl rfl inferInstance ?_
  refine Ops.ldf_s (hS3.rd 2 rfl) rfl rfl rfl rfl rfl ?_
  refine Ops.len rfl rfl ?_
  refine Ops.fld (hS3.rd 1 rfl) rfl rfl rfl rfl inferInstance ?_
  refine Ops.ldf_s (hS3.rd 1 rfl) rfl rfl rfl rfl rfl ?_
  refine Ops.len rfl rfl ?_
  refine Ops.mul rfl rfl rfl (by omega) ?_
  rw [hnm]
  refine Ops.gtr rfl rfl rfl ?_
  refine Ops.nil ?_
  refine thenQ_n ?_
  refine Cd.cond_p _ rfl (fun h3 => ?_) (fun h3 => ?_)
  · have hbig : JnBig F G := ⟨hF0, hG0, by rw [hFl, hGl]; omega⟩
    unfold jnV jnLs jnK
    rw [if_pos hbig, if_pos hbig, if_pos hbig]
    refine Cd.seq ?_
    refine Cd.region ?_
    refine Ops.bldZ2 (by exact inferInstance) (by exact inferInstance) rfl rfl rfl ?_
    refine Ops.st_agg 2 0 hS3 rfl rfl rfl rfl rfl rfl rfl ?_
    intro w9 hS9
    refine Ops.mv_int rfl rfl rfl ?_
    refine Ops.nil ?_
    refine thenQ_n ?_
    refine Cd.ret ?_
    refine thenQ_r ?_
    skip
    refine retc2_r rfl (hS9.rd 0 rfl) rfl ?_
    exact AnsC.none hS9
  have hbig : ¬ JnBig F G := fun h => h3 (by have := h.2.2; rw [hFl, hGl] at this; omega)
  obtain ⟨hL1, hL2, hL3⟩ := hF.jn hG hbig
  have hjs : jnS V F G = jnL V F G := by unfold jnS; rw [if_neg (by simp [hF0, hG0])]
  rw [hjs] at hL1 hL2 hL3
  unfold jnV jnLs jnK
  rw [if_neg hbig, if_neg hbig, if_neg hbig, hjs]
  have hFG : F.length * G.length ≤ 400 := jn_small hF0 hG0 hbig
  refine Cd.skip ?_
  refine thenQ_n ?_
  refine Cd.seq ?_
  refine Cd.region ?_
  refine Ops.bs0 hS3 rfl ?_
  intro A6 w4 hS4
  have hS5 : St w w4 ([cxZ A4, cxB A3 W B m d, cxB A2 V A n c, CkR 25 A6 (jnG V F G 0 0).length 0 []] ++ rowsCk 2 [] (jnG V F G 0 0)) := by
    rw [jnG_zero]
    exact hS4.perm (List.perm_append_comm (l₁ := [_]) (l₂ := [_, _, _]))
  have hlen00 : (jnG V F G 0 0).length = 0 := by rw [jnG_zero]; rfl
  refine Ops.mv_sl rfl rfl rfl ?_
  refine Ops.nil ?_
  refine thenQ_n ?_
  refine Cd.seq ?_
  refine Cd.seq ?_
  refine Cd.region ?_
  refine Ops.mv_int rfl rfl rfl ?_
  refine Ops.nil ?_
  refine thenQ_n ?_
  refine Cd.block ?_
  refine Cd.loop (α := Nat × (Option Addr × Nat) × List SlV) (fun z => [(2, .pointer A2), (3, .pointer A3), (4, .pointer A4), (6, .slice z.2.1.1 (jnG V F G z.1 0).length z.2.1.2), (7, .int .i64 (z.1 : Int))])
    (fun z w' => z.1 ≤ n ∧ z.2.2.length = (jnG V F G z.1 0).length ∧ St w w' ([cxZ A4, cxB A3 W B m d, cxB A2 V A n c, CkR 25 z.2.1.1 (jnG V F G z.1 0).length z.2.1.2 z.2.2] ++ rowsCk 2 z.2.2 (jnG V F G z.1 0))) (fun z => n - z.1) (0, (A6, 0), []) ⟨rfl, rfl, rfl, by show Value.slice A6 0 0 = .slice A6 (jnG V F G 0 0).length 0; rw [hlen00], rfl, trivial⟩ ⟨Nat.zero_le _, by show 0 = _; rw [hlen00], hS5⟩ ?_
  clear hS5 hS4 hS3
  rintro ⟨i, ⟨A6, c6⟩, rs6⟩ e w4 ⟨hi, hrl6, hS4⟩
  dsimp only at hi hrl6 hS4 ⊢
  refine Cd.seq ?_
  refine Cd.seq ?_
  refine Cd.region ?_
  refine Ops.mv_int rfl rfl rfl ?_
  refine Ops.fld (hS4.rd 2 rfl) rfl rfl rfl rfl inferInstance ?_
  refine Ops.ldf_s (hS4.rd 2 rfl) rfl rfl rfl rfl rfl ?_
  refine Ops.len rfl rfl ?_
  refine Ops.lss rfl rfl rfl ?_
  refine Ops.nil ?_
  refine thenQ_n ?_
  refine Cd.cond_p _ rfl (fun h4 => ?_) (fun h4 => ?_)
  · have hiF : i < F.length := by omega
    have hrowA := hR.at_ (i := (i : Int)) (by omega) (by omega)
    have hrlA := hrowA.1
    have hfA := (hF.at_ hiF).1
    refine Cd.skip ?_
    refine thenQ_n ?_
    refine Cd.seq ?_
    refine Cd.block ?_
    refine Cd.seq ?_
    refine Cd.region ?_
    refine Ops.mv_int rfl rfl rfl ?_
    refine Ops.nil ?_
    refine thenQ_n ?_
    refine Cd.block ?_
    refine Cd.loop (α := Nat × (Option Addr × Nat) × List SlV) (fun z => [(2, .pointer A2), (3, .pointer A3), (4, .pointer A4), (6, .slice z.2.1.1 (jnG V F G i z.1).length z.2.1.2), (7, .int .i64 (i : Int)), (8, .int .i64 (z.1 : Int))])
      (fun z w' => z.1 ≤ m ∧ z.2.2.length = (jnG V F G i z.1).length ∧ St w w' ([cxZ A4, cxB A3 W B m d, cxB A2 V A n c, CkR 25 z.2.1.1 (jnG V F G i z.1).length z.2.1.2 z.2.2] ++ rowsCk 2 z.2.2 (jnG V F G i z.1))) (fun z => m - z.1) (0, (A6, c6), rs6) ⟨rfl, rfl, rfl, rfl, rfl, rfl, trivial⟩ ⟨Nat.zero_le _, hrl6, hS4⟩ ?_
    clear hS4 hrl6
    rintro ⟨k, ⟨A6, c6⟩, rs6⟩ e w4 ⟨hk, hrl6, hS4⟩
    dsimp only at hk hrl6 hS4 ⊢
    have hll := jnG_len (V := V) hiF (show k ≤ G.length by omega)
    refine Cd.seq ?_
    refine Cd.seq ?_
    refine Cd.region ?_
    refine Ops.mv_int rfl rfl rfl ?_
    refine Ops.fld (hS4.rd 1 rfl) rfl rfl rfl rfl inferInstance ?_
    refine Ops.ldf_s (hS4.rd 1 rfl) rfl rfl rfl rfl rfl ?_
    refine Ops.len rfl rfl ?_
    refine Ops.lss rfl rfl rfl ?_
    refine Ops.nil ?_
    refine thenQ_n ?_
    refine Cd.cond_p _ rfl (fun h5 => ?_) (fun h5 => ?_)
    · have hkG : k < G.length := by omega
      have hM := hS4.oldRows hR
      have hrowB := hQ.at_ (i := (k : Int)) (by omega) (by omega)
      have hrlB := hrowB.1
      have hfB := hG.at_ hkG
      have hGv := hG.v
      refine Cd.skip ?_
      refine thenQ_n ?_
      refine Cd.seq ?_
      refine Cd.block ?_
      refine Cd.seq ?_
      refine Cd.region ?_
      refine Ops.fld (hS4.rd 2 rfl) rfl rfl rfl rfl inferInstance ?_
      refine Ops.ldf_s (hS4.rd 2 rfl) rfl rfl rfl rfl rfl ?_
      refine Ops.mv_int rfl rfl rfl ?_
      refine Ops.idx hM.top.2 rfl rfl rfl (by omega) (by omega) ?_
      refine Ops.ld_sl hM.top rfl (by omega) rfl rfl ?_
      refine Ops.call (l01Own_c _ _ _ (gl F (i : Int)) _ (hS4.oldI hrowA) (by omega)) rfl rfl rfl ?_
      rintro _ w5 ⟨A11, c11, rfl, hT5⟩
      have hS5 : St w w5 (CkI 2 A11 ((rg rs (i : Int)).n + 0) c11 (gl F (i : Int) ++ ((gl G (k : Int)).take 0).map (V + ·)) :: ([cxZ A4, cxB A3 W B m d, cxB A2 V A n c, CkR 25 A6 (jnG V F G i k).length c6 rs6] ++ rowsCk 2 rs6 (jnG V F G i k))) := by
        rw [List.take_zero, List.map_nil, List.append_nil]
        exact hS4.call hT5
      refine Ops.mv_sl rfl rfl rfl ?_
      refine Ops.nil ?_
      refine thenQ_n ?_
      refine Cd.seq ?_
      refine Cd.seq ?_
      refine Cd.region ?_
      refine Ops.mv_int rfl rfl rfl ?_
      refine Ops.nil ?_
      refine thenQ_n ?_
      refine Cd.block ?_
      refine Cd.loop (α := Nat × Option Addr × Nat) (fun z => [(2, .pointer A2), (3, .pointer A3), (4, .pointer A4), (6, .slice A6 (jnG V F G i k).length c6), (7, .int .i64 (i : Int)), (8, .int .i64 (k : Int)), (9, .slice z.2.1 ((rg rs (i : Int)).n + z.1) z.2.2), (10, .int .i64 (z.1 : Int))])
        (fun z w' => z.1 ≤ (rg ts (k : Int)).n ∧ St w w' (CkI 2 z.2.1 ((rg rs (i : Int)).n + z.1) z.2.2 (gl F (i : Int) ++ ((gl G (k : Int)).take z.1).map (V + ·)) :: ([cxZ A4, cxB A3 W B m d, cxB A2 V A n c, CkR 25 A6 (jnG V F G i k).length c6 rs6] ++ rowsCk 2 rs6 (jnG V F G i k)))) (fun z => (rg ts (k : Int)).n - z.1) (0, A11, c11) ⟨rfl, rfl, rfl, rfl, rfl, rfl, rfl, rfl, trivial⟩ ⟨Nat.zero_le _, hS5⟩ ?_
      clear hS5 hT5 hS4 hM
      rintro ⟨j, A11, c11⟩ e w6 ⟨hj, hS6⟩
      dsimp only at hj hS6 ⊢
      have hM := hS6.oldRows hQ
      refine Cd.seq ?_
      refine Cd.seq ?_
      refine Cd.region ?_
      refine Ops.mv_int rfl rfl rfl ?_
      refine Ops.fld (hS6.rd 2 rfl) rfl rfl rfl rfl inferInstance ?_
      refine Ops.ldf_s (hS6.rd 2 rfl) rfl rfl rfl rfl rfl ?_
      refine Ops.mv_int rfl rfl rfl ?_
      refine Ops.idx hM.top.2 rfl rfl rfl (by omega) (by omega) ?_
      refine Ops.ld_sl hM.top rfl (by omega) rfl rfl ?_
      refine Ops.len rfl rfl ?_
      refine Ops.lss rfl rfl rfl ?_
      refine Ops.nil ?_
      refine thenQ_n ?_
      refine Cd.cond_p _ rfl (fun h6 => ?_) (fun h6 => ?_)
      · have hB6 := hS6.oldI hrowB
        have hgv := hfB.2.2 (gi (gl G (k : Int)) (j : Int)) (by rw [gi_mem (show j < (gl G (k : Int)).length by omega)]; exact List.getElem_mem _)
        refine Cd.skip ?_
        refine thenQ_n ?_
        refine Cd.seq ?_
        refine Cd.block ?_
        refine Cd.drawN [13] [.ex (.slice (A11) ((rg rs (i : Int)).n + j) (c11)), .ex (.pointer (ptrAt (A2) 0)), .ex (.int .i64 (V)), .ex (.pointer (ptrAt (A3) 1)), .ex (.slice (B) (m) (d)), .ex (.int .i64 ((k : Int))), .ex (.pointer (ptrAt (B) ((k : Int)).toNat)), .ex (.slice ((rg (ts) ((k : Int))).a) ((rg (ts) ((k : Int))).n) ((rg (ts) ((k : Int))).c)), .ex (.int .i64 ((j : Int))), .ex (.pointer (ptrAt ((rg (ts) ((k : Int))).a) ((j : Int)).toNat)), .ex (.int .i64 (gi (gl G (k : Int)) ((j : Int)))), .ex (.int .i64 ((V) + (gi (gl G (k : Int)) ((j : Int))))), .pr (fun v w' => ∃ A12, v = .slice A12 1 1 ∧ RdI w' A12 1 [V + gi (gl G (k : Int)) (j : Int)]), .pr (fun v w' => ∃ A13 c13, v = .slice A13 ((rg rs (i : Int)).n + j + 1) c13 ∧ St w w' (CkI 2 A13 ((rg rs (i : Int)).n + j + 1) c13 ((gl F (i : Int) ++ ((gl G (k : Int)).take j).map (V + ·)) ++ [V + gi (gl G (k : Int)) (j : Int)]) :: ([cxZ A4, cxB A3 W B m d, cxB A2 V A n c, CkR 25 A6 (jnG V F G i k).length c6 rs6] ++ rowsCk 2 rs6 (jnG V F G i k)))), .pr (fun v w' => ∃ A13 c13, v = .slice A13 ((rg rs (i : Int)).n + j + 1) c13 ∧ St w w' (CkI 2 A13 ((rg rs (i : Int)).n + j + 1) c13 ((gl F (i : Int) ++ ((gl G (k : Int)).take j).map (V + ·)) ++ [V + gi (gl G (k : Int)) (j : Int)]) :: ([cxZ A4, cxB A3 W B m d, cxB A2 V A n c, CkR 25 A6 (jnG V F G i k).length c6 rs6] ++ rowsCk 2 rs6 (jnG V F G i k))))] (by kernel_rfl) (by kernel_rfl) (List.forall_mem_cons.2 ⟨Yd.lasts_ex _, (List.forall_mem_cons.2 ⟨Yd.lasts_ex _, (List.forall_mem_cons.2 ⟨Yd.lasts_ex _, (List.forall_mem_cons.2 ⟨Yd.lasts_ex _, (List.forall_mem_cons.2 ⟨Yd.lasts_ex _, (List.forall_mem_cons.2 ⟨Yd.lasts_ex _, (List.forall_mem_cons.2 ⟨Yd.lasts_ex _, (List.forall_mem_cons.2 ⟨Yd.lasts_ex _, (List.forall_mem_cons.2 ⟨Yd.lasts_ex _, (List.forall_mem_cons.2 ⟨Yd.lasts_ex _, (List.forall_mem_cons.2 ⟨Yd.lasts_ex _, (List.forall_mem_cons.2 ⟨Yd.lasts_ex _, (List.forall_mem_cons.2 ⟨Yd.lasts_pr (fun v w w' h hb => by obtain ⟨A9, hv, hT⟩ := h; exact ⟨A9, hv, hT.later hb⟩), (List.forall_mem_cons.2 ⟨Yd.lasts_pr (fun v w w' h hb => by obtain ⟨A5, c5, hv, hT⟩ := h; exact ⟨A5, c5, hv, hT.later hb⟩), (List.forall_mem_cons.2 ⟨Yd.lasts_pr (fun v w w' h hb => by obtain ⟨A5, c5, hv, hT⟩ := h; exact ⟨A5, c5, hv, hT.later hb⟩), (fun _ h => by cases h)⟩)⟩)⟩)⟩)⟩)⟩)⟩)⟩)⟩)⟩)⟩)⟩)⟩)⟩)⟩) ⟨?_, ?_, ?_, ?_, ?_, ?_, ?_, ?_, ?_, ?_, ?_, ?_, ?_, ?_, ?_, trivial⟩ ?_
        · intro e1 w1 cc hlo hhi hb0 hp hun hq
          show Ops _ _ _ _ _ _ _
          refine Ops.mv_sl rfl (by exact hun 14 _ rfl (by kernel_rfl)) rfl ?_
          refine Ops.nil ?_
          exact AfterN.dn rfl (Below.refl _ _) (by exact rfl)
        · intro e1 w1 cc hlo hhi hb0 hp hun hq
          show Ops _ _ _ _ _ _ _
          replace hlo := le_of_lo hlo (b := 0) (by kernel_rfl)
          replace hhi := le_of_hi hhi (b := 0) (by kernel_rfl)
          obtain rfl : cc = 0 := by omega
          have hb := hb0 rfl
          refine Ops.fld ((hS6.rd 3 rfl).below hb) rfl rfl rfl rfl inferInstance ?_
          refine Ops.nil ?_
          exact AfterN.dn rfl (Below.refl _ _) (by exact rfl)
        · intro e1 w1 cc hlo hhi hb0 hp hun hq
          show Ops _ _ _ _ _ _ _
          replace hlo := le_of_lo hlo (b := 0) (by kernel_rfl)
          replace hhi := le_of_hi hhi (b := 0) (by kernel_rfl)
          obtain rfl : cc = 0 := by omega
          have hb := hb0 rfl
          refine Ops.ldf_i ((hS6.rd 3 rfl).below hb) rfl rfl rfl rfl rfl ?_
          refine Ops.nil ?_
          exact AfterN.dn rfl (Below.refl _ _) (by exact rfl)
        · intro e1 w1 cc hlo hhi hb0 hp hun hq
          show Ops _ _ _ _ _ _ _
          replace hlo := le_of_lo hlo (b := 0) (by kernel_rfl)
          replace hhi := le_of_hi hhi (b := 0) (by kernel_rfl)
          obtain rfl : cc = 0 := by omega
          have hb := hb0 rfl
          refine Ops.fld ((hS6.rd 2 rfl).below hb) rfl rfl rfl rfl inferInstance ?_
          refine Ops.nil ?_
          exact AfterN.dn rfl (Below.refl _ _) (by exact rfl)
        · intro e1 w1 cc hlo hhi hb0 hp hun hq
          show Ops _ _ _ _ _ _ _
          replace hlo := le_of_lo hlo (b := 0) (by kernel_rfl)
          replace hhi := le_of_hi hhi (b := 0) (by kernel_rfl)
          obtain rfl : cc = 0 := by omega
          have hb := hb0 rfl
          refine Ops.ldf_s ((hS6.rd 2 rfl).below hb) rfl rfl rfl rfl rfl ?_
          refine Ops.nil ?_
          exact AfterN.dn rfl (Below.refl _ _) (by exact rfl)
        · intro e1 w1 cc hlo hhi hb0 hp hun hq
          show Ops _ _ _ _ _ _ _
          refine Ops.mv_int rfl rfl rfl ?_
          refine Ops.nil ?_
          exact AfterN.dn rfl (Below.refl _ _) (by exact rfl)
        · intro e1 w1 cc hlo hhi hb0 hp hun hq
          show Ops _ _ _ _ _ _ _
          replace hlo := le_of_lo hlo (b := 0) (by kernel_rfl)
          replace hhi := le_of_hi hhi (b := 0) (by kernel_rfl)
          obtain rfl : cc = 0 := by omega
          have hb := hb0 rfl
          refine Ops.idx (hM.top.later hb).2 rfl rfl rfl (by omega) (by omega) ?_
          refine Ops.nil ?_
          exact AfterN.dn rfl (Below.refl _ _) (by exact rfl)
        · intro e1 w1 cc hlo hhi hb0 hp hun hq
          show Ops _ _ _ _ _ _ _
          replace hlo := le_of_lo hlo (b := 0) (by kernel_rfl)
          replace hhi := le_of_hi hhi (b := 0) (by kernel_rfl)
          obtain rfl : cc = 0 := by omega
          have hb := hb0 rfl
          refine Ops.ld_sl (hM.top.later hb) rfl (by omega) rfl rfl ?_
          refine Ops.nil ?_
          exact AfterN.dn rfl (Below.refl _ _) (by exact rfl)
        · intro e1 w1 cc hlo hhi hb0 hp hun hq
          show Ops _ _ _ _ _ _ _
          refine Ops.mv_int rfl rfl rfl ?_
          refine Ops.nil ?_
          exact AfterN.dn rfl (Below.refl _ _) (by exact rfl)
        · intro e1 w1 cc hlo hhi hb0 hp hun hq
          show Ops _ _ _ _ _ _ _
          replace hlo := le_of_lo hlo (b := 0) (by kernel_rfl)
          replace hhi := le_of_hi hhi (b := 0) (by kernel_rfl)
          obtain rfl : cc = 0 := by omega
          have hb := hb0 rfl
          refine Ops.idx (hB6.later hb).2 rfl rfl rfl (by omega) (by omega) ?_
          refine Ops.nil ?_
          exact AfterN.dn rfl (Below.refl _ _) (by exact rfl)
        · intro e1 w1 cc hlo hhi hb0 hp hun hq
          show Ops _ _ _ _ _ _ _
          replace hlo := le_of_lo hlo (b := 0) (by kernel_rfl)
          replace hhi := le_of_hi hhi (b := 0) (by kernel_rfl)
          obtain rfl : cc = 0 := by omega
          have hb := hb0 rfl
          refine Ops.ld_int (hB6.later hb) rfl (by omega) rfl rfl ?_
          refine Ops.nil ?_
          exact AfterN.dn rfl (Below.refl _ _) (by exact rfl)
        · intro e1 w1 cc hlo hhi hb0 hp hun hq
          show Ops _ _ _ _ _ _ _
          refine Ops.add rfl rfl rfl (by omega) ?_
          refine Ops.nil ?_
          exact AfterN.dn rfl (Below.refl _ _) (by exact rfl)
        · intro e1 w1 cc hlo hhi hb0 hp hun hq
          show Ops _ _ _ _ _ _ _
          refine Ops.bs1I (St.refl _) rfl rfl rfl ?_
          intro A12 w9 hst
          refine Ops.nil ?_
          exact AfterN.dn rfl hst.below ⟨A12, rfl, hst.rdI 0 rfl⟩
        · intro e1 w1 cc hlo hhi hb0 hp hun hq
          show Ops _ _ _ _ _ _ _
          replace hlo := le_of_lo hlo (b := 0) (by kernel_rfl)
          replace hhi := le_of_hi hhi (b := 0) (by kernel_rfl)
          obtain rfl : cc = 0 := by omega
          have hb := hb0 rfl
          obtain ⟨A12, h83, hT2⟩ := (hp 12 _ _ (by kernel_rfl) rfl rfl (by kernel_rfl))
          refine Ops.appI 0 (hS6.later hb) rfl hT2 rfl (by exact h83) rfl (by omega) (by omega) rfl ?_
          intro A13 c13 w10 hT10
          refine Ops.nil ?_
          exact AfterT.dn rfl ⟨A13, c13, rfl, hT10⟩
        · intro e1 w1 cc hlo hhi hb0 hp hun hq
          show Ops _ _ _ _ _ _ _
          replace hlo := le_of_lo hlo (b := 1) (by kernel_rfl)
          replace hhi := le_of_hi hhi (b := 1) (by kernel_rfl)
          obtain rfl : cc = 1 := by omega
          have hph := hp 13 _ _ (by kernel_rfl) rfl rfl (by kernel_rfl)
          obtain ⟨A13, c13, h84, hT⟩ := (hp 13 _ _ (by kernel_rfl) rfl rfl (by kernel_rfl))
          refine Ops.mv_sl rfl (by exact h84) rfl ?_
          refine Ops.nil ?_
          exact AfterN.dn rfl (Below.refl _ _) ⟨A13, c13, rfl, hT⟩
        intro u w8 _ hu
        obtain ⟨A13, c13, hv, hS8⟩ := hu 14 _ rfl (by kernel_rfl)
        have htk : ((gl G (k : Int)).take (j + 1)).map (V + ·) = ((gl G (k : Int)).take j).map (V + ·) ++ [V + gi (gl G (k : Int)) (j : Int)] := by rw [take_succ_gi (by omega), List.map_append]; rfl
        refine blockQ_n ?_
        refine thenQ_n ?_
        refine Cd.region ?_
        refine Ops.mv_int rfl rfl rfl ?_
        refine Ops.add rfl rfl rfl (by omega) ?_
        refine Ops.mv_int rfl rfl rfl ?_
        refine Ops.nil ?_
        refine thenQ_n ?_
        refine ⟨(j + 1, A13, c13), by show (rg ts (k : Int)).n - (j + 1) < (rg ts (k : Int)).n - j; omega, ⟨rfl, rfl, rfl, rfl, rfl, rfl, hv, rfl, trivial⟩, by show j + 1 ≤ _; omega, ?_⟩
        show St w w8 (CkI 2 A13 ((rg rs (i : Int)).n + (j + 1)) c13 (gl F (i : Int) ++ ((gl G (k : Int)).take (j + 1)).map (V + ·)) :: _)
        rw [htk, ← List.append_assoc, ← Nat.add_assoc]
        exact hS8
      · rw [List.take_of_length_le (by omega)] at hS6
        have hjn : j = (gl G (k : Int)).length := by omega
        have hl : (rg rs (i : Int)).n + j = (gl F (i : Int) ++ (gl G (k : Int)).map (V + ·)).length := by rw [List.length_append, List.length_map]; omega
        rw [hl] at hS6 ⊢
        have hsucc := jnG_succ (V := V) (F := F) (i := i) hkG
        have hl1 : (jnG V F G i (k + 1)).length = (jnG V F G i k).length + 1 := by rw [hsucc, List.length_append]; rfl
        generalize hrow : gl F (i : Int) ++ (gl G (k : Int)).map (V + ·) = row at *
        refine Cd.exit ?_
        refine thenQ_x ?_
        refine thenQ_x ?_
        refine blockQ_x ?_
        refine thenQ_n ?_
        refine Cd.region ?_
        refine Ops.mv_sl rfl rfl rfl ?_
        refine Ops.mv_sl rfl rfl rfl ?_
        refine Ops.bs1R hS6 rfl rfl rfl ?_
        intro A14 w7 hS7
        refine Ops.appR 5 hS7 rfl (hS7.rdR 0 rfl) rfl rfl rfl (by omega) (by omega) rfl ?_
        intro A15 c15 w8 hS8
        have hS8 : St w w8 (CkI 2 A11 row.length c11 row :: ([cxZ A4, cxB A3 W B m d, cxB A2 V A n c, CkR 25 A15 ((jnG V F G i k).length + 1) c15 (rs6 ++ [⟨A11, row.length, c11⟩])] ++ rowsCk 2 rs6 (jnG V F G i k))) := hS8.tail
        refine Ops.mv_sl rfl rfl rfl ?_
        refine Ops.nil ?_
        refine blockQ_n ?_
        refine thenQ_n ?_
        refine Cd.region ?_
        refine Ops.mv_int rfl rfl rfl ?_
        refine Ops.add rfl rfl rfl (by omega) ?_
        refine Ops.mv_int rfl rfl rfl ?_
        refine Ops.nil ?_
        refine thenQ_n ?_
        refine ⟨(k + 1, (A15, c15), rs6 ++ [⟨A11, row.length, c11⟩]), by show m - (k + 1) < m - k; omega, ⟨rfl, rfl, rfl, by show Value.slice A15 ((jnG V F G i k).length + 1) c15 = .slice A15 (jnG V F G i (k + 1)).length c15; rw [hl1], rfl, rfl, trivial⟩, by show k + 1 ≤ m; omega, by show (rs6 ++ [_]).length = _; rw [hl1, List.length_append, hrl6]; rfl, ?_⟩
        show St w w8 ([cxZ A4, cxB A3 W B m d, cxB A2 V A n c, CkR 25 A15 (jnG V F G i (k + 1)).length c15 (rs6 ++ [⟨A11, row.length, c11⟩])] ++ rowsCk 2 (rs6 ++ [⟨A11, row.length, c11⟩]) (jnG V F G i (k + 1)))
        rw [hl1, hsucc, rowsCk_append hrl6, ← List.append_assoc]
        exact hS8.perm (List.perm_append_comm (l₁ := [CkI 2 A11 row.length c11 row]))
    · have hkm : k = G.length := by omega
      rw [hkm, jnG_all hiF] at hrl6 hS4 ⊢
      refine Cd.exit ?_
      refine thenQ_x ?_
      refine thenQ_x ?_
      refine blockQ_x ?_
      refine blockQ_n ?_
      refine thenQ_n ?_
      refine Cd.region ?_
      refine Ops.mv_int rfl rfl rfl ?_
      refine Ops.add rfl rfl rfl (by omega) ?_
      refine Ops.mv_int rfl rfl rfl ?_
      refine Ops.nil ?_
      refine thenQ_n ?_
      exact ⟨(i + 1, (A6, c6), rs6), by show n - (i + 1) < n - i; omega, ⟨rfl, rfl, rfl, rfl, rfl, trivial⟩, by show i + 1 ≤ n; omega, hrl6, hS4⟩
  · have hin : i = F.length := by omega
    rw [hin, jnG_end] at hrl6 hS4 ⊢
    have hM : St w w4 (mat 25 2 A6 (jnL V F G).length c6 rs6 (jnL V F G)) := hS4.tail.tail.tail
    refine Cd.exit ?_
    refine thenQ_x ?_
    refine thenQ_x ?_
    refine blockQ_x ?_
    refine thenQ_n ?_
    refine Cd.seq ?_
    refine Cd.region ?_
    refine Ops.mv_sl rfl rfl rfl ?_
    refine Ops.call (l17Make_c A6 _ c6 rs6 (jnL V F G) _ (St.rowsI (ks := []) (by rwa [List.append_nil]) rfl) (by omega) (by omega) (fun l hl => (hL2 l hl).1)) rfl rfl rfl ?_
    rintro _ w6 ⟨A9, c9, rs9, rfl, hrl9, hst6⟩
    have hS6 := (hS4.sub (List.Sublist.cons_cons _ (List.nil_sublist _))).call2 hst6
    refine Ops.extract rfl rfl rfl ?_
    refine Ops.extract rfl rfl rfl ?_
    refine Ops.st_agg 2 0 hS6 rfl rfl rfl rfl rfl rfl rfl ?_
    intro w7 hS7
    refine Ops.mv_int rfl rfl rfl ?_
    refine Ops.nil ?_
    refine thenQ_n ?_
    refine Cd.ret ?_
    skip
    refine retc2_r rfl (hS7.rd 0 rfl) rfl ?_
    exact ⟨A9, c9, rs9, rfl, hrl9, hS7.tail⟩
end Go.Proofs.YtdedegbendjmbaaGreatDoor.Vc
/-
  A complex drawn, walked. Conditions: as each states them.
-/
namespace Go.Proofs.YtdedegbendjmbaaGreatDoor.Vc
open Go.RowKit

theorem co_cplx (ls : List (List Int)) : Cplx (coV ls) (coL ls) := by
  have h0 : Cplx 0 [] := by decide
  unfold coV coL
  by_cases h : NegL ls
  · rw [if_pos h, if_pos h]; exact h0
  · rw [if_neg h, if_neg h]
    by_cases hb : CxBad (ls.map cs)
    · unfold cxV cxL; rw [if_pos hb, if_pos hb]; exact h0
    · exact cx_cplx (fun l hl => by obtain ⟨l0, _, rfl⟩ := List.mem_map.1 hl; exact cs_SA l0) hb
theorem jn_cplx {V W : Int} {F G : List (List Int)} (hF : Cplx V F) (hG : Cplx W G) : Cplx (jnV V F G) (jnLs V F G) := by
  have h0 : Cplx 0 [] := by decide
  unfold jnV jnLs
  by_cases h : JnBig F G
  · rw [if_pos h, if_pos h]; exact h0
  · rw [if_neg h, if_neg h]
    by_cases hb : CxBad (jnS V F G)
    · unfold cxV cxL; rw [if_pos hb, if_pos hb]; exact h0
    · exact cx_cplx (jnS_sa hF hG) hb
theorem two_pts : Cplx 2 [[0], [1]] := by decide

/-- a list more -/
theorem St.matAdd {w0 w : World} {t1 t2 : TypeId} {a A : Option Addr} {m d n c : Nat} {x : List Int} {rs : List SlV} {L : List (List Int)} {X : List Ck} (h : St w0 w (CkI t2 a m d x :: (CkR t1 A n c (rs ++ [⟨a, m, d⟩]) :: (rowsCk t2 rs L ++ X)))) (hl : rs.length = L.length) : St w0 w (mat t1 t2 A n c (rs ++ [⟨a, m, d⟩]) (L ++ [x]) ++ X) := by
  refine h.perm ?_
  unfold mat
  rw [rowsCk_append hl]
  refine (List.Perm.swap _ _ _).trans (List.Perm.cons _ ?_)
  show (CkI t2 a m d x :: (rowsCk t2 rs L ++ X)).Perm ((rowsCk t2 rs L ++ [CkI t2 a m d x]) ++ X)
  rw [List.append_assoc]
  exact List.perm_middle.symm

/-- a drawn complex, in memory of its own -/
def AnsDr (w0 : World) (ks : List Ck) (ix : Nat) (As : Option Addr) (v : Value) (w' : World) : Prop :=
  ∃ (V : Int) (F : List (List Int)) (A : Option Addr) (c : Nat) (rs : List SlV) (k' : Ck), v = .agg #[.int .i64 V, .slice A F.length c] ∧ Cplx V F ∧ rs.length = F.length ∧ srcK w0 As k' ∧ St w0 w' (mat 25 2 A F.length c rs F ++ ks.set ix k')

set_option maxHeartbeats 1000000 in
theorem l17Draw_c {w0 w : World} {ks : List Ck} (ix : Nat) {As : Option Addr} {k : Ck} (hS : St w0 w ks) (hk : ks[ix]? = some k) (hK : srcK w0 As k) :
    Ret Tryz.prog 138 [.pointer As] w (AnsDr w0 ks ix As) := by
  refine Ret.of_cd Tryz.func138 rfl Tryz.ntmps138 rfl (postc rfl rfl) ?_
  refine Cd.seq ?_
  refine Cd.region ?_
  refine Ops.new2 hS rfl ?_
  intro A2 w1 hS1
  have hS1 : St w0 w1 (cxZ A2 :: ks) := hS1
  refine Ops.nil ?_
  refine thenQ_n ?_
  refine Cd.seq ?_
  refine Cd.region ?_
  refine Ops.bs0 hS1 rfl ?_
  intro A3 w2 hS2
  refine Ops.mv_sl rfl rfl rfl ?_
  refine Ops.nil ?_
  refine thenQ_n ?_
  refine Cd.join (α := Nat × (Option Addr × Nat) × List SlV × List (List Int) × Ck) (fun z => [(0, .pointer As), (2, .pointer A2), (3, .slice z.2.1.1 z.1 z.2.1.2)])
    (fun z w' => z.1 ≤ 20 ∧ z.2.2.1.length = z.1 ∧ z.2.2.2.1.length = z.1 ∧ (∀ l ∈ z.2.2.2.1, l.length ≤ 20) ∧ srcK w0 As z.2.2.2.2 ∧ St w0 w' (mat 25 2 z.2.1.1 z.1 z.2.1.2 z.2.2.1 z.2.2.2.1 ++ (cxZ A2 :: ks.set ix z.2.2.2.2))) ?_ ?_
  · refine Cd.seq ?_
    refine Cd.region ?_
    refine Ops.mv_ptr rfl rfl rfl ?_
    refine Ops.call (srcNextP_c [CkR 25 A3 0 0 [], cxZ A2] ix 6 hS2 hk hK) rfl rfl rfl ?_
    rintro _ w3 ⟨q, k1, rfl, hq, hK1, hS3⟩
    have hS3 : St w0 w3 (mat 25 2 A3 0 0 [] [] ++ (cxZ A2 :: ks.set ix k1)) := hS3
    have hk1 := setK_get (k' := k1) hk
    refine Ops.nil ?_
    refine thenQ_n ?_
    refine Cd.block ?_
    refine Cd.seq ?_
    refine Cd.region ?_
    refine Ops.eql rfl rfl rfl ?_
    refine Ops.mv_bool rfl rfl rfl ?_
    refine Ops.nil ?_
    refine thenQ_n ?_
    refine Cd.cond_p _ rfl (fun h1 => ?_) (fun h1 => ?_)
    · refine Cd.seq ?_
      refine Cd.region ?_
      refine Ops.mv_ptr rfl rfl rfl ?_
      refine Ops.call (srcNextP_c (mat 25 2 A3 0 0 [] [] ++ [cxZ A2]) ix 4 (by rw [List.append_assoc]; exact hS3) hk1 hK1) rfl rfl rfl ?_
      rintro _ w4 ⟨r, k2, rfl, hr, hK2, hS4⟩
      rw [List.set_set, List.append_assoc] at hS4
      have hk2 := setK_get (k' := k2) hk
      obtain ⟨N, hN⟩ : ∃ N : Nat, 2 + r = N := ⟨(2 + r).toNat, by omega⟩
      have hN5 : N ≤ 5 := by omega
      refine Ops.add rfl rfl rfl (by omega) ?_
      refine Ops.mv_int rfl rfl rfl ?_
      refine Ops.nil ?_
      refine thenQ_n ?_
      refine Cd.seq ?_
      refine Cd.region ?_
      refine Ops.mv_int rfl rfl rfl ?_
      refine Ops.nil ?_
      refine thenQ_n ?_
      refine Cd.block ?_
      rw [hN]
      refine Cd.loop (α := Nat × (Option Addr × Nat) × List SlV × List (List Int)) (fun z => [(0, .pointer As), (2, .pointer A2), (3, .slice z.2.1.1 z.1 z.2.1.2), (4, .int .i64 (N : Int)), (5, .int .i64 (z.1 : Int))])
        (fun z w' => z.1 ≤ N ∧ z.2.2.1.length = z.1 ∧ z.2.2.2.length = z.1 ∧ (∀ l ∈ z.2.2.2, l.length ≤ 20) ∧ St w0 w' (mat 25 2 z.2.1.1 z.1 z.2.1.2 z.2.2.1 z.2.2.2 ++ (cxZ A2 :: ks.set ix k2))) (fun z => N - z.1) (0, (A3, 0), [], []) ⟨rfl, rfl, rfl, rfl, rfl, trivial⟩ ⟨Nat.zero_le _, rfl, rfl, (fun _ h => by cases h), hS4⟩ ?_
      clear hS4 hS3
      rintro ⟨i, ⟨A3, c3⟩, rs, L⟩ e w5 ⟨hi, hrl, hll, hsm, hS5⟩
      dsimp only at hi hrl hll hsm hS5 ⊢
      refine Cd.seq ?_
      refine Cd.seq ?_
      refine Cd.region ?_
      refine Ops.mv_int rfl rfl rfl ?_
      refine Ops.mv_int rfl rfl rfl ?_
      refine Ops.lss rfl rfl rfl ?_
      refine Ops.nil ?_
      refine thenQ_n ?_
      refine Cd.cond_p _ rfl (fun h2 => ?_) (fun h2 => ?_)
      · refine Cd.skip ?_
        refine thenQ_n ?_
        refine Cd.seq ?_
        refine Cd.block ?_
        refine Cd.seq ?_
        refine Cd.region ?_
        refine Ops.bs0 hS5 rfl ?_
        intro A6 w6 hS6
        have hS6 : St w0 w6 (CkI 2 A6 0 0 [] :: (mat 25 2 A3 i c3 rs L ++ (cxZ A2 :: ks.set ix k2))) := hS6
        refine Ops.mv_sl rfl rfl rfl ?_
        refine Ops.nil ?_
        refine thenQ_n ?_
        refine Cd.seq ?_
        refine Cd.seq ?_
        refine Cd.region ?_
        refine Ops.mv_int rfl rfl rfl ?_
        refine Ops.nil ?_
        refine thenQ_n ?_
        refine Cd.block ?_
        refine Cd.loop (α := Nat × (Option Addr × Nat) × List Int) (fun z => [(0, .pointer As), (2, .pointer A2), (3, .slice A3 i c3), (4, .int .i64 (N : Int)), (5, .int .i64 (i : Int)), (6, .slice z.2.1.1 z.2.2.length z.2.1.2), (7, .int .i64 (z.1 : Int))])
          (fun z w' => z.1 ≤ N ∧ z.2.2.length ≤ z.1 ∧ St w0 w' (CkI 2 z.2.1.1 z.2.2.length z.2.1.2 z.2.2 :: (mat 25 2 A3 i c3 rs L ++ (cxZ A2 :: ks.set ix k2)))) (fun z => N - z.1) (0, (A6, 0), []) ⟨rfl, rfl, rfl, rfl, rfl, rfl, rfl, trivial⟩ ⟨Nat.zero_le _, Nat.le_refl _, hS6⟩ ?_
        clear hS6 hS5
        rintro ⟨j, ⟨A6, c6⟩, x⟩ e w7 ⟨hj, hx, hS7⟩
        dsimp only at hj hx hS7 ⊢
        refine Cd.seq ?_
        refine Cd.seq ?_
        refine Cd.region ?_
        refine Ops.mv_int rfl rfl rfl ?_
        refine Ops.mv_int rfl rfl rfl ?_
        refine Ops.lss rfl rfl rfl ?_
        refine Ops.nil ?_
        refine thenQ_n ?_
        refine Cd.cond_p _ rfl (fun h3 => ?_) (fun h3 => ?_)
        · refine Cd.skip ?_
          refine thenQ_n ?_
          refine Cd.seq ?_
          refine Cd.block ?_
          refine Cd.seq ?_
          refine Cd.region ?_
          refine Ops.mv_int rfl rfl rfl ?_
          refine Ops.mv_int rfl rfl rfl ?_
          refine Ops.neq rfl rfl rfl ?_
          refine Ops.nil ?_
          refine thenQ_n ?_
          refine Cd.cond_p _ rfl (fun h4 => ?_) (fun h4 => ?_)
          · refine Cd.region ?_
            refine Ops.mv_sl rfl rfl rfl ?_
            refine Ops.mv_int rfl rfl rfl ?_
            refine Ops.bs1I hS7 rfl rfl rfl ?_
            intro A9 w8 hS8
            refine Ops.appI 1 hS8 rfl (hS8.rdI 0 rfl) rfl rfl rfl (by omega) (by omega) rfl ?_
            intro A10 c10 w9 hS9
            have hS9 : St w0 w9 (CkI 2 A10 (x.length + 1) c10 (x ++ [(j : Int)]) :: (mat 25 2 A3 i c3 rs L ++ (cxZ A2 :: ks.set ix k2))) := hS9.tail
            have hxl : (x ++ [(j : Int)]).length = x.length + 1 := by simp
            refine Ops.mv_sl rfl rfl rfl ?_
            refine Ops.nil ?_
            refine blockQ_n ?_
            refine thenQ_n ?_
            refine Cd.region ?_
            refine Ops.mv_int rfl rfl rfl ?_
            refine Ops.add rfl rfl rfl (by omega) ?_
            refine Ops.mv_int rfl rfl rfl ?_
            refine Ops.nil ?_
            refine thenQ_n ?_
            exact ⟨(j + 1, (A10, c10), x ++ [(j : Int)]), by show N - (j + 1) < N - j; omega, ⟨rfl, rfl, rfl, rfl, rfl, by show Value.slice A10 (x.length + 1) c10 = .slice A10 (x ++ [(j : Int)]).length c10; rw [hxl], rfl, trivial⟩, by show j + 1 ≤ N; omega, by show (x ++ [(j : Int)]).length ≤ j + 1; omega, by rw [← hxl] at hS9; exact hS9⟩
          · refine Cd.skip ?_
            refine blockQ_n ?_
            refine thenQ_n ?_
            refine Cd.region ?_
            refine Ops.mv_int rfl rfl rfl ?_
            refine Ops.add rfl rfl rfl (by omega) ?_
            refine Ops.mv_int rfl rfl rfl ?_
            refine Ops.nil ?_
            refine thenQ_n ?_
            exact ⟨(j + 1, (A6, c6), x), by show N - (j + 1) < N - j; omega, ⟨rfl, rfl, rfl, rfl, rfl, rfl, rfl, trivial⟩, by show j + 1 ≤ N; omega, by show x.length ≤ j + 1; omega, hS7⟩
        · refine Cd.exit ?_
          refine thenQ_x ?_
          refine thenQ_x ?_
          refine blockQ_x ?_
          refine thenQ_n ?_
          refine Cd.region ?_
          refine Ops.mv_sl rfl rfl rfl ?_
          refine Ops.mv_sl rfl rfl rfl ?_
          refine Ops.bs1R hS7 rfl rfl rfl ?_
          intro A7 w6 hS6
          refine Ops.appR 2 hS6 rfl (hS6.rdR 0 rfl) rfl rfl rfl (by omega) (by omega) rfl ?_
          intro A8 c8 w7 hS7
          have hS7 := St.matAdd hS7.tail (by omega)
          refine Ops.mv_sl rfl rfl rfl ?_
          refine Ops.nil ?_
          refine blockQ_n ?_
          refine thenQ_n ?_
          refine Cd.region ?_
          refine Ops.mv_int rfl rfl rfl ?_
          refine Ops.add rfl rfl rfl (by omega) ?_
          refine Ops.mv_int rfl rfl rfl ?_
          refine Ops.nil ?_
          refine thenQ_n ?_
          refine ⟨(i + 1, (A8, c8), rs ++ [⟨A6, x.length, c6⟩], L ++ [x]), by show N - (i + 1) < N - i; omega, ⟨rfl, rfl, rfl, rfl, rfl, trivial⟩, by show i + 1 ≤ N; omega, by show (rs ++ [_]).length = i + 1; simp [hrl], by show (L ++ [x]).length = i + 1; simp [hll], fun l hl => ?_, hS7⟩
          rcases List.mem_append.1 hl with hl | hl
          · exact hsm l hl
          · obtain rfl : l = x := by simpa using hl
            omega
      · refine Cd.exit ?_
        refine thenQ_x ?_
        refine thenQ_x ?_
        refine blockQ_x ?_
        refine blockQ_n ?_
        refine thenQ_n ?_
        exact ⟨(i, (A3, c3), rs, L, k2), ⟨rfl, rfl, rfl, trivial⟩, by show i ≤ 20; omega, hrl, hll, hsm, hK2, hS5⟩
    · refine Cd.seq ?_
      refine Cd.region ?_
      refine Ops.eql rfl rfl rfl ?_
      refine Ops.mv_bool rfl rfl rfl ?_
      refine Ops.nil ?_
      refine thenQ_n ?_
      refine Cd.cond_p _ rfl (fun h2 => ?_) (fun h2 => ?_)
      · refine Cd.seq ?_
        refine Cd.region ?_
        refine Ops.mv_ptr rfl rfl rfl ?_
        refine Ops.call (srcNextP_c (mat 25 2 A3 0 0 [] [] ++ [cxZ A2]) ix 5 (by rw [List.append_assoc]; exact hS3) hk1 hK1) rfl rfl rfl ?_
        rintro _ w4 ⟨r, k2, rfl, hr, hK2, hS4⟩
        rw [List.set_set, List.append_assoc] at hS4
        obtain ⟨N, hN⟩ : ∃ N : Nat, 3 + r = N := ⟨(3 + r).toNat, by omega⟩
        have hN5 : 3 ≤ N ∧ N ≤ 7 := by omega
        refine Ops.add rfl rfl rfl (by omega) ?_
        refine Ops.mv_int rfl rfl rfl ?_
        refine Ops.nil ?_
        refine thenQ_n ?_
        refine Cd.seq ?_
        refine Cd.region ?_
        refine Ops.mv_int rfl rfl rfl ?_
        refine Ops.nil ?_
        refine thenQ_n ?_
        refine Cd.block ?_
        rw [hN]
        refine Cd.loop (α := Nat × (Option Addr × Nat) × List SlV × List (List Int)) (fun z => [(0, .pointer As), (2, .pointer A2), (3, .slice z.2.1.1 z.1 z.2.1.2), (8, .int .i64 (N : Int)), (9, .int .i64 (z.1 : Int))])
          (fun z w' => z.1 ≤ N ∧ z.2.2.1.length = z.1 ∧ z.2.2.2.length = z.1 ∧ (∀ l ∈ z.2.2.2, l.length ≤ 20) ∧ St w0 w' (mat 25 2 z.2.1.1 z.1 z.2.1.2 z.2.2.1 z.2.2.2 ++ (cxZ A2 :: ks.set ix k2))) (fun z => N - z.1) (0, (A3, 0), [], []) ⟨rfl, rfl, rfl, rfl, rfl, trivial⟩ ⟨Nat.zero_le _, rfl, rfl, (fun _ h => by cases h), hS4⟩ ?_
        clear hS4 hS3
        rintro ⟨i, ⟨A3, c3⟩, rs, L⟩ e w5 ⟨hi, hrl, hll, hsm, hS5⟩
        dsimp only at hi hrl hll hsm hS5 ⊢
        refine Cd.seq ?_
        refine Cd.seq ?_
        refine Cd.region ?_
        refine Ops.mv_int rfl rfl rfl ?_
        refine Ops.mv_int rfl rfl rfl ?_
        refine Ops.lss rfl rfl rfl ?_
        refine Ops.nil ?_
        refine thenQ_n ?_
        refine Cd.cond_p _ rfl (fun h3 => ?_) (fun h3 => ?_)
        · refine Cd.skip ?_
          refine thenQ_n ?_
          refine Cd.seq ?_
          refine Cd.block ?_
          refine Cd.region ?_
          refine Ops.mv_sl rfl rfl rfl ?_
          refine Ops.mv_int rfl rfl rfl ?_
          refine Ops.mv_int rfl rfl rfl ?_
          refine Ops.add rfl rfl rfl (by omega) ?_
          refine Ops.mv_int rfl rfl rfl ?_
          refine Ops.rem rfl rfl rfl (by omega) ?_
          refine Ops.bsL [(i : Int), ((i : Int) + 1) % N] hS5 rfl rfl (by decide) (by decide) rfl rfl ?_
          intro A6 w6 hS6
          refine Ops.bs1R hS6 rfl rfl rfl ?_
          intro A7 w6 hS6
          refine Ops.appR 2 hS6 rfl (hS6.rdR 0 rfl) rfl rfl rfl (by omega) (by omega) rfl ?_
          intro A8 c8 w7 hS7
          have hS7 := St.matAdd hS7.tail (by omega)
          refine Ops.mv_sl rfl rfl rfl ?_
          refine Ops.nil ?_
          refine blockQ_n ?_
          refine thenQ_n ?_
          refine Cd.region ?_
          refine Ops.mv_int rfl rfl rfl ?_
          refine Ops.add rfl rfl rfl (by omega) ?_
          refine Ops.mv_int rfl rfl rfl ?_
          refine Ops.nil ?_
          refine thenQ_n ?_
          refine ⟨(i + 1, (A8, c8), rs ++ [⟨A6, 2, 2⟩], L ++ [[(i : Int), ((i : Int) + 1) % N]]), by show N - (i + 1) < N - i; omega, ⟨rfl, rfl, rfl, rfl, rfl, trivial⟩, by show i + 1 ≤ N; omega, by show (rs ++ [_]).length = i + 1; simp [hrl], by show (L ++ [_]).length = i + 1; simp [hll], fun l hl => ?_, hS7⟩
          rcases List.mem_append.1 hl with hl | hl
          · exact hsm l hl
          · obtain rfl : l = [(i : Int), ((i : Int) + 1) % N] := by simpa using hl
            simp
        · refine Cd.exit ?_
          refine thenQ_x ?_
          refine thenQ_x ?_
          refine blockQ_x ?_
          refine blockQ_n ?_
          refine thenQ_n ?_
          exact ⟨(i, (A3, c3), rs, L, k2), ⟨rfl, rfl, rfl, trivial⟩, by show i ≤ 20; omega, hrl, hll, hsm, hK2, hS5⟩
      · refine Cd.seq ?_
        refine Cd.region ?_
        refine Ops.eql rfl rfl rfl ?_
        refine Ops.mv_bool rfl rfl rfl ?_
        refine Ops.nil ?_
        refine thenQ_n ?_
        refine Cd.cond_p _ rfl (fun h3 => ?_) (fun h3 => ?_)
        · refine Cd.region ?_
          refine Ops.bsL [0, 1, 2] (St.refl w3) rfl rfl (by decide) (by decide) rfl rfl ?_
          intro B0 v0 hT
          refine Ops.bsL [0, 2, 3] hT rfl rfl (by decide) (by decide) rfl rfl ?_
          intro B1 v1 hT
          refine Ops.bsL [0, 3, 4] hT rfl rfl (by decide) (by decide) rfl rfl ?_
          intro B2 v2 hT
          refine Ops.bsL [0, 4, 5] hT rfl rfl (by decide) (by decide) rfl rfl ?_
          intro B3 v3 hT
          refine Ops.bsL [0, 1, 5] hT rfl rfl (by decide) (by decide) rfl rfl ?_
          intro B4 v4 hT
          refine Ops.bsL [1, 2, 4] hT rfl rfl (by decide) (by decide) rfl rfl ?_
          intro B5 v5 hT
          refine Ops.bsL [2, 3, 5] hT rfl rfl (by decide) (by decide) rfl rfl ?_
          intro B6 v6 hT
          refine Ops.bsL [1, 3, 4] hT rfl rfl (by decide) (by decide) rfl rfl ?_
          intro B7 v7 hT
          refine Ops.bsL [2, 4, 5] hT rfl rfl (by decide) (by decide) rfl rfl ?_
          intro B8 v8 hT
          refine Ops.bsL [1, 3, 5] hT rfl rfl (by decide) (by decide) rfl rfl ?_
          intro B9 v9 hT
          refine Ops.bsLR [⟨B0, 3, 3⟩, ⟨B1, 3, 3⟩, ⟨B2, 3, 3⟩, ⟨B3, 3, 3⟩, ⟨B4, 3, 3⟩, ⟨B5, 3, 3⟩, ⟨B6, 3, 3⟩, ⟨B7, 3, 3⟩, ⟨B8, 3, 3⟩, ⟨B9, 3, 3⟩] hT rfl rfl (by decide) (by decide) rfl rfl ?_
          intro A6 w6 hT
          have hT2 : St w3 w6 (mat 25 2 A6 10 10 [⟨B0, 3, 3⟩, ⟨B1, 3, 3⟩, ⟨B2, 3, 3⟩, ⟨B3, 3, 3⟩, ⟨B4, 3, 3⟩, ⟨B5, 3, 3⟩, ⟨B6, 3, 3⟩, ⟨B7, 3, 3⟩, ⟨B8, 3, 3⟩, ⟨B9, 3, 3⟩] [[0, 1, 2], [0, 2, 3], [0, 3, 4], [0, 4, 5], [0, 1, 5], [1, 2, 4], [2, 3, 5], [1, 3, 4], [2, 4, 5], [1, 3, 5]]) := hT.perm (List.Perm.cons _ (List.reverse_perm (rowsCk 2 [⟨B0, 3, 3⟩, ⟨B1, 3, 3⟩, ⟨B2, 3, 3⟩, ⟨B3, 3, 3⟩, ⟨B4, 3, 3⟩, ⟨B5, 3, 3⟩, ⟨B6, 3, 3⟩, ⟨B7, 3, 3⟩, ⟨B8, 3, 3⟩, ⟨B9, 3, 3⟩] [[0, 1, 2], [0, 2, 3], [0, 3, 4], [0, 4, 5], [0, 1, 5], [1, 2, 4], [2, 3, 5], [1, 3, 4], [2, 4, 5], [1, 3, 5]])))
          have hS5 := (hS3.sub (List.sublist_cons_self _ _)).call hT2
          refine Ops.mv_sl rfl rfl rfl ?_
          refine Ops.nil ?_
          refine blockQ_n ?_
          refine thenQ_n ?_
          exact ⟨(10, (A6, 10), _, _, k1), ⟨rfl, rfl, rfl, trivial⟩, by show 10 ≤ 20; omega, rfl, rfl, (by show ∀ l ∈ ([[0, 1, 2], [0, 2, 3], [0, 3, 4], [0, 4, 5], [0, 1, 5], [1, 2, 4], [2, 3, 5], [1, 3, 4], [2, 4, 5], [1, 3, 5]] : List (List Int)), l.length ≤ 20; decide), hK1, hS5⟩
        · refine Cd.seq ?_
          refine Cd.region ?_
          refine Ops.mv_ptr rfl rfl rfl ?_
          refine Ops.call (srcNextP_c (mat 25 2 A3 0 0 [] [] ++ [cxZ A2]) ix 7 (by rw [List.append_assoc]; exact hS3) hk1 hK1) rfl rfl rfl ?_
          rintro _ w4 ⟨r, k2, rfl, hr, hK2, hS4⟩
          rw [List.set_set, List.append_assoc] at hS4
          refine Ops.mv_int rfl rfl rfl ?_
          refine Ops.nil ?_
          refine thenQ_n ?_
          refine Cd.block ?_
          refine Cd.loop (α := Int × (Nat × (Option Addr × Nat)) × List SlV × List (List Int) × Ck) (fun z => [(0, .pointer As), (2, .pointer A2), (3, .slice z.2.1.2.1 z.2.1.1 z.2.1.2.2), (10, .int .i64 z.1)])
            (fun z w' => (0 ≤ z.1 ∧ z.1 + z.2.1.1 ≤ 7) ∧ z.2.2.1.length = z.2.1.1 ∧ z.2.2.2.1.length = z.2.1.1 ∧ (∀ l ∈ z.2.2.2.1, l.length ≤ 20) ∧ srcK w0 As z.2.2.2.2 ∧ St w0 w' (mat 25 2 z.2.1.2.1 z.2.1.1 z.2.1.2.2 z.2.2.1 z.2.2.2.1 ++ (cxZ A2 :: ks.set ix z.2.2.2.2))) (fun z => z.1.toNat) (r, (0, (A3, 0)), [], [], k2) ⟨rfl, rfl, rfl, rfl, trivial⟩ ⟨by show 0 ≤ r ∧ r + ((0 : Nat) : Int) ≤ 7; omega, rfl, rfl, (fun _ h => by cases h), hK2, hS4⟩ ?_
          clear hS4 hS3 hK2 hr hk1 hK1
          rintro ⟨p, ⟨i, ⟨A3, c3⟩⟩, rs, L, k2⟩ e w5 ⟨hp, hrl, hll, hsm, hK2, hS5⟩
          dsimp only at hp hrl hll hsm hK2 hS5 ⊢
          have hk2 := setK_get (k' := k2) hk
          refine Cd.seq ?_
          refine Cd.seq ?_
          refine Cd.region ?_
          refine Ops.mv_int rfl rfl rfl ?_
          refine Ops.gtr rfl rfl rfl ?_
          refine Ops.nil ?_
          refine thenQ_n ?_
          refine Cd.cond_p _ rfl (fun h4 => ?_) (fun h4 => ?_)
          · refine Cd.skip ?_
            refine thenQ_n ?_
            refine Cd.seq ?_
            refine Cd.block ?_
            refine Cd.seq ?_
            refine Cd.region ?_
            refine Ops.bs0 hS5 rfl ?_
            intro A6 w6 hS6
            have hS6 : St w0 w6 ((CkI 2 A6 0 0 [] :: (mat 25 2 A3 i c3 rs L ++ [cxZ A2])) ++ ks.set ix k2) := by
              rw [List.cons_append, List.append_assoc]; exact hS6
            refine Ops.mv_sl rfl rfl rfl ?_
            refine Ops.nil ?_
            refine thenQ_n ?_
            refine Cd.seq ?_
            refine Cd.seq ?_
            refine Cd.region ?_
            refine Ops.mv_ptr rfl rfl rfl ?_
            refine Ops.call (srcNextP_c _ ix 4 hS6 hk2 hK2) rfl rfl rfl ?_
            rintro _ w7 ⟨r3, k3, rfl, hr3, hK3, hS7⟩
            rw [List.set_set] at hS7
            refine Ops.add rfl rfl rfl (by omega) ?_
            refine Ops.mv_int rfl rfl rfl ?_
            refine Ops.nil ?_
            refine thenQ_n ?_
            refine Cd.block ?_
            refine Cd.loop (α := Int × (Option Addr × Nat) × List Int × Ck) (fun z => [(0, .pointer As), (2, .pointer A2), (3, .slice A3 i c3), (10, .int .i64 p), (11, .slice z.2.1.1 z.2.2.1.length z.2.1.2), (12, .int .i64 z.1)])
              (fun z w' => (0 ≤ z.1 ∧ z.1 + z.2.2.1.length ≤ 4) ∧ srcK w0 As z.2.2.2 ∧ St w0 w' ((CkI 2 z.2.1.1 z.2.2.1.length z.2.1.2 z.2.2.1 :: (mat 25 2 A3 i c3 rs L ++ [cxZ A2])) ++ ks.set ix z.2.2.2)) (fun z => z.1.toNat) (1 + r3, (A6, 0), [], k3) ⟨rfl, rfl, rfl, rfl, rfl, rfl, trivial⟩ ⟨by show 0 ≤ 1 + r3 ∧ 1 + r3 + ((0 : Nat) : Int) ≤ 4; omega, hK3, hS7⟩ ?_
            clear hS7 hS6 hS5 hK3 hr3 hk2 hK2
            rintro ⟨s, ⟨A6, c6⟩, x, k3⟩ e w8 ⟨hs, hK3, hS8⟩
            dsimp only at hs hK3 hS8 ⊢
            have hk3 := setK_get (k' := k3) hk
            refine Cd.seq ?_
            refine Cd.seq ?_
            refine Cd.region ?_
            refine Ops.mv_int rfl rfl rfl ?_
            refine Ops.gtr rfl rfl rfl ?_
            refine Ops.nil ?_
            refine thenQ_n ?_
            refine Cd.cond_p _ rfl (fun h5 => ?_) (fun h5 => ?_)
            · refine Cd.skip ?_
              refine thenQ_n ?_
              refine Cd.seq ?_
              refine Cd.block ?_
              refine Cd.region ?_
              refine Ops.mv_sl rfl rfl rfl ?_
              refine Ops.mv_ptr rfl rfl rfl ?_
              refine Ops.call (srcNextP_c _ ix 7 hS8 hk3 hK3) rfl rfl rfl ?_
              rintro _ w9 ⟨r4, k4, rfl, hr4, hK4, hS9⟩
              rw [List.set_set] at hS9
              refine Ops.bs1I hS9 rfl rfl rfl ?_
              intro A9 w10 hS10
              refine Ops.appI 1 hS10 rfl (hS10.rdI 0 rfl) rfl rfl rfl (by omega) (by omega) rfl ?_
              intro A10 c10 w11 hS11
              have hS11 : St w0 w11 ((CkI 2 A10 (x.length + 1) c10 (x ++ [r4]) :: (mat 25 2 A3 i c3 rs L ++ [cxZ A2])) ++ ks.set ix k4) := hS11.tail
              have hxl : (x ++ [r4]).length = x.length + 1 := by simp
              refine Ops.mv_sl rfl rfl rfl ?_
              refine Ops.nil ?_
              refine blockQ_n ?_
              refine thenQ_n ?_
              refine Cd.region ?_
              refine Ops.mv_int rfl rfl rfl ?_
              refine Ops.sub rfl rfl rfl (by omega) ?_
              refine Ops.mv_int rfl rfl rfl ?_
              refine Ops.nil ?_
              refine thenQ_n ?_
              exact ⟨(s - 1, (A10, c10), x ++ [r4], k4), by show (s - 1).toNat < s.toNat; omega, ⟨rfl, rfl, rfl, rfl, by show Value.slice A10 (x.length + 1) c10 = .slice A10 (x ++ [r4]).length c10; rw [hxl], rfl, trivial⟩, by show 0 ≤ s - 1 ∧ s - 1 + ((x ++ [r4]).length : Int) ≤ 4; omega, hK4, by rw [← hxl] at hS11; exact hS11⟩
            · have hS8 : St w0 w8 (CkI 2 A6 x.length c6 x :: (mat 25 2 A3 i c3 rs L ++ (cxZ A2 :: ks.set ix k3))) := by
                rw [List.cons_append, List.append_assoc] at hS8; exact hS8
              refine Cd.exit ?_
              refine thenQ_x ?_
              refine thenQ_x ?_
              refine blockQ_x ?_
              refine thenQ_n ?_
              refine Cd.region ?_
              refine Ops.mv_sl rfl rfl rfl ?_
              refine Ops.mv_sl rfl rfl rfl ?_
              refine Ops.bs1R hS8 rfl rfl rfl ?_
              intro A7 w6 hS6
              refine Ops.appR 2 hS6 rfl (hS6.rdR 0 rfl) rfl rfl rfl (by omega) (by omega) rfl ?_
              intro A8 c8 w7 hS7
              have hS7 := St.matAdd hS7.tail (by omega)
              refine Ops.mv_sl rfl rfl rfl ?_
              refine Ops.nil ?_
              refine blockQ_n ?_
              refine thenQ_n ?_
              refine Cd.region ?_
              refine Ops.mv_int rfl rfl rfl ?_
              refine Ops.sub rfl rfl rfl (by omega) ?_
              refine Ops.mv_int rfl rfl rfl ?_
              refine Ops.nil ?_
              refine thenQ_n ?_
              refine ⟨(p - 1, (i + 1, (A8, c8)), rs ++ [⟨A6, x.length, c6⟩], L ++ [x], k3), by show (p - 1).toNat < p.toNat; omega, ⟨rfl, rfl, rfl, rfl, trivial⟩, by show 0 ≤ p - 1 ∧ p - 1 + ((i + 1 : Nat) : Int) ≤ 7; omega, by show (rs ++ [_]).length = i + 1; simp [hrl], by show (L ++ [x]).length = i + 1; simp [hll], fun l hl => ?_, hK3, hS7⟩
              rcases List.mem_append.1 hl with hl | hl
              · exact hsm l hl
              · obtain rfl : l = x := by simpa using hl
                omega
          · refine Cd.exit ?_
            refine thenQ_x ?_
            refine thenQ_x ?_
            refine blockQ_x ?_
            refine blockQ_n ?_
            refine thenQ_n ?_
            exact ⟨(i, (A3, c3), rs, L, k2), ⟨rfl, rfl, rfl, trivial⟩, by show i ≤ 20; omega, hrl, hll, hsm, hK2, hS5⟩
  rintro ⟨n, ⟨A3, c3⟩, rs, L, k2⟩ e w4 ⟨hn, hrl, hll, hsm, hK2, hS4⟩
  dsimp only at hn hrl hll hsm hK2 hS4 ⊢
  have hk2 := setK_get (k' := k2) hk
  refine Cd.seq ?_
  refine Cd.region ?_
  refine Ops.mv_sl rfl rfl rfl ?_
  refine Ops.call (specComplexOf_c A3 n c3 rs L _ (St.rowsI hS4 hll) (by omega) (fun l hl => by have := hsm l hl; omega)) rfl rfl rfl ?_
  rintro _ w5 ⟨A4, c4, rs4, rfl, hrl4, hst4⟩
  have hC := co_cplx L
  generalize coV L = V at *
  generalize coL L = F at *
  have hS5 : St w0 w5 (mat 25 2 A4 F.length c4 rs4 F ++ (cxZ A2 :: ks.set ix k2)) := (hS4.call hst4).sub (by
    rw [List.append_nil]
    exact (List.Sublist.refl _).append (List.sublist_append_right _ _))
  refine Ops.mv_tup rfl rfl rfl ?_
  refine Ops.extract rfl rfl rfl ?_
  refine Ops.extract rfl rfl rfl ?_
  refine Ops.new2 hS5 rfl ?_
  intro A5 w6 hS6
  refine Ops.st_agg 2 0 hS6 rfl rfl rfl rfl rfl rfl rfl ?_
  intro w7 hS7
  have hS7 : St w0 w7 ((cxB A5 V A4 F.length c4 :: (mat 25 2 A4 F.length c4 rs4 F ++ [cxZ A2])) ++ ks.set ix k2) := by
    rw [List.cons_append, List.append_assoc]; exact hS7
  clear hS6 hS5 hS4
  refine Ops.mv_int rfl rfl rfl ?_
  refine Ops.nil ?_
  refine thenQ_n ?_
  refine Cd.seq ?_
  refine Cd.seq ?_
  refine Cd.region ?_
  refine Ops.mv_ptr rfl rfl rfl ?_
  refine Ops.call (srcNextP_c _ ix 4 hS7 hk2 hK2) rfl rfl rfl ?_
  rintro _ w8 ⟨r, k3, rfl, hr, hK3, hS8⟩
  rw [List.set_set, List.cons_append, List.append_assoc] at hS8
  clear hS7
  have hfin : ∀ {w9 : World}, St w0 w9 (cxB A5 V A4 F.length c4 :: (mat 25 2 A4 F.length c4 rs4 F ++ (cxZ A2 :: ks.set ix k3))) → St w0 w9 (cxZ A2 :: cxB A5 V A4 F.length c4 :: (mat 25 2 A4 F.length c4 rs4 F ++ ks.set ix k3)) := fun h => h.perm (List.perm_middle (l₁ := cxB A5 V A4 F.length c4 :: mat 25 2 A4 F.length c4 rs4 F))
  refine Ops.eql rfl rfl rfl ?_
  refine Ops.nil ?_
  refine thenQ_n ?_
  refine Cd.cond_p _ rfl (fun h1 => ?_) (fun h1 => ?_)
  · refine Cd.seq ?_
    refine Cd.region ?_
    refine Ops.ld_agg 1 (hS8.rd 0 rfl) rfl rfl rfl ?_
    refine Ops.bs1I (St.refl w8) rfl rfl rfl ?_
    intro B0 w9 hT
    refine Ops.bs1I hT rfl rfl rfl ?_
    intro B1 w10 hT
    refine Ops.bsLR [⟨B0, 1, 1⟩, ⟨B1, 1, 1⟩] hT rfl rfl (by decide) (by decide) rfl rfl ?_
    intro B2 w11 hT
    have hT : St w8 w11 (mat 25 2 B2 2 2 [⟨B0, 1, 1⟩, ⟨B1, 1, 1⟩] [[0], [1]] ++ []) := hT.perm (List.Perm.cons _ (List.Perm.swap _ _ _))
    refine Ops.bld2c (by exact inferInstance) (by exact inferInstance) rfl rfl rfl rfl rfl rfl rfl ?_
    have hS9 := hS8.later hT.below
    have hM : RowsI w11 A4 F.length rs4 F := St.rowsI (show St w0 w11 (mat 25 2 A4 F.length c4 rs4 F ++ _) from hS9.tail) rfl
    refine Ops.call (l17Join_c V A4 F.length c4 rs4 F 2 B2 2 2 _ [[0], [1]] _ hM (St.rowsI hT rfl) hC two_pts) rfl rfl rfl ?_
    rintro _ w12 ⟨A6, c6, rs6, rfl, hrl6, hst6⟩
    have hJ := jn_cplx hC two_pts
    generalize jnV V F [[0], [1]] = V' at *
    generalize jnLs V F [[0], [1]] = F' at *
    generalize jnK V F [[0], [1]] = K' at *
    have hS10 := hS9.call hst6
    refine Ops.mv_tup rfl rfl rfl ?_
    refine Ops.extract rfl rfl rfl ?_
    refine Ops.extract rfl rfl rfl ?_
    refine Ops.new2 hS10 rfl ?_
    intro A7 w13 hS11
    refine Ops.st_agg 2 0 hS11 rfl rfl rfl rfl rfl rfl rfl ?_
    intro w14 hS12
    have hS12 : St w0 w14 (cxB A7 V' A6 F'.length c6 :: (mat 25 2 A6 F'.length c6 rs6 F' ++ (cxB A5 V A4 F.length c4 :: (mat 25 2 A4 F.length c4 rs4 F ++ (cxZ A2 :: ks.set ix k3))))) := by
      rw [List.append_nil] at hS12; exact hS12
    refine Ops.mv_int rfl rfl rfl ?_
    refine Ops.nil ?_
    refine thenQ_n ?_
    refine Cd.seq ?_
    refine Cd.region ?_
    refine Ops.mv_int rfl rfl rfl ?_
    refine Ops.eql rfl rfl rfl ?_
    refine Ops.nil ?_
    refine thenQ_n ?_
    refine Cd.cond_p _ rfl (fun h2 => ?_) (fun h2 => ?_)
    · have hS13 : St w0 w14 (cxB A5 V A4 F.length c4 :: cxB A7 V' A6 F'.length c6 :: cxZ A2 :: (mat 25 2 A6 F'.length c6 rs6 F' ++ ks.set ix k3)) := by
        refine (hS12.sub (?_ : List.Sublist (cxB A7 V' A6 F'.length c6 :: (mat 25 2 A6 F'.length c6 rs6 F' ++ (cxB A5 V A4 F.length c4 :: (cxZ A2 :: ks.set ix k3)))) _)).perm ?_
        · exact List.Sublist.cons_cons _ ((List.Sublist.refl _).append (List.Sublist.cons_cons _ (List.sublist_append_right _ _)))
        · refine (List.Perm.cons _ (List.perm_middle.trans (List.Perm.cons _ List.perm_middle))).trans ?_
          exact List.Perm.swap _ _ _
      refine Cd.region ?_
      refine Ops.ld_agg 1 (hS13.rd 1 rfl) rfl rfl rfl ?_
      refine Ops.st_agg 2 0 hS13 rfl rfl rfl rfl rfl rfl rfl ?_
      intro w15 hS14
      refine Ops.nil ?_
      refine thenQ_n ?_
      refine Cd.seq ?_
      refine Cd.region ?_
      refine Ops.ld_agg 1 (hS14.rd 0 rfl) rfl rfl rfl ?_
      refine Ops.st_agg 2 2 hS14 rfl rfl rfl rfl rfl rfl rfl ?_
      intro w16 hS15
      refine Ops.nil ?_
      refine thenQ_n ?_
      refine Cd.ret ?_
      skip
      refine retc_r rfl (hS15.rd 2 rfl) ?_
      exact ⟨V', F', A6, c6, rs6, k3, rfl, hJ, hrl6, hK3, hS15.tail.tail.tail⟩
    · have hS13 := hfin (hS12.sub ((List.sublist_append_right _ _).cons _) : St w0 w14 (cxB A5 V A4 F.length c4 :: (mat 25 2 A4 F.length c4 rs4 F ++ (cxZ A2 :: ks.set ix k3))))
      refine Cd.skip ?_
      refine thenQ_n ?_
      refine Cd.seq ?_
      refine Cd.region ?_
      refine Ops.ld_agg 1 (hS13.rd 1 rfl) rfl rfl rfl ?_
      refine Ops.st_agg 2 0 hS13 rfl rfl rfl rfl rfl rfl rfl ?_
      intro w16 hS15
      refine Ops.nil ?_
      refine thenQ_n ?_
      refine Cd.ret ?_
      skip
      refine retc_r rfl (hS15.rd 0 rfl) ?_
      exact ⟨V, F, A4, c4, rs4, k3, rfl, hC, hrl4, hK3, hS15.tail.tail⟩
  · have hS13 := hfin hS8
    refine Cd.skip ?_
    refine thenQ_n ?_
    refine Cd.seq ?_
    refine Cd.region ?_
    refine Ops.ld_agg 1 (hS13.rd 1 rfl) rfl rfl rfl ?_
    refine Ops.st_agg 2 0 hS13 rfl rfl rfl rfl rfl rfl rfl ?_
    intro w16 hS15
    refine Ops.nil ?_
    refine thenQ_n ?_
    refine Cd.ret ?_
    skip
    refine retc_r rfl (hS15.rd 0 rfl) ?_
    exact ⟨V, F, A4, c4, rs4, k3, rfl, hC, hrl4, hK3, hS15.tail.tail⟩
end Go.Proofs.YtdedegbendjmbaaGreatDoor.Vc
