/-
  The texts K6, K7, Open, Opm in one. Conditions: as each part states them.
-/
import Derived.Test.YtgobjpcankaicaaZh
import Derived.Test.YtgobjpcankaicaaZa
import Derived.Test.YtgobjpcankaicaaInst
import Derived.Deep.Matrix
import Derived.Carry
import Derived.Below
import Derived.ChangeSame
import Derived.ProofKit
import Derived.OpenShut
import Derived.Handed
import Derived.Lib.SmallJoins
/-
  PlaceOf on both sides, and the walk of its law. Conditions: as each states them.
-/
namespace Go.Proofs.Ytgobjpcankaicaa.Vc
open Go.RowKit
section
variable {P : Program} {N : Nat} {ops : Array Oper} {K : Env → World → Prop} {rest : List Oper} {e : Env} {w0 w : World} {ks : List Ck} {d : Nat} {ty : TypeId} {pos : String} {af : Array Edge}
theorem Ops.fn1 {F : FuncId} {x : Operand} {v1 : Value} (hx : ev e x = v1) (hb : Nat.blt d N = true) (hK : Ops P N ops K rest (upd e d (.func (.func F) #[] #[v1])) w) :
    Ops P N ops K (⟨some d, .makeFunc (.func F) #[] #[x], ty, pos, af, none⟩ :: rest) e w :=
  .val (by simp [execOp, Instr.makeFunc, hx]) hb hK
theorem ret3_isi {R : Value → World → Prop} {t u s : Nat} {k' : IntKind} {j : Int} {A : Option Addr} {n c : Nat} {k : IntKind} {i : Int} (h : e t = .int k' j) (h2 : e u = .slice A n c) (h3 : e s = .int k i) (hR : R (.tuple #[.int k' j, .slice A n c, .int k i]) w) : ret3 t u s R .ret e w := by show R (.tuple #[e t, e u, e s]) w; rw [h, h2, h3]; exact hR
theorem ret3_sii {R : Value → World → Prop} {t u s : Nat} {k' : IntKind} {j : Int} {A : Option Addr} {n c : Nat} {k : IntKind} {i : Int} (h : e t = .slice A n c) (h2 : e u = .int k' j) (h3 : e s = .int k i) (hR : R (.tuple #[.slice A n c, .int k' j, .int k i]) w) : ret3 t u s R .ret e w := by show R (.tuple #[e t, e u, e s]) w; rw [h, h2, h3]; exact hR
end

/-- the first place at which a predicate with one free variable holds -/
theorem indexM1_c (A : Option Addr) (n c : Nat) (ss : List SlV) (G : FuncId) [hF : Fnc Try.prog G] (cv : Value) (pd : Nat → Bool) (w : World) (hR : RdR w A n ss) (hn : n ≤ 4000000000000)
    (hcall : ∀ (w' : World) (j : Nat), Below w.heap.size w w' → j < n → Ret Try.prog G [.agg #[(rg ss (j : Int)).v], cv] w' (fun v w'' => v = .bool (pd j) ∧ St w' w'' [])) :
    Ret Try.prog 118 [.slice A n c, .func (.func G) #[] #[cv]] w (fun v w' => (∃ i : Int, v = .int .i64 i ∧ ((i = -1 ∧ ∀ j, j < n → pd j = false) ∨ ∃ k : Nat, k < n ∧ i = k ∧ pd k = true ∧ ∀ j, j < k → pd j = false)) ∧ St w w' []) := by
  refine Ret.of_cd Try.func118 rfl Try.ntmps118 rfl (post1 rfl) ?_
  refine Cd.seq ?_
  refine Cd.region ?_
  refine Ops.mv_int rfl rfl rfl ?_
  refine Ops.nil ?_
  refine thenQ_n ?_
  refine Cd.seq ?_
  refine Cd.seq ?_
  refine Cd.region ?_
  refine Ops.mv_sl rfl rfl rfl ?_
  refine Ops.len rfl rfl ?_
  refine Ops.mv_int rfl rfl rfl ?_
  refine Ops.nil ?_
  refine thenQ_n ?_
  refine Cd.block ?_
  -- stop: loop
  refine Cd.loop (α := Nat) (fun k => [(0, .slice A n c), (1, .func (.func G) #[] #[cv]), (7, .int .i64 (n : Int)), (8, .int .i64 (k : Int))]) (fun k w' => St w w' [] ∧ k ≤ n ∧ ∀ j, j < k → pd j = false) (fun k => n - k) 0 ⟨rfl, rfl, rfl, rfl, trivial⟩ ⟨St.refl w, Nat.zero_le _, fun j hj => by omega⟩ ?_
  rintro k e w1 ⟨hS, hk, hK⟩
  refine Cd.seq ?_
  refine Cd.region ?_
  refine Ops.lss rfl rfl rfl ?_
  refine Ops.nil ?_
  refine thenQ_n ?_
  refine Cd.seq ?_
  -- stop: cond
  refine Cd.cond_p _ rfl (fun h3 => ?_) (fun h3 => ?_)
  · have hk' : k < n := by omega
    have hR1 := hR.later hS.below
    refine Cd.skip ?_
    refine thenQ_n ?_
    refine Cd.seq ?_
    refine Cd.block ?_
    refine Cd.seq ?_
    refine Cd.region ?_
    refine Ops.mv_int rfl rfl rfl ?_
    refine Ops.mv_int rfl rfl rfl ?_
    refine Ops.nil ?_
    refine thenQ_n ?_
    refine Cd.seq ?_
    refine Cd.region ?_
    refine Ops.mv_fn rfl rfl rfl ?_
    refine Ops.mv_sl rfl rfl rfl ?_
    refine Ops.mv_int rfl rfl rfl ?_
    -- stop: INDEXADDR 51 t12 t13 -> 14
    refine Ops.idx hR1.2 rfl rfl rfl (by omega) (by omega) ?_
    refine Ops.ld_ag hR1 rfl (by omega) rfl ?_
    refine Ops.call (hcall w1 k hS.below hk') rfl rfl rfl ?_
    rintro _ w2 ⟨rfl, hst⟩
    have hS2 := hS.later hst.below
    rw [show pd k = decide (pd k = true) by simp]
    refine Ops.nil ?_
    refine thenQ_n ?_
    -- stop: cond
    refine Cd.cond_p _ rfl (fun h4 => ?_) (fun h4 => ?_)
    · refine Cd.seq ?_
      refine Cd.region ?_
      refine Ops.mv_int rfl rfl rfl ?_
      refine Ops.mv_int rfl rfl rfl ?_
      refine Ops.nil ?_
      refine thenQ_n ?_
      refine Cd.ret ?_
      refine blockQ_r ?_
      refine thenQ_r ?_
      refine thenQ_r ?_
      refine blockQ_r ?_
      refine thenQ_r ?_
      refine ret1_i rfl ?_
      -- stop: end
      exact ⟨⟨(k : Int), rfl, .inr ⟨k, hk', rfl, h4, hK⟩⟩, hS2⟩
    · refine Cd.skip ?_
      refine blockQ_n ?_
      refine thenQ_n ?_
      refine Cd.region ?_
      refine Ops.add rfl rfl rfl (by omega) ?_
      refine Ops.mv_int rfl rfl rfl ?_
      refine Ops.nil ?_
      refine thenQ_n ?_
      -- stop: round
      refine ⟨k + 1, by show n - (k + 1) < n - k; omega, ⟨rfl, rfl, rfl, rfl, trivial⟩, hS2, by omega, fun j hj => ?_⟩
      by_cases ej : j = k
      · subst ej; simpa using h4
      · exact hK j (by omega)
  · refine Cd.exit ?_
    refine thenQ_x ?_
    refine thenQ_x ?_
    refine blockQ_x ?_
    refine thenQ_n ?_
    refine Cd.seq ?_
    refine Cd.region ?_
    refine Ops.mv_int rfl rfl rfl ?_
    refine Ops.nil ?_
    refine thenQ_n ?_
    refine Cd.ret ?_
    refine ret1_i rfl ?_
    -- stop: end
    exact ⟨⟨-1, rfl, .inl ⟨rfl, fun j hj => hK j (by omega)⟩⟩, hS⟩

/-! places -/
def fsti (x : Mx) : List Mx → Nat
  | [] => 0
  | y :: l => if y = x then 0 else fsti x l + 1
theorem fsti_lt {x : Mx} : ∀ {l : List Mx}, x ∈ l → fsti x l < l.length
  | y :: l, h => by
    simp only [fsti, List.length_cons]
    split
    · omega
    · rename_i hne
      have := fsti_lt (x := x) (l := l) ((List.mem_cons.1 h).resolve_left (fun e => hne e.symm))
      omega
theorem fsti_eq {x : Mx} : ∀ {l : List Mx} {k : Nat}, l[k]? = some x → (∀ j, j < k → l[j]? ≠ some x) → fsti x l = k
  | y :: l, 0, h, _ => by
    simp only [fsti]
    rw [if_pos (by simpa using h)]
  | y :: l, k + 1, h, hn => by
    have h0 := hn 0 (by omega)
    simp only [fsti]
    rw [if_neg (fun e => h0 (by simp [e]))]
    rw [fsti_eq (l := l) (k := k) (by simpa using h) (fun j hj => by have := hn (j + 1) (by omega); simpa using this)]
def Plc (xss : Mx) : Prop := Mani xss ∧ xss.length ≤ 4 ∧ (gl xss 0).length ≤ 12
instance (xss : Mx) : Decidable (Plc xss) := by unfold Plc; exact inferInstance
theorem Plc.small {xss : Mx} (h : Plc xss) : Small (xss.length : Nat) ((gl xss 0).length : Nat) := by
  have h1 := h.1.1
  have h2 := h.1.2.1
  have h3 := h.2
  unfold Small
  omega
def plL (xss : Mx) : List Mx := if Plc xss then listL xss.length (gl xss 0).length else []
def plI (xss : Mx) : Nat := fsti (leastL (gl xss 0).length xss) (plL xss)
def plK (xss : Mx) : Int := if ¬ Mani xss then 1 else if Plc xss then 0 else 3
theorem Plc.lstI {xss : Mx} (h : Plc xss) : Vc.lstI (xss.length : Nat) ((gl xss 0).length : Nat) = plL xss := by
  rw [Vc.lstI, if_pos h.small, plL, if_pos h, Int.toNat_natCast, Int.toNat_natCast]
theorem Plc.mem {xss : Mx} (h : Plc xss) : leastL (gl xss 0).length xss ∈ plL xss := by
  rw [plL, if_pos h]
  exact least_mem h.1 rfl
theorem Plc.k0 {xss : Mx} (h : Plc xss) : plK xss = 0 := by rw [plK, if_neg (fun hn => hn h.1), if_pos h]
/-- the list of a place, with its memory -/
def PlcS (xss : Mx) (w : World) (A : Option Addr) (c : Nat) (ms : List MatV) (w' : World) : Prop := ms.map (·.xss) = plL xss ∧ (∀ m ∈ ms, m.ok) ∧ St w w' (CkR 24 A ms.length c (ms.map (·.top)) :: matsCk 33 2 ms)
theorem PlcS.none {xss : Mx} {w w' : World} {ks : List Ck} (h : ¬ Plc xss) (hS : St w w' ks) : PlcS xss w Option.none 0 [] w' := ⟨by rw [plL, if_neg h]; rfl, fun m hm => (nomatch hm), hS.none.nil _⟩
theorem plI_bad {xss : Mx} (h : ¬ Plc xss) : plI xss = 0 := by rw [plI, plL, if_neg h]; rfl

theorem l19Place_c (A : Option Addr) (n c : Nat) (rs : List SlV) (xss : Mx) (w : World) (hR : RowsI w A n rs xss) (hn : n ≤ 9223372036854775807) :
    Ret Try.prog 76 [.agg #[.slice A n c]] w (fun v w' => ∃ A5 c5 ms, v = .tuple #[.int .i64 (plI xss : Nat), .slice A5 ms.length c5, .int .i64 (plK xss)] ∧ PlcS xss w A5 c5 ms w') := by
  have hxl := hR.len
  refine Ret.of_cd Try.func76 rfl Try.ntmps76 rfl (post3 rfl) ?_
  refine Cd.seq ?_
  refine Cd.region ?_
  -- stop: BOX 24 t0=m -> 1
  refine Ops.box1 (St.refl w) rfl rfl ?_
  intro Ab w1 hS1
  refine Ops.mv_int rfl rfl rfl ?_
  refine Ops.mv_sl rfl rfl rfl ?_
  refine Ops.mv_int rfl rfl rfl ?_
  refine Ops.nil ?_
  refine thenQ_n ?_
  refine Cd.seq ?_
  refine Cd.seq ?_
  refine Cd.region ?_
  -- stop: LOAD 24 t1=m -> 9
  refine Ops.ld_agg 0 (hS1.rd 0 rfl) rfl rfl rfl ?_
  refine Ops.call (l02Is_c A n c rs xss _ (hS1.oldRows hR) hn) rfl rfl rfl ?_
  rintro _ w2 ⟨rfl, hst2⟩
  have hS2 := hS1.later hst2.below
  first | refine Ops.not_p rfl rfl ?_ | refine Ops.not rfl rfl ?_
  refine Ops.nil ?_
  refine thenQ_n ?_
  -- stop: cond
  refine Cd.cond_p _ rfl (fun h1 => ?_) (fun h1 => ?_)
  · have hp : ¬ Plc xss := fun h => h1 h.1
    refine Cd.seq ?_
    refine Cd.region ?_
    refine Ops.mv_int rfl rfl rfl ?_
    refine Ops.mv_sl rfl rfl rfl ?_
    refine Ops.mv_int rfl rfl rfl ?_
    refine Ops.nil ?_
    refine thenQ_n ?_
    refine Cd.ret ?_
    refine thenQ_r ?_
    refine ret3_isi rfl rfl rfl ?_
    -- stop: end
    exact ⟨none, 0, [], by rw [plI_bad hp, plK, if_pos h1]; rfl, PlcS.none hp hS2⟩
  have hM : Mani xss := Classical.not_not.1 h1
  have hM1 := hM.1
  have hM2 := hM.2.1
  refine Cd.skip ?_
  refine thenQ_n ?_
  refine Cd.seq ?_
  refine Cd.seq ?_
  refine Cd.region ?_
  -- stop: FIELDADDR 24 t1=m 0 -> 12
  refine Ops.fld (hS2.rd 0 rfl) rfl rfl rfl rfl inferInstance ?_
  refine Ops.ldf_s (hS2.rd 0 rfl) rfl rfl rfl rfl rfl ?_
  refine Ops.len rfl rfl ?_
  refine Ops.gtr rfl rfl rfl ?_
  refine Ops.mv_bool rfl rfl rfl ?_
  -- stop: guard 16
  refine Ops.split_p 16 rfl (fun h2 => ?_) (fun h2 => ?_)
  · have hp : ¬ Plc xss := fun h => by have := h.2.1; omega
    refine Ops.skipg rfl rfl rfl rfl rfl ?_
    refine Ops.skipg rfl rfl rfl rfl rfl ?_
    refine Ops.skipg rfl rfl rfl rfl rfl ?_
    refine Ops.pick_t rfl rfl rfl ?_
    refine Ops.nil ?_
    refine thenQ_n ?_
    -- stop: cond
    refine Cd.cond_t rfl ?_
    refine Cd.seq ?_
    refine Cd.region ?_
    refine Ops.mv_int rfl rfl rfl ?_
    refine Ops.mv_sl rfl rfl rfl ?_
    refine Ops.mv_int rfl rfl rfl ?_
    refine Ops.nil ?_
    refine thenQ_n ?_
    refine Cd.ret ?_
    refine thenQ_r ?_
    refine ret3_isi rfl rfl rfl ?_
    -- stop: end
    exact ⟨none, 0, [], by rw [plI_bad hp, plK, if_neg (fun h => h hM), if_neg hp]; rfl, PlcS.none hp hS2⟩
  · refine Ops.rung rfl rfl rfl ?_
    -- stop: LOAD 24 t1=m -> 17
    refine Ops.ld_agg 0 (hS2.rd 0 rfl) rfl rfl rfl ?_
    refine Ops.rung rfl rfl rfl ?_
    -- stop: CALL spec.l02Flags(t17) -> 18
    refine Ops.call (l02Flags_c A n c rs xss _ (hS2.oldRows hR) (by omega)) rfl rfl rfl ?_
    rintro _ w3 ⟨rfl, hst3⟩
    have hS3 := hS2.later hst3.below
    refine Ops.rung rfl rfl rfl ?_
    refine Ops.gtr rfl rfl rfl ?_
    refine Ops.pick_f rfl rfl rfl ?_
    refine Ops.nil ?_
    refine thenQ_n ?_
    -- stop: cond
    refine Cd.cond_p _ rfl (fun h3 => ?_) (fun h3 => ?_)
    · have hp : ¬ Plc xss := fun h => by have := h.2.2; omega
      refine Cd.seq ?_
      refine Cd.region ?_
      refine Ops.mv_int rfl rfl rfl ?_
      refine Ops.mv_sl rfl rfl rfl ?_
      refine Ops.mv_int rfl rfl rfl ?_
      refine Ops.nil ?_
      refine thenQ_n ?_
      refine Cd.ret ?_
      refine thenQ_r ?_
      refine ret3_isi rfl rfl rfl ?_
      -- stop: end
      exact ⟨none, 0, [], by rw [plI_bad hp, plK, if_neg (fun h => h hM), if_neg hp]; rfl, PlcS.none hp hS3⟩
    · have hPl : Plc xss := ⟨hM, by omega, by omega⟩
      have hB3 := hS3.rd 0 rfl
      refine Cd.skip ?_
      refine thenQ_n ?_
      refine Cd.seq ?_
      -- stop: draw
      refine Cd.draw [.ex (.pointer (ptrAt (Ab) 0)), .ex (.slice (A) (n) (c)), .ex (.int .i64 (((n : Nat) : Int))), .ex (.agg #[.slice (A) (n) (c)]), .ex (.int .i64 (((gl xss 0).length : Nat) : Int)), .pr (fun v w' => ∃ A5 c5 A2 c2, ∃ ms : List MatV, v = .tuple #[.slice A5 ms.length c5, .slice A2 ms.length c2] ∧ PlcS xss w A5 c5 ms w'), .pr (fun v w' => ∃ A5 c5 A2 c2, ∃ ms : List MatV, v = .tuple #[.slice A5 ms.length c5, .slice A2 ms.length c2] ∧ PlcS xss w A5 c5 ms w'), .pr (fun v w' => ∃ A5 c5, ∃ ms : List MatV, v = .slice A5 ms.length c5 ∧ PlcS xss w A5 c5 ms w'), .pr (fun v w' => ∃ A2 n2 c2, v = .slice A2 n2 c2), .pr (fun v w' => ∃ A5 c5, ∃ ms : List MatV, v = .slice A5 ms.length c5 ∧ PlcS xss w A5 c5 ms w'), .pr (fun v w' => ∃ A2 n2 c2, v = .slice A2 n2 c2)] (by kernel_rfl) (by kernel_rfl) rfl (List.forall_mem_cons.2 ⟨Yd.lasts_ex _, (List.forall_mem_cons.2 ⟨Yd.lasts_ex _, (List.forall_mem_cons.2 ⟨Yd.lasts_ex _, (List.forall_mem_cons.2 ⟨Yd.lasts_ex _, (List.forall_mem_cons.2 ⟨Yd.lasts_ex _, (List.forall_mem_cons.2 ⟨Yd.lasts_pr (fun v w w' h hb => by obtain ⟨A5, c5, A2, c2, ms, hv, h1, h2, h3⟩ := h; exact ⟨A5, c5, A2, c2, ms, hv, h1, h2, h3.later hb⟩), (List.forall_mem_cons.2 ⟨Yd.lasts_pr (fun v w w' h hb => by obtain ⟨A5, c5, A2, c2, ms, hv, h1, h2, h3⟩ := h; exact ⟨A5, c5, A2, c2, ms, hv, h1, h2, h3.later hb⟩), (List.forall_mem_cons.2 ⟨Yd.lasts_pr (fun v w w' h hb => by obtain ⟨A5, c5, ms, hv, h1, h2, h3⟩ := h; exact ⟨A5, c5, ms, hv, h1, h2, h3.later hb⟩), (List.forall_mem_cons.2 ⟨Yd.lasts_pr (fun _ _ _ h _ => h), (List.forall_mem_cons.2 ⟨Yd.lasts_pr (fun v w w' h hb => by obtain ⟨A5, c5, ms, hv, h1, h2, h3⟩ := h; exact ⟨A5, c5, ms, hv, h1, h2, h3.later hb⟩), (List.forall_mem_cons.2 ⟨Yd.lasts_pr (fun _ _ _ h _ => h), (fun _ h => by cases h)⟩)⟩)⟩)⟩)⟩)⟩)⟩)⟩)⟩)⟩)⟩) ⟨?_, ?_, ?_, ?_, ?_, ?_, ?_, ?_, ?_, ?_, ?_, trivial⟩ ?_
      · intro e1 w1 hb hp hun
        refine Ops.fld (hB3.below hb) rfl rfl rfl rfl inferInstance ?_
        refine Ops.nil ?_
        exact After.dn (Below.refl _ _) (by exact rfl)
      · intro e1 w1 hb hp hun
        refine Ops.ldf_s (hB3.below hb) rfl rfl rfl rfl rfl ?_
        refine Ops.nil ?_
        exact After.dn (Below.refl _ _) (by exact rfl)
      · intro e1 w1 hb hp hun
        refine Ops.len rfl rfl ?_
        refine Ops.nil ?_
        exact After.dn (Below.refl _ _) (by exact rfl)
      · intro e1 w1 hb hp hun
        refine Ops.ld_agg 0 (hB3.below hb) rfl rfl rfl ?_
        refine Ops.nil ?_
        exact After.dn (Below.refl _ _) (by exact rfl)
      · intro e1 w1 hb hp hun
        refine Ops.call (l02Flags_c A n c rs xss _ ((hS3.later hb).oldRows hR) (by omega)) rfl rfl rfl ?_
        rintro _ w2 ⟨rfl, hst⟩
        refine Ops.nil ?_
        exact After.dn hst.below (by exact rfl)
      · intro e1 w1 hb hp hun
        refine Ops.call (l19List_c xss.length (gl xss 0).length (by omega) (by omega) _) rfl (by rw [hxl]; rfl) rfl ?_
        rintro _ w2 ⟨A5, c5, A2, c2, ms, rfl, hL, hok, hst⟩
        refine Ops.nil ?_
        exact After.dn hst.below ⟨A5, c5, A2, c2, ms, rfl, by rw [hL, plL, if_pos hPl], hok, ((hS3.later hb).call hst).sub ((List.Sublist.cons_cons _ (List.sublist_cons_self _ _)).trans (List.sublist_append_left _ _))⟩
      · intro e1 w1 hb hp hun
        obtain ⟨A5, c5, A2, c2, ms, h27, h1, h2, h3⟩ := (hp 5 (by decide) rfl _ _ rfl rfl)
        refine Ops.mv_tup rfl (by exact h27) rfl ?_
        refine Ops.nil ?_
        exact After.dn (Below.refl _ _) ⟨A5, c5, A2, c2, ms, rfl, h1, h2, h3⟩
      · intro e1 w1 hb hp hun
        obtain ⟨A5, c5, A2, c2, ms, h21, h1, h2, h3⟩ := (hp 6 (by decide) rfl _ _ rfl rfl)
        refine Ops.extract (by exact h21) rfl rfl ?_
        refine Ops.nil ?_
        exact After.dn (Below.refl _ _) ⟨A5, c5, ms, rfl, h1, h2, h3⟩
      · intro e1 w1 hb hp hun
        obtain ⟨A5, c5, A2, c2, ms, h21, h1, h2, h3⟩ := (hp 6 (by decide) rfl _ _ rfl rfl)
        refine Ops.extract (by exact h21) rfl rfl ?_
        refine Ops.nil ?_
        exact After.dn (Below.refl _ _) ⟨A2, _, c2, rfl⟩
      · intro e1 w1 hb hp hun
        obtain ⟨A5, c5, ms, h28, h1, h2, h3⟩ := (hp 7 (by decide) rfl _ _ rfl rfl)
        refine Ops.mv_sl rfl (by exact h28) rfl ?_
        refine Ops.nil ?_
        exact After.dn (Below.refl _ _) ⟨A5, c5, ms, rfl, h1, h2, h3⟩
      · intro e1 w1 hb hp hun
        obtain ⟨A2, n2, c2, h29⟩ := (hp 8 (by decide) rfl _ _ rfl rfl)
        refine Ops.mv_sl rfl (by exact h29) rfl ?_
        refine Ops.nil ?_
        exact After.dn (Below.refl _ _) ⟨A2, n2, c2, rfl⟩
      intro u w4 hb4 hu
      have hS4 := hS3.later hb4
      obtain ⟨A5, c5, ms, h5, hL, hok, hS5⟩ := hu 9 _ rfl
      have hsm : ∀ m ∈ ms, m.xss.length ≤ 4 := fun m hm => (lst_small (rank := (xss.length : Nat)) (flags := ((gl xss 0).length : Nat)) (by rw [hPl.lstI, ← hL]; exact List.mem_map_of_mem (f := (·.xss)) hm)).2.2.2.1
      have hll : (leastL (gl xss 0).length xss).length = n := by rw [leastL_len, hxl]
      have hml : ms.length = (plL xss).length := by rw [← hL, List.length_map]
      have hlim : ms.length ≤ 4000000000000 := by rw [hml, ← hPl.lstI]; exact lst_len _ _
      rw [pin u h5]
      refine thenQ_n ?_
      refine Cd.seq ?_
      refine Cd.region ?_
      -- stop: LOAD 24 t1=m -> 30
      refine Ops.ld_agg 0 (hS4.rd 0 rfl) rfl rfl rfl ?_
      refine Ops.call (l02Least_c A n c rs xss _ _ (hS4.oldRows hR) hM rfl) rfl rfl rfl ?_
      rintro _ w5 ⟨B, cB, rsB, rfl, hlB, hst5⟩
      have hS6 := hS5.call hst5
      refine Ops.new1 hS6 rfl ?_
      intro A7 w6 hS7
      refine Ops.st_agg 1 0 hS7 rfl rfl rfl rfl rfl rfl rfl ?_
      intro w7 hS8
      have hS8 : St w w7 (Bx 24 1 A7 [.slice B n cB] :: (mat 33 2 B n cB rsB (leastL (gl xss 0).length xss) ++ (CkR 24 A5 ms.length c5 (ms.map (·.top)) :: matsCk 33 2 ms))) := hS8
      refine Ops.nil ?_
      refine thenQ_n ?_
      refine Cd.seq ?_
      refine Cd.seq ?_
      refine Cd.region ?_
      refine Ops.mv_int rfl rfl rfl ?_
      refine Ops.nil ?_
      refine thenQ_n ?_
      refine Cd.block ?_
      -- stop: loop
      refine Cd.loop (α := Nat) (fun i => [(5, .slice A5 ms.length c5), (7, .pointer A7), (8, .int .i64 (i : Int))]) (fun i w' => St w w' (Bx 24 1 A7 [.slice B n cB] :: (mat 33 2 B n cB rsB (leastL (gl xss 0).length xss) ++ (CkR 24 A5 ms.length c5 (ms.map (·.top)) :: matsCk 33 2 ms))) ∧ i ≤ ms.length ∧ ∀ j, j < i → (plL xss)[j]? ≠ some (leastL (gl xss 0).length xss)) (fun i => ms.length - i) 0 ⟨rfl, rfl, rfl, trivial⟩ ⟨hS8, Nat.zero_le _, fun j hj => by omega⟩ ?_
      rintro i e w8 ⟨hS, hi, hno⟩
      refine Cd.seq ?_
      refine Cd.seq ?_
      refine Cd.region ?_
      refine Ops.mv_int rfl rfl rfl ?_
      refine Ops.mv_sl rfl rfl rfl ?_
      refine Ops.len rfl rfl ?_
      refine Ops.lss rfl rfl rfl ?_
      refine Ops.nil ?_
      refine thenQ_n ?_
      -- stop: cond
      refine Cd.cond_p _ rfl (fun h4 => ?_) (fun h4 => ?_)
      · have hi' : i < ms.length := by omega
        have hMs := hS.msR (A := A5) (c := c5) hok ((List.sublist_append_right _ _).trans (List.sublist_cons_self _ _))
        have hL8 : RowsI w8 B n rsB (leastL (gl xss 0).length xss) := hS.matAt (c := cB) (t1 := 33) (t2 := 2) ((List.sublist_append_left _ _).trans (List.sublist_cons_self _ _)) hll
        have hB7 := hS.rd 0 rfl
        have ha := hMs.at_ hi'
        have hcap : (rg (ms.map (·.top)) (i : Int)).n ≤ 9223372036854775807 := by
          have h1 := ha.len
          have h2 := hsm _ (List.getElem_mem hi')
          omega
        have hpi : (plL xss)[i]? = some ms[i].xss := by rw [← hL, List.getElem?_map, List.getElem?_eq_getElem hi']; rfl
        refine Cd.skip ?_
        refine thenQ_n ?_
        refine Cd.seq ?_
        refine Cd.block ?_
        refine Cd.seq ?_
        -- stop: draw
        refine Cd.draw [.ex (.slice (A5) (ms.length) (c5)), .ex (.int .i64 ((i : Int))), .ex (.pointer (ptrAt (A5) ((i : Int)).toNat)), .ex (.agg #[.slice (rg (ms.map (·.top)) ((i : Int))).a (rg (ms.map (·.top)) ((i : Int))).n (rg (ms.map (·.top)) ((i : Int))).c]), .ex (.agg #[.slice (B) (n) (cB)]), .ex (.bool (decide (ms[i].xss = leastL (gl xss 0).length xss)))] (by kernel_rfl) (by kernel_rfl) rfl (List.forall_mem_cons.2 ⟨Yd.lasts_ex _, (List.forall_mem_cons.2 ⟨Yd.lasts_ex _, (List.forall_mem_cons.2 ⟨Yd.lasts_ex _, (List.forall_mem_cons.2 ⟨Yd.lasts_ex _, (List.forall_mem_cons.2 ⟨Yd.lasts_ex _, (List.forall_mem_cons.2 ⟨Yd.lasts_ex _, (fun _ h => by cases h)⟩)⟩)⟩)⟩)⟩)⟩) ⟨?_, ?_, ?_, ?_, ?_, ?_, trivial⟩ ?_
        · intro e1 w1 hb hp hun
          refine Ops.mv_sl rfl rfl rfl ?_
          refine Ops.nil ?_
          exact After.dn (Below.refl _ _) (by exact rfl)
        · intro e1 w1 hb hp hun
          refine Ops.mv_int rfl rfl rfl ?_
          refine Ops.nil ?_
          exact After.dn (Below.refl _ _) (by exact rfl)
        · intro e1 w1 hb hp hun
          refine Ops.idx (hMs.top.later hb).2 rfl rfl rfl (by omega) (by omega) ?_
          refine Ops.nil ?_
          exact After.dn (Below.refl _ _) (by exact rfl)
        · intro e1 w1 hb hp hun
          refine Ops.ld_ag (hMs.top.later hb) rfl (by omega) rfl ?_
          refine Ops.nil ?_
          exact After.dn (Below.refl _ _) (by exact rfl)
        · intro e1 w1 hb hp hun
          refine Ops.ld_agg 0 (hB7.below hb) rfl rfl rfl ?_
          refine Ops.nil ?_
          exact After.dn (Below.refl _ _) (by exact rfl)
        · intro e1 w1 hb hp hun
          refine Ops.call (l02Same_c _ _ _ _ _ _ _ _ _ _ _ (ha.later hb) (hL8.later hb) hcap) rfl rfl rfl ?_
          rintro _ w2 ⟨rfl, hst⟩
          refine Ops.nil ?_
          exact After.dn hst.below (by exact rfl)
        intro u2 w9 hb9 _
        have hS9 := hS.later hb9
        refine thenQ_n ?_
        -- stop: cond
        refine Cd.cond_p _ rfl (fun h6 => ?_) (fun h6 => ?_)
        · have e1 : plI xss = i := fsti_eq (by rw [hpi, h6]) hno
          refine Cd.seq ?_
          refine Cd.region ?_
          refine Ops.mv_int rfl rfl rfl ?_
          refine Ops.mv_sl rfl rfl rfl ?_
          refine Ops.mv_int rfl rfl rfl ?_
          refine Ops.mv_sl rfl rfl rfl ?_
          refine Ops.mv_int rfl rfl rfl ?_
          refine Ops.nil ?_
          refine thenQ_n ?_
          refine Cd.ret ?_
          refine blockQ_r ?_
          refine thenQ_r ?_
          refine thenQ_r ?_
          refine blockQ_r ?_
          refine thenQ_r ?_
          refine ret3_isi rfl rfl rfl ?_
          -- stop: end
          exact ⟨A5, c5, ms, by rw [e1, hPl.k0], hL, hok, hS9.sub ((List.sublist_append_right _ _).trans (List.sublist_cons_self _ _))⟩
        · refine Cd.skip ?_
          refine blockQ_n ?_
          refine thenQ_n ?_
          refine Cd.region ?_
          refine Ops.mv_int rfl rfl rfl ?_
          refine Ops.add rfl rfl rfl (by omega) ?_
          refine Ops.mv_int rfl rfl rfl ?_
          refine Ops.nil ?_
          refine thenQ_n ?_
          -- stop: round
          refine ⟨i + 1, by omega, ⟨rfl, rfl, rfl, trivial⟩, hS9, by omega, fun j hj => ?_⟩
          by_cases ej : j = i
          · subst ej
            rw [hpi]
            exact fun h => h6 (Option.some.inj h)
          · exact hno j (by omega)
      · exfalso --x
        obtain ⟨j, hj, e⟩ := List.mem_iff_getElem.1 hPl.mem
        exact hno j (by omega) (by rw [List.getElem?_eq_getElem hj, e])

theorem placeOf1_c (A : Option Addr) (n c : Nat) (rs : List SlV) (xss : Mx) (Pf B : Option Addr) (n' cB : Nat) (rsB : List SlV) (yss : Mx) (w : World) (hX : RowsI w A n rs xss) (hB : Rd w Pf 1 (fun _ => .slice B n' cB)) (hY : RowsI w B n' rsB yss) (hn : n ≤ 9223372036854775807) :
    Ret Try.prog 124 [.agg #[.slice A n c], .pointer Pf] w (fun v w' => v = .bool (decide (xss = yss)) ∧ St w w' []) := by
  refine Ret.of_cd Try.func124 rfl Try.ntmps124 rfl (post1 rfl) ?_
  refine Cd.seq ?_
  refine Cd.region ?_
  -- stop: BOX 24 t0=x -> 2
  refine Ops.box1 (St.refl w) rfl rfl ?_
  intro Ab w1 hS1
  refine Ops.mv_bool rfl rfl rfl ?_
  refine Ops.nil ?_
  refine thenQ_n ?_
  refine Cd.seq ?_
  refine Cd.region ?_
  -- stop: LOAD 24 t2=x -> 4
  refine Ops.ld_agg 0 (hS1.rd 0 rfl) rfl rfl rfl ?_
  refine Ops.ld_agg 0 (hB.below hS1.below) rfl rfl rfl ?_
  refine Ops.call (sameManiplex_c A n c rs xss B n' cB rsB yss _ (hS1.oldRows hX) (hS1.oldRows hY) hn) rfl rfl rfl ?_
  rintro _ w2 ⟨rfl, hst⟩
  refine Ops.mv_bool rfl rfl rfl ?_
  refine Ops.nil ?_
  refine thenQ_n ?_
  refine Cd.ret ?_
  refine ret1_b rfl ?_
  -- stop: end
  exact ⟨rfl, (hS1.later hst.below).none⟩

theorem placeOf_c (A : Option Addr) (n c : Nat) (rs : List SlV) (xss : Mx) (w : World) (hR : RowsI w A n rs xss) (hnc : n ≤ c) (hc : c ≤ 9223372036854775807) :
    Ret Try.prog 77 [.agg #[.slice A n c]] w (fun v w' => ∃ A5 c5 ms, v = .tuple #[.slice A5 ms.length c5, .int .i64 (plI xss : Nat), .int .i64 (plK xss)] ∧ PlcS xss w A5 c5 ms w') := by
  have hxl := hR.len
  have r0 : 0 < n → (rg rs 0).n = (gl xss 0).length := fun h => (hR.rowLen (by omega) (by omega)).symm
  refine Ret.of_cd Try.func77 rfl Try.ntmps77 rfl (post3 rfl) ?_
  refine Cd.seq ?_
  refine Cd.region ?_
  -- stop: BOX 24 t0=m -> 1
  refine Ops.box1 (St.refl w) rfl rfl ?_
  intro Ab w1 hS1
  refine Ops.mv_sl rfl rfl rfl ?_
  refine Ops.mv_int rfl rfl rfl ?_
  refine Ops.mv_int rfl rfl rfl ?_
  refine Ops.nil ?_
  refine thenQ_n ?_
  refine Cd.seq ?_
  refine Cd.block ?_
  refine Cd.seq ?_
  refine Cd.region ?_
  -- stop: LOAD 24 t1=m -> 9
  refine Ops.ld_agg 0 (hS1.rd 0 rfl) rfl rfl rfl ?_
  refine Ops.call (isManiplex_c A n c rs xss _ (hS1.oldRows hR) hnc hc) rfl rfl rfl ?_
  rintro _ w2 ⟨rfl, hst2⟩
  have hS2 := hS1.later hst2.below
  first | refine Ops.not_p rfl rfl ?_ | refine Ops.not rfl rfl ?_
  refine Ops.mv_bool rfl rfl rfl ?_
  refine Ops.nil ?_
  refine thenQ_n ?_
  -- stop: cond
  refine Cd.cond_p _ rfl (fun h1 => ?_) (fun h1 => ?_)
  · have hp : ¬ Plc xss := fun h => h1 h.1
    refine Cd.seq ?_
    refine Cd.region ?_
    refine Ops.mv_sl rfl rfl rfl ?_
    refine Ops.mv_int rfl rfl rfl ?_
    refine Ops.mv_int rfl rfl rfl ?_
    refine Ops.nil ?_
    refine thenQ_n ?_
    refine Cd.ret ?_
    refine blockQ_r ?_
    refine thenQ_r ?_
    refine ret3_sii rfl rfl rfl ?_
    -- stop: end
    exact ⟨none, 0, [], by rw [plI_bad hp, plK, if_pos h1]; rfl, PlcS.none hp hS2⟩
  have hM : Mani xss := Classical.not_not.1 h1
  have hM1 := hM.1
  have hM2 := hM.2.1
  have r0 := r0 (by omega)
  refine Cd.seq ?_
  refine Cd.region ?_
  -- stop: CALL impl.Maniplex).rank(t1=m) -> 13
  refine Ops.call (rank_c Ab A n c _ _ (hS2.rd 0 rfl) rfl) rfl rfl rfl ?_
  rintro _ w2 ⟨rfl, rfl⟩
  refine Ops.call (flags_c Ab A n c rs xss _ _ (hS2.rd 0 rfl) rfl (hS2.oldRows hR) (by omega)) rfl rfl rfl ?_
  rintro _ w2 ⟨rfl, rfl⟩
  rw [r0, ← hxl]
  refine Ops.call (isSmall_c (xss.length : Nat) ((gl xss 0).length : Nat) _) rfl rfl rfl ?_
  rintro _ w2 ⟨rfl, rfl⟩
  first | refine Ops.not_p rfl rfl ?_ | refine Ops.not rfl rfl ?_
  refine Ops.mv_bool rfl rfl rfl ?_
  refine Ops.nil ?_
  refine thenQ_n ?_
  -- stop: cond
  refine Cd.cond_p _ rfl (fun h2 => ?_) (fun h2 => ?_)
  · have hp : ¬ Plc xss := fun h => h2 h.small
    refine Cd.seq ?_
    refine Cd.region ?_
    refine Ops.mv_sl rfl rfl rfl ?_
    refine Ops.mv_int rfl rfl rfl ?_
    refine Ops.mv_int rfl rfl rfl ?_
    refine Ops.nil ?_
    refine thenQ_n ?_
    refine Cd.ret ?_
    refine blockQ_r ?_
    refine thenQ_r ?_
    refine ret3_sii rfl rfl rfl ?_
    -- stop: end
    exact ⟨none, 0, [], by rw [plI_bad hp, plK, if_neg (fun h => h hM), if_neg hp]; rfl, PlcS.none hp hS2⟩
  have hsm := Classical.not_not.1 h2
  have hPl : Plc xss := ⟨hM, by have := hsm.1; omega, by have := hsm.2; omega⟩
  refine Cd.skip ?_
  refine blockQ_n ?_
  refine thenQ_n ?_
  refine Cd.seq ?_
  refine Cd.region ?_
  -- stop: CALL impl.Maniplex).rank(t1=m) -> 18
  refine Ops.call (rank_c Ab A xss.length c _ _ (hS2.rd 0 rfl) (by rw [hxl]; rfl)) rfl rfl rfl ?_
  rintro _ w2 ⟨rfl, rfl⟩
  refine Ops.call (flags_c Ab A n c rs xss _ _ (hS2.rd 0 rfl) rfl (hS2.oldRows hR) (by omega)) rfl rfl rfl ?_
  rintro _ w2 ⟨rfl, rfl⟩
  rw [r0]
  refine Ops.call (allManiplexes_c (xss.length : Nat) ((gl xss 0).length : Nat) _) rfl rfl rfl ?_
  rintro _ w3 ⟨A5, c5, ms, rfl, hL, hok, hst3⟩
  have hml : ms.length = (plL xss).length := by rw [← hPl.lstI, ← hL, List.length_map]
  have hlim : ms.length ≤ 4000000000000 := by rw [hml, ← hPl.lstI]; exact lst_len _ _
  rw [hPl.lstI] at hL
  have hsm4 : ∀ m ∈ ms, m.xss.length ≤ 4 := fun m hm => (lst_small (rank := (xss.length : Nat)) (flags := ((gl xss 0).length : Nat)) (by rw [hPl.lstI, ← hL]; exact List.mem_map_of_mem (f := (·.xss)) hm)).2.2.2.1
  have hll : (leastL (gl xss 0).length xss).length = n := by rw [leastL_len, hxl]
  have hS3 := (hS2.call hst3).perm List.perm_append_comm
  refine Ops.mv_tup rfl rfl rfl ?_
  refine Ops.extract rfl rfl rfl ?_
  refine Ops.extract rfl rfl rfl ?_
  refine Ops.mv_sl rfl rfl rfl ?_
  refine Ops.mv_int rfl rfl rfl ?_
  refine Ops.nil ?_
  refine thenQ_n ?_
  refine Cd.seq ?_
  refine Cd.region ?_
  -- stop: LOAD 24 t1=m -> 23
  refine Ops.ld_agg 0 (hS3.rd 0 rfl) rfl rfl rfl ?_
  refine Ops.call (leastForm_c A n c rs xss _ _ (hS3.oldRows hR) hM rfl) rfl rfl rfl ?_
  rintro _ w4 ⟨B, cB, rsB, rfl, hlB, hst4⟩
  have hS4 := hS3.call hst4
  refine Ops.new1 hS4 rfl ?_
  intro A7 w5 hS5
  refine Ops.st_agg 1 0 hS5 rfl rfl rfl rfl rfl rfl rfl ?_
  intro w6 hS6
  have hS6 : St w w6 (Bx 24 1 A7 [.slice B n cB] :: (mat 33 2 B n cB rsB (leastL (gl xss 0).length xss) ++ (Bx 24 1 Ab [.slice A n c] :: CkR 24 A5 ms.length c5 (ms.map (·.top)) :: matsCk 33 2 ms))) := hS6
  have hMs := hS6.msR (A := A5) (c := c5) hok (((List.sublist_cons_self _ _).trans (List.sublist_append_right _ _)).trans (List.sublist_cons_self _ _))
  have hL6 : RowsI w6 B n rsB (leastL (gl xss 0).length xss) := hS6.matAt (c := cB) (t1 := 33) (t2 := 2) ((List.sublist_append_left _ _).trans (List.sublist_cons_self _ _)) hll
  have hB7 : Rd w6 A7 1 (fun _ => .slice B n cB) := Rd.first (hS6.rd 0 rfl)
  refine Ops.nil ?_
  refine thenQ_n ?_
  refine Cd.seq ?_
  refine Cd.region ?_
  refine Ops.mv_sl rfl rfl rfl ?_
  refine Ops.mv_sl rfl rfl rfl ?_
  -- stop: MAKEFUNC impl.placeOf$1 [] [t7=form] -> 27
  refine Ops.fn1 rfl rfl ?_
  refine Ops.call (indexM1_c A5 ms.length c5 (ms.map (·.top)) 124 (.pointer A7) (fun j => decide ((plL xss)[j]? = some (leastL (gl xss 0).length xss))) _ hMs.top hlim (fun w' j hb hj => ?_)) rfl rfl rfl ?_
  · have ha := hMs.at_ hj
    have hcap : (rg (ms.map (·.top)) (j : Int)).n ≤ 9223372036854775807 := by
      have h1 := ha.len
      have h2 := hsm4 _ (List.getElem_mem hj)
      omega
    refine (placeOf1_c _ _ _ _ ms[j].xss A7 B n cB rsB (leastL (gl xss 0).length xss) w' (ha.later hb) (hB7.below hb) (hL6.later hb) hcap).mono ?_
    rintro v w'' ⟨rfl, hst⟩
    refine ⟨?_, hst⟩
    have hpi : (plL xss)[j]? = some ms[j].xss := by rw [← hL, List.getElem?_map, List.getElem?_eq_getElem hj]; rfl
    congr 1
    rw [decide_eq_decide, hpi]
    exact ⟨fun h => by rw [h], fun h => Option.some.inj h⟩
  rintro _ w7 ⟨⟨i, rfl, hi⟩, hst7⟩
  have hS7 := hS6.later hst7.below
  have hi : i = (plI xss : Nat) := by
    rcases hi with ⟨_, hno⟩ | ⟨k, hk, rfl, hpk, hno⟩
    · exfalso
      obtain ⟨j, hj, e⟩ := List.mem_iff_getElem.1 hPl.mem
      exact of_decide_eq_false (hno j (by omega)) (by rw [List.getElem?_eq_getElem hj, e])
    · rw [show plI xss = k from fsti_eq (of_decide_eq_true hpk) (fun j hj => of_decide_eq_false (hno j hj))]
  subst hi
  refine Ops.mv_sl rfl rfl rfl ?_
  refine Ops.mv_int rfl rfl rfl ?_
  refine Ops.mv_int rfl rfl rfl ?_
  refine Ops.nil ?_
  refine thenQ_n ?_
  refine Cd.ret ?_
  refine ret3_sii rfl rfl rfl ?_
  -- stop: end
  exact ⟨A5, c5, ms, by rw [hPl.k0], hL, hok, hS7.sub (((List.sublist_cons_self _ _).trans (List.sublist_append_right _ _)).trans (List.sublist_cons_self _ _))⟩

theorem specPlaceOf_c (A : Option Addr) (n c : Nat) (rs : List SlV) (xss : Mx) (w : World) (hR : RowsI w A n rs xss) (hn : n ≤ 9223372036854775807) :
    Ret Try.prog 44 [.agg #[.slice A n c]] w (fun v w' => v = .tuple #[.int .i64 (plI xss : Nat), .int .i64 (plK xss)] ∧ St w w' []) := by
  refine Ret.of_cd Try.func44 rfl Try.ntmps44 rfl (post2 rfl) ?_
  refine Cd.seq ?_
  refine Cd.region ?_
  -- stop: BOX 24 t0=m -> 1
  refine Ops.box1 (St.refl w) rfl rfl ?_
  intro Ab w1 hS1
  refine Ops.mv_int rfl rfl rfl ?_
  refine Ops.mv_int rfl rfl rfl ?_
  refine Ops.nil ?_
  refine thenQ_n ?_
  refine Cd.seq ?_
  refine Cd.region ?_
  -- stop: LOAD 24 t1=m -> 8
  refine Ops.ld_agg 0 (hS1.rd 0 rfl) rfl rfl rfl ?_
  refine Ops.call (l19Place_c A n c rs xss _ (hS1.oldRows hR) hn) rfl rfl rfl ?_
  rintro _ w2 ⟨A5, c5, ms, rfl, _, _, hst⟩
  refine Ops.mv_tup rfl rfl rfl ?_
  refine Ops.extract rfl rfl rfl ?_
  refine Ops.extract rfl rfl rfl ?_
  refine Ops.extract rfl rfl rfl ?_
  refine Ops.mv_int rfl rfl rfl ?_
  refine Ops.mv_sl rfl rfl rfl ?_
  refine Ops.mv_int rfl rfl rfl ?_
  refine Ops.nil ?_
  refine thenQ_n ?_
  refine Cd.seq ?_
  refine Cd.region ?_
  refine Ops.mv_int rfl rfl rfl ?_
  refine Ops.mv_int rfl rfl rfl ?_
  refine Ops.mv_int rfl rfl rfl ?_
  refine Ops.mv_int rfl rfl rfl ?_
  refine Ops.nil ?_
  refine thenQ_n ?_
  refine Cd.ret ?_
  refine ret2_ii rfl rfl ?_
  -- stop: end
  exact ⟨rfl, (hS1.call hst).none⟩
theorem implPlaceOf_c (A : Option Addr) (n c : Nat) (rs : List SlV) (xss : Mx) (w : World) (hR : RowsI w A n rs xss) (hnc : n ≤ c) (hc : c ≤ 9223372036854775807) :
    Ret Try.prog 45 [.agg #[.slice A n c]] w (fun v w' => v = .tuple #[.int .i64 (plI xss : Nat), .int .i64 (plK xss)] ∧ St w w' []) := by
  refine Ret.of_cd Try.func45 rfl Try.ntmps45 rfl (post2 rfl) ?_
  refine Cd.seq ?_
  refine Cd.region ?_
  -- stop: BOX 24 t0=m -> 1
  refine Ops.box1 (St.refl w) rfl rfl ?_
  intro Ab w1 hS1
  refine Ops.mv_int rfl rfl rfl ?_
  refine Ops.mv_int rfl rfl rfl ?_
  refine Ops.nil ?_
  refine thenQ_n ?_
  refine Cd.seq ?_
  refine Cd.region ?_
  -- stop: LOAD 24 t1=m -> 8
  refine Ops.ld_agg 0 (hS1.rd 0 rfl) rfl rfl rfl ?_
  refine Ops.call (placeOf_c A n c rs xss _ (hS1.oldRows hR) hnc hc) rfl rfl rfl ?_
  rintro _ w2 ⟨A5, c5, ms, rfl, _, _, hst⟩
  refine Ops.mv_tup rfl rfl rfl ?_
  refine Ops.extract rfl rfl rfl ?_
  refine Ops.extract rfl rfl rfl ?_
  refine Ops.extract rfl rfl rfl ?_
  refine Ops.mv_sl rfl rfl rfl ?_
  refine Ops.mv_int rfl rfl rfl ?_
  refine Ops.mv_int rfl rfl rfl ?_
  refine Ops.nil ?_
  refine thenQ_n ?_
  refine Cd.seq ?_
  refine Cd.region ?_
  refine Ops.mv_int rfl rfl rfl ?_
  refine Ops.mv_int rfl rfl rfl ?_
  refine Ops.mv_int rfl rfl rfl ?_
  refine Ops.mv_int rfl rfl rfl ?_
  refine Ops.nil ?_
  refine thenQ_n ?_
  refine Cd.ret ?_
  refine ret2_ii rfl rfl ?_
  -- stop: end
  exact ⟨rfl, (hS1.call hst).none⟩

theorem FnExactPlaceOf_c (A : Option Addr) (n c : Nat) (rs : List SlV) (xss : List (List Int)) (w : World) (hR : RowsI w A n rs xss) (hn : n ≤ 9223372036854775807) :
    Ret Try.prog 11 [.agg #[.slice A n c]] w (fun v w' => v = .bool true ∧ St w w' []) := by
  have hxl := hR.len
  refine Ret.of_cd Try.func11 rfl Try.ntmps11 rfl (post1 rfl) ?_
  refine Cd.seq ?_
  refine Cd.region ?_
  -- stop: BOX 31 t0=aM -> 1
  refine Ops.box1 (St.refl w) rfl rfl ?_
  intro Ab w1 hS
  refine Ops.mv_bool rfl rfl rfl ?_
  refine Ops.nil ?_
  refine thenQ_n ?_
  refine Cd.seq ?_
  refine Cd.region ?_
  refine Ops.mv_int rfl rfl rfl ?_
  refine Ops.nil ?_
  refine thenQ_n ?_
  refine Cd.seq ?_
  refine Cd.region ?_
  -- stop: LOAD 31 t1=aM -> 9
  refine Ops.ld_agg 0 (hS.rd 0 rfl) rfl rfl rfl ?_
  refine Ops.mv_int rfl rfl rfl ?_
  -- stop: CALL laws.szManiplex(t9, t10) -> 11
  refine Ops.call (szManiplex_c A n c rs xss 1048576 _ (hS.oldRows hR) hn (by omega)) rfl rfl rfl ?_
  rintro _ w2 ⟨rfl, hst⟩
  have hS := hS.later hst.below
  refine Ops.mv_int rfl rfl rfl ?_
  refine Ops.nil ?_
  refine thenQ_n ?_
  refine Cd.seq ?_
  refine Cd.seq ?_
  refine Cd.region ?_
  refine Ops.mv_int rfl rfl rfl ?_
  refine Ops.lss rfl rfl rfl ?_
  refine Ops.nil ?_
  refine thenQ_n ?_
  -- stop: cond
  refine Cd.cond_p _ rfl (fun h1 => ?_) (fun h1 => ?_)
  · refine Cd.seq ?_
    refine Cd.region ?_
    refine Ops.mv_bool rfl rfl rfl ?_
    refine Ops.nil ?_
    refine thenQ_n ?_
    refine Cd.ret ?_
    refine thenQ_r ?_
    refine ret1_b rfl ?_
    -- stop: end
    exact ⟨rfl, hS.none⟩
  have hfit := fits_of hR.top.1 (by omega) (Int.not_lt.1 h1)
  refine Cd.skip ?_
  refine thenQ_n ?_
  refine Cd.seq ?_
  refine Cd.region ?_
  -- stop: LOAD 31 t1=aM -> 15
  refine Ops.ld_agg 0 (hS.rd 0 rfl) rfl rfl rfl ?_
  refine Ops.call (toManiplex_c A n c rs xss _ (hS.oldRows hR) hfit) rfl rfl rfl ?_
  rintro _ w3 ⟨A1, rs1, rfl, hrl1, hst1⟩
  refine Ops.call (specPlaceOf_c A1 n n rs1 xss _ (St.rowsI (ks := []) (by rwa [List.append_nil]) hxl) hn) rfl rfl rfl ?_
  rintro _ w4 ⟨rfl, hst2⟩
  have hS4 := (hS.later hst1.below).later hst2.below
  refine Ops.mv_tup rfl rfl rfl ?_
  refine Ops.extract rfl rfl rfl ?_
  refine Ops.extract rfl rfl rfl ?_
  refine Ops.mv_int rfl rfl rfl ?_
  refine Ops.mv_int rfl rfl rfl ?_
  refine Ops.nil ?_
  refine thenQ_n ?_
  refine Cd.seq ?_
  refine Cd.region ?_
  -- stop: LOAD 31 t1=aM -> 20
  refine Ops.ld_agg 0 (hS4.rd 0 rfl) rfl rfl rfl ?_
  refine Ops.call (toManiplex_c A n c rs xss _ (hS4.oldRows hR) hfit) rfl rfl rfl ?_
  rintro _ w5 ⟨A2, rs2, rfl, hrl2, hst3⟩
  have hS5 := hS4.call2 hst3
  refine Ops.new1 hS5 rfl ?_
  intro A6 w6 hS6
  refine Ops.st_agg 1 0 hS6 rfl rfl rfl rfl rfl rfl rfl ?_
  intro w7 hS7
  have hS7 : St w w7 ([Bx 24 1 A6 [.slice A2 n n], Bx 31 1 Ab [.slice A n c]] ++ mat 33 2 A2 n n rs2 xss) := hS7
  refine Ops.nil ?_
  refine thenQ_n ?_
  refine Cd.seq ?_
  refine Cd.region ?_
  -- stop: LOAD 24 t6=x0 -> 23
  refine Ops.ld_agg 0 (hS7.rd 0 rfl) rfl rfl rfl ?_
  refine Ops.call (implPlaceOf_c A2 n n rs2 xss _ ((hS7.matNil.sub (List.sublist_append_right _ _)).rowsI hxl) (Nat.le_refl _) hn) rfl rfl rfl ?_
  rintro _ w8 ⟨rfl, hst4⟩
  have hS8 := (hS7.later hst4.below).matNil (pre := [_, _])
  refine Ops.mv_tup rfl rfl rfl ?_
  refine Ops.extract rfl rfl rfl ?_
  refine Ops.extract rfl rfl rfl ?_
  refine Ops.mv_int rfl rfl rfl ?_
  refine Ops.mv_int rfl rfl rfl ?_
  refine Ops.nil ?_
  refine thenQ_n ?_
  refine Cd.seq ?_
  refine Cd.seq ?_
  refine Cd.region ?_
  refine Ops.mv_int rfl rfl rfl ?_
  refine Ops.mv_int rfl rfl rfl ?_
  refine Ops.neq rfl rfl rfl ?_
  refine Ops.mv_bool rfl rfl rfl ?_
  -- stop: guard 30
  refine Ops.split_p 30 rfl (fun h => absurd rfl h) (fun _ => ?_) --f
  refine Ops.rung rfl rfl rfl ?_
  refine Ops.mv_int rfl rfl rfl ?_
  refine Ops.rung rfl rfl rfl ?_
  refine Ops.mv_int rfl rfl rfl ?_
  refine Ops.rung rfl rfl rfl ?_
  refine Ops.neq rfl rfl rfl ?_
  refine Ops.pick_f rfl rfl rfl ?_
  refine Ops.nil ?_
  refine thenQ_n ?_
  -- stop: cond
  refine Cd.cond_pf rfl (fun h => h rfl) ?_
  refine Cd.skip ?_
  refine thenQ_n ?_
  refine Cd.seq ?_
  refine Cd.seq ?_
  -- stop: draw
  have hM8 := (hS8.sub (List.sublist_append_right _ _)).rowsI hxl
  have hR8 := hS8.oldRows hR
  refine Cd.draw [.ex (.agg #[.slice (A2) (n) (n)]), .ex (.agg #[.slice (A) (n) (c)]), .pr (fun v w' => ∃ D rd, v = .agg #[.slice D n n] ∧ RowsI w' D n rd xss), .ex (.bool (true)), .ex (.bool (false))] (by kernel_rfl) (by kernel_rfl) rfl (List.forall_mem_cons.2 ⟨Yd.lasts_ex _, (List.forall_mem_cons.2 ⟨Yd.lasts_ex _, (List.forall_mem_cons.2 ⟨Yd.lasts_pr (fun v w w' h hb => by obtain ⟨D, rd, hv, h1⟩ := h; exact ⟨D, rd, hv, h1.later hb⟩), (List.forall_mem_cons.2 ⟨Yd.lasts_ex _, (List.forall_mem_cons.2 ⟨Yd.lasts_ex _, (fun _ h => by cases h)⟩)⟩)⟩)⟩)⟩) ⟨?_, ?_, ?_, ?_, ?_, trivial⟩ ?_
  · intro e1 w1 hb hp hun
    refine Ops.ld_agg 0 ((hS8.rd 0 rfl).below hb) rfl rfl rfl ?_
    refine Ops.nil ?_
    exact After.dn (Below.refl _ _) (by exact rfl)
  · intro e1 w1 hb hp hun
    refine Ops.ld_agg 0 ((hS8.rd 1 rfl).below hb) rfl rfl rfl ?_
    refine Ops.nil ?_
    exact After.dn (Below.refl _ _) (by exact rfl)
  · intro e1 w1 hb hp hun
    refine Ops.call (toManiplex_c A n c rs xss _ (hR8.later hb) hfit) rfl rfl rfl ?_
    rintro _ w2 ⟨D, rd, rfl, hrd, hst⟩
    refine Ops.nil ?_
    exact After.dn hst.below ⟨D, rd, rfl, St.rowsI (ks := []) (by rwa [List.append_nil]) hxl⟩
  · intro e1 w1 hb hp hun
    obtain ⟨D, rd, h43, h1⟩ := (hp 2 (by decide) rfl _ _ rfl rfl)
    refine Ops.call (eqManiplex_c A2 n n rs2 xss D n n rd xss _ (hM8.later hb) h1 hn) rfl (by exact congrArg (fun v => [Value.agg #[.slice A2 n n], v]) h43) rfl ?_
    rintro _ w2 ⟨rfl, hst⟩
    refine Ops.nil ?_
    exact After.dn hst.below (by exact congrArg Value.bool (decide_eq_true rfl))
  · intro e1 w1 hb hp hun
    refine Ops.not rfl rfl ?_
    refine Ops.nil ?_
    exact After.dn (Below.refl _ _) (by exact congrArg Value.bool (rfl))
  intro u w10 hb10 _
  have hS10 := hS8.later hb10
  refine thenQ_n ?_
  -- stop: cond
  refine Cd.cond_f rfl ?_
  refine Cd.skip ?_
  refine thenQ_n ?_
  refine Cd.seq ?_
  refine Cd.region ?_
  refine Ops.mv_bool rfl rfl rfl ?_
  refine Ops.nil ?_
  refine thenQ_n ?_
  refine Cd.ret ?_
  refine ret1_b rfl ?_
  -- stop: end
  exact ⟨rfl, hS10.none⟩
end Go.Proofs.Ytgobjpcankaicaa.Vc
/-
  NextManiplex on both sides, and the walk of its law. Conditions: as each states them.
-/
namespace Go.Proofs.Ytgobjpcankaicaa.Vc
open Go.RowKit

def nxK (xss : Mx) : Int := if ¬ plK xss = 0 then plK xss else if plI xss + 1 = (plL xss).length then 4 else 0
def nxL (xss : Mx) : Mx := if ¬ plK xss = 0 then [] else (plL xss).getD (plI xss + 1) []
theorem plc_of {xss : Mx} (h : plK xss = 0) : Plc xss := Classical.byContradiction fun hn => by
  unfold plK at h
  rw [if_neg hn] at h
  split at h <;> omega
theorem plL_len (xss : Mx) : (plL xss).length ≤ 4000000000000 := by
  by_cases h : Plc xss
  · rw [← h.lstI]; exact lst_len _ _
  · rw [plL, if_neg h]; exact Nat.zero_le _
theorem plI_le (xss : Mx) : plI xss ≤ 4000000000000 := by
  by_cases h : Plc xss
  · have h1 := fsti_lt h.mem
    have h2 := plL_len xss
    unfold plI
    omega
  · rw [plI_bad h]; exact Nat.zero_le _
theorem nxL_small (xss : Mx) : (nxL xss).length ≤ 4 ∧ ∀ x ∈ nxL xss, x.length ≤ 12 := by
  unfold nxL
  split
  · exact ⟨Nat.zero_le _, fun x hx => nomatch hx⟩
  · rename_i h
    have hP := plc_of (Classical.not_not.1 h)
    rw [List.getD_eq_getElem?_getD]
    cases he : (plL xss)[plI xss + 1]? with
    | none => exact ⟨Nat.zero_le _, fun x hx => nomatch hx⟩
    | some L => exact (lst_small (rank := (xss.length : Nat)) (flags := ((gl xss 0).length : Nat)) (by rw [hP.lstI]; exact List.mem_of_getElem? he)).2.2.2

theorem specNextManiplex_c (A : Option Addr) (n c : Nat) (rs : List SlV) (xss : Mx) (w : World) (hR : RowsI w A n rs xss) (hn : n ≤ 9223372036854775807) :
    Ret Try.prog 51 [.agg #[.slice A n c]] w (AnsX (nxL xss) (nxK xss) w) := by
  have hlim := plL_len xss
  have hpi := plI_le xss
  refine Ret.of_cd Try.func51 rfl Try.ntmps51 rfl (postc2 rfl rfl) ?_
  refine Cd.seq ?_
  refine Cd.region ?_
  -- stop: BOX 24 t0=m -> 1
  refine Ops.box1 (St.refl w) rfl rfl ?_
  intro Ab w1 hS1
  refine Ops.new1 hS1 rfl ?_
  intro A2 w2 hS2
  refine Ops.mv_int rfl rfl rfl ?_
  refine Ops.nil ?_
  refine thenQ_n ?_
  refine Cd.seq ?_
  refine Cd.region ?_
  -- stop: LOAD 24 t1=m -> 8
  refine Ops.ld_agg 0 (hS2.rd 1 rfl) rfl rfl rfl ?_
  refine Ops.call (l19Place_c A n c rs xss _ (hS2.oldRows hR) hn) rfl rfl rfl ?_
  rintro _ w3 ⟨A5, c5, ms, rfl, hL, hok, hst⟩
  have hml : ms.length = (plL xss).length := by rw [← hL, List.length_map]
  have hS3 := (hS2.call hst).perm List.perm_append_comm
  refine Ops.mv_tup rfl rfl rfl ?_
  refine Ops.extract rfl rfl rfl ?_
  refine Ops.extract rfl rfl rfl ?_
  refine Ops.extract rfl rfl rfl ?_
  refine Ops.mv_int rfl rfl rfl ?_
  refine Ops.mv_sl rfl rfl rfl ?_
  refine Ops.mv_int rfl rfl rfl ?_
  refine Ops.nil ?_
  refine thenQ_n ?_
  refine Cd.seq ?_
  refine Cd.block ?_
  refine Cd.seq ?_
  refine Cd.region ?_
  refine Ops.mv_int rfl rfl rfl ?_
  refine Ops.neq rfl rfl rfl ?_
  refine Ops.mv_bool rfl rfl rfl ?_
  refine Ops.nil ?_
  refine thenQ_n ?_
  -- stop: cond
  refine Cd.cond_p _ rfl (fun h1 => ?_) (fun h1 => ?_)
  · refine Cd.seq ?_
    refine Cd.region ?_
    -- stop: BUILD 24 [] -> 16
    refine Ops.bld0 (by exact inferInstance) rfl ?_
    refine Ops.mv_int rfl rfl rfl ?_
    -- stop: STORE 24 t2 t16 -> None
    refine Ops.st_agg 1 0 hS3 rfl rfl rfl rfl rfl rfl rfl ?_
    intro w4 hS4
    refine Ops.mv_int rfl rfl rfl ?_
    refine Ops.nil ?_
    refine thenQ_n ?_
    refine Cd.ret ?_
    refine blockQ_r ?_
    refine thenQ_r ?_
    skip
    -- stop: end
    refine retc2_r rfl (hS4.rd 0 rfl) rfl ?_
    rw [nxL, nxK, if_pos h1, if_pos h1]
    exact AnsX.none hS4
  have h0 : plK xss = 0 := Classical.not_not.1 h1
  have hPl := plc_of h0
  have hlt : plI xss < ms.length := by rw [hml]; exact fsti_lt hPl.mem
  refine Cd.seq ?_
  refine Cd.region ?_
  refine Ops.mv_int rfl rfl rfl ?_
  refine Ops.add rfl rfl rfl (by omega) ?_
  refine Ops.mv_sl rfl rfl rfl ?_
  refine Ops.len rfl rfl ?_
  refine Ops.eql rfl rfl rfl ?_
  refine Ops.mv_bool rfl rfl rfl ?_
  refine Ops.nil ?_
  refine thenQ_n ?_
  -- stop: cond
  refine Cd.cond_p _ rfl (fun h2 => ?_) (fun h2 => ?_)
  · refine Cd.seq ?_
    refine Cd.region ?_
    -- stop: BUILD 24 [] -> 24
    refine Ops.bld0 (by exact inferInstance) rfl ?_
    refine Ops.st_agg 1 0 hS3 rfl rfl rfl rfl rfl rfl rfl ?_
    intro w4 hS4
    refine Ops.mv_int rfl rfl rfl ?_
    refine Ops.nil ?_
    refine thenQ_n ?_
    refine Cd.ret ?_
    refine blockQ_r ?_
    refine thenQ_r ?_
    skip
    -- stop: end
    refine retc2_r rfl (hS4.rd 0 rfl) rfl ?_
    have e1 : nxK xss = 4 := by rw [nxK, if_neg h1, if_pos (by omega)]
    have e2 : nxL xss = [] := by rw [nxL, if_neg h1, List.getD_eq_getElem?_getD, List.getElem?_eq_none (by omega)]; rfl
    rw [e1, e2]
    exact AnsX.none hS4
  · have hlt2 : plI xss + 1 < ms.length := by omega
    have hRR := hS3.rdR 2 rfl
    have ht := top_at hlt2
    refine Cd.skip ?_
    refine blockQ_n ?_
    refine thenQ_n ?_
    refine Cd.seq ?_
    refine Cd.region ?_
    refine Ops.mv_sl rfl rfl rfl ?_
    refine Ops.mv_int rfl rfl rfl ?_
    refine Ops.add rfl rfl rfl (by omega) ?_
    -- stop: INDEXADDR 51 t25 t27 -> 28
    refine Ops.idx hRR.2 rfl rfl rfl (by omega) (by omega) ?_
    refine Ops.ld_ag hRR rfl (by omega) rfl ?_
    rw [show ((plI xss : Nat) : Int) + 1 = ((plI xss + 1 : Nat) : Int) by omega, ht]
    refine Ops.st_agg 1 0 hS3 rfl rfl rfl rfl rfl rfl rfl ?_
    intro w4 hS4
    refine Ops.mv_int rfl rfl rfl ?_
    refine Ops.nil ?_
    refine thenQ_n ?_
    refine Cd.ret ?_
    skip
    -- stop: end
    refine retc2_r rfl (hS4.rd 0 rfl) rfl ?_
    have ho := hok _ (List.getElem_mem hlt2)
    have hsub : (ms[plI xss + 1].cks 33 2).Sublist (Bx 24 1 A2 [.slice ms[plI xss + 1].top.a ms[plI xss + 1].top.n ms[plI xss + 1].top.c] :: Bx 24 1 Ab [.slice A n c] :: CkR 24 A5 ms.length c5 (ms.map (·.top)) :: matsCk 33 2 ms) := (((MatV.sub_ (List.getElem_mem hlt2)).trans (List.sublist_cons_self _ _)).trans (List.sublist_cons_self _ _)).trans (List.sublist_cons_self _ _)
    have hrl := hS4.rsLen hsub
    have hX := hS4.sub hsub
    have e1 : nxK xss = 0 := by rw [nxK, if_neg h1, if_neg (by omega)]
    have e2 : nxL xss = ms[plI xss + 1].xss := by rw [nxL, if_neg h1, ← hL, List.getD_eq_getElem?_getD, List.getElem?_map, List.getElem?_eq_getElem hlt2]; rfl
    rw [e1, e2]
    unfold MatV.ok at ho
    refine ⟨ms[plI xss + 1].top.a, ms[plI xss + 1].top.c, ms[plI xss + 1].rs, ?_, by rw [hrl, ho], ?_⟩
    · rw [ho]; rfl
    · rw [ho]; exact hX

theorem implNextManiplex_c (A : Option Addr) (n c : Nat) (rs : List SlV) (xss : Mx) (w : World) (hR : RowsI w A n rs xss) (hnc : n ≤ c) (hc : c ≤ 9223372036854775807) :
    Ret Try.prog 52 [.agg #[.slice A n c]] w (AnsX (nxL xss) (nxK xss) w) := by
  have hlim := plL_len xss
  have hpi := plI_le xss
  refine Ret.of_cd Try.func52 rfl Try.ntmps52 rfl (postc2 rfl rfl) ?_
  refine Cd.seq ?_
  refine Cd.region ?_
  -- stop: BOX 24 t0=m -> 1
  refine Ops.box1 (St.refl w) rfl rfl ?_
  intro Ab w1 hS1
  refine Ops.new1 hS1 rfl ?_
  intro A2 w2 hS2
  refine Ops.mv_int rfl rfl rfl ?_
  refine Ops.nil ?_
  refine thenQ_n ?_
  refine Cd.seq ?_
  refine Cd.region ?_
  -- stop: LOAD 24 t1=m -> 8
  refine Ops.ld_agg 0 (hS2.rd 1 rfl) rfl rfl rfl ?_
  refine Ops.call (placeOf_c A n c rs xss _ (hS2.oldRows hR) hnc hc) rfl rfl rfl ?_
  rintro _ w3 ⟨A5, c5, ms, rfl, hL, hok, hst⟩
  have hml : ms.length = (plL xss).length := by rw [← hL, List.length_map]
  have hS3 := (hS2.call hst).perm List.perm_append_comm
  refine Ops.mv_tup rfl rfl rfl ?_
  refine Ops.extract rfl rfl rfl ?_
  refine Ops.extract rfl rfl rfl ?_
  refine Ops.extract rfl rfl rfl ?_
  refine Ops.mv_sl rfl rfl rfl ?_
  refine Ops.mv_int rfl rfl rfl ?_
  refine Ops.mv_int rfl rfl rfl ?_
  refine Ops.nil ?_
  refine thenQ_n ?_
  refine Cd.seq ?_
  refine Cd.block ?_
  refine Cd.seq ?_
  refine Cd.region ?_
  refine Ops.mv_int rfl rfl rfl ?_
  refine Ops.neq rfl rfl rfl ?_
  refine Ops.mv_bool rfl rfl rfl ?_
  refine Ops.nil ?_
  refine thenQ_n ?_
  -- stop: cond
  refine Cd.cond_p _ rfl (fun h1 => ?_) (fun h1 => ?_)
  · refine Cd.seq ?_
    refine Cd.region ?_
    -- stop: BUILD 24 [] -> 16
    refine Ops.bld0 (by exact inferInstance) rfl ?_
    refine Ops.mv_int rfl rfl rfl ?_
    -- stop: STORE 24 t2 t16 -> None
    refine Ops.st_agg 1 0 hS3 rfl rfl rfl rfl rfl rfl rfl ?_
    intro w4 hS4
    refine Ops.mv_int rfl rfl rfl ?_
    refine Ops.nil ?_
    refine thenQ_n ?_
    refine Cd.ret ?_
    refine blockQ_r ?_
    refine thenQ_r ?_
    skip
    -- stop: end
    refine retc2_r rfl (hS4.rd 0 rfl) rfl ?_
    rw [nxL, nxK, if_pos h1, if_pos h1]
    exact AnsX.none hS4
  have h0 : plK xss = 0 := Classical.not_not.1 h1
  have hPl := plc_of h0
  have hlt : plI xss < ms.length := by rw [hml]; exact fsti_lt hPl.mem
  refine Cd.seq ?_
  refine Cd.region ?_
  refine Ops.mv_int rfl rfl rfl ?_
  refine Ops.add rfl rfl rfl (by omega) ?_
  refine Ops.mv_sl rfl rfl rfl ?_
  -- stop: CALL impl.Maniplex](t21) -> 22
  refine Ops.call (sizeM_c _ _ _ _) rfl rfl rfl ?_
  rintro _ w3 ⟨rfl, rfl⟩
  refine Ops.eql rfl rfl rfl ?_
  refine Ops.mv_bool rfl rfl rfl ?_
  refine Ops.nil ?_
  refine thenQ_n ?_
  -- stop: cond
  refine Cd.cond_p _ rfl (fun h2 => ?_) (fun h2 => ?_)
  · refine Cd.seq ?_
    refine Cd.region ?_
    -- stop: BUILD 24 [] -> 24
    refine Ops.bld0 (by exact inferInstance) rfl ?_
    refine Ops.st_agg 1 0 hS3 rfl rfl rfl rfl rfl rfl rfl ?_
    intro w4 hS4
    refine Ops.mv_int rfl rfl rfl ?_
    refine Ops.nil ?_
    refine thenQ_n ?_
    refine Cd.ret ?_
    refine blockQ_r ?_
    refine thenQ_r ?_
    skip
    -- stop: end
    refine retc2_r rfl (hS4.rd 0 rfl) rfl ?_
    have e1 : nxK xss = 4 := by rw [nxK, if_neg h1, if_pos (by omega)]
    have e2 : nxL xss = [] := by rw [nxL, if_neg h1, List.getD_eq_getElem?_getD, List.getElem?_eq_none (by omega)]; rfl
    rw [e1, e2]
    exact AnsX.none hS4
  · have hlt2 : plI xss + 1 < ms.length := by omega
    have hRR := hS3.rdR 2 rfl
    have ht := top_at hlt2
    refine Cd.skip ?_
    refine blockQ_n ?_
    refine thenQ_n ?_
    refine Cd.seq ?_
    refine Cd.region ?_
    refine Ops.mv_sl rfl rfl rfl ?_
    refine Ops.mv_int rfl rfl rfl ?_
    refine Ops.add rfl rfl rfl (by omega) ?_
    -- stop: INDEXADDR 51 t25 t27 -> 28
    refine Ops.idx hRR.2 rfl rfl rfl (by omega) (by omega) ?_
    refine Ops.ld_ag hRR rfl (by omega) rfl ?_
    rw [show ((plI xss : Nat) : Int) + 1 = ((plI xss + 1 : Nat) : Int) by omega, ht]
    refine Ops.st_agg 1 0 hS3 rfl rfl rfl rfl rfl rfl rfl ?_
    intro w4 hS4
    refine Ops.mv_int rfl rfl rfl ?_
    refine Ops.nil ?_
    refine thenQ_n ?_
    refine Cd.ret ?_
    skip
    -- stop: end
    refine retc2_r rfl (hS4.rd 0 rfl) rfl ?_
    have ho := hok _ (List.getElem_mem hlt2)
    have hsub : (ms[plI xss + 1].cks 33 2).Sublist (Bx 24 1 A2 [.slice ms[plI xss + 1].top.a ms[plI xss + 1].top.n ms[plI xss + 1].top.c] :: Bx 24 1 Ab [.slice A n c] :: CkR 24 A5 ms.length c5 (ms.map (·.top)) :: matsCk 33 2 ms) := (((MatV.sub_ (List.getElem_mem hlt2)).trans (List.sublist_cons_self _ _)).trans (List.sublist_cons_self _ _)).trans (List.sublist_cons_self _ _)
    have hrl := hS4.rsLen hsub
    have hX := hS4.sub hsub
    have e1 : nxK xss = 0 := by rw [nxK, if_neg h1, if_neg (by omega)]
    have e2 : nxL xss = ms[plI xss + 1].xss := by rw [nxL, if_neg h1, ← hL, List.getD_eq_getElem?_getD, List.getElem?_map, List.getElem?_eq_getElem hlt2]; rfl
    rw [e1, e2]
    unfold MatV.ok at ho
    refine ⟨ms[plI xss + 1].top.a, ms[plI xss + 1].top.c, ms[plI xss + 1].rs, ?_, by rw [hrl, ho], ?_⟩
    · rw [ho]; rfl
    · rw [ho]; exact hX

theorem FnExactNextManiplex_c (A : Option Addr) (n c : Nat) (rs : List SlV) (xss : Mx) (w : World) (hR : RowsI w A n rs xss) (hn : n ≤ 9223372036854775807) :
    Ret Try.prog 13 [.agg #[.slice A n c]] w (fun v w' => v = .bool true ∧ St w w' []) := by
  have hxl := hR.len
  have hsm := nxL_small xss
  have hS_ := fun A n c rs w hR hn => specNextManiplex_c A n c rs xss w hR hn
  have hI_ := fun A n c rs w hR hn hc => implNextManiplex_c A n c rs xss w hR hn hc
  generalize nxL xss = L at *
  generalize nxK xss = K at *
  have hr1000 : ∀ x ∈ L, x.length ≤ 1000 := fun x hx => by have := hsm.2 x hx; omega
  have htb := tot_le (b := 1000) L hr1000
  refine Ret.of_cd Try.func13 rfl Try.ntmps13 rfl (post1 rfl) ?_
  refine Cd.seq ?_
  refine Cd.region ?_
  -- stop: BOX 31 t0=app -> 1
  refine Ops.box1 (St.refl w) rfl rfl ?_
  intro Ab w1 hS
  refine Ops.mv_bool rfl rfl rfl ?_
  refine Ops.nil ?_
  refine thenQ_n ?_
  refine Cd.seq ?_
  refine Cd.region ?_
  refine Ops.mv_int rfl rfl rfl ?_
  refine Ops.nil ?_
  refine thenQ_n ?_
  refine Cd.seq ?_
  refine Cd.region ?_
  -- stop: LOAD 31 t1=toArray -> 14
  refine Ops.ld_agg 0 (hS.rd 0 rfl) rfl rfl rfl ?_
  refine Ops.mv_int rfl rfl rfl ?_
  -- stop: CALL laws.szManiplex(t14, t15) -> 16
  refine Ops.call (szManiplex_c A n c rs xss 1048576 _ (hS.oldRows hR) hn (by omega)) rfl rfl rfl ?_
  rintro _ w2 ⟨rfl, hst⟩
  have hS := hS.later hst.below
  refine Ops.mv_int rfl rfl rfl ?_
  refine Ops.nil ?_
  refine thenQ_n ?_
  refine Cd.seq ?_
  refine Cd.seq ?_
  refine Cd.region ?_
  refine Ops.mv_int rfl rfl rfl ?_
  refine Ops.lss rfl rfl rfl ?_
  refine Ops.nil ?_
  refine thenQ_n ?_
  -- stop: cond
  refine Cd.cond_p _ rfl (fun h1 => ?_) (fun h1 => ?_)
  · refine Cd.seq ?_
    refine Cd.region ?_
    refine Ops.mv_bool rfl rfl rfl ?_
    refine Ops.nil ?_
    refine thenQ_n ?_
    refine Cd.ret ?_
    refine thenQ_r ?_
    refine ret1_b rfl ?_
    -- stop: end
    exact ⟨rfl, hS.none⟩
  have hsmX := small_of hR.top.1 (Int.not_lt.1 h1)
  have hfit := fits_of hR.top.1 (by omega) (Int.not_lt.1 h1)
  refine Cd.skip ?_
  refine thenQ_n ?_
  refine Cd.seq ?_
  refine Cd.region ?_
  -- stop: LOAD 31 t1=toArray -> 20
  refine Ops.ld_agg 0 (hS.rd 0 rfl) rfl rfl rfl ?_
  refine Ops.call (toManiplex_c A n c rs xss _ (hS.oldRows hR) hfit) rfl rfl rfl ?_
  rintro _ w3 ⟨A1, rs1, rfl, hrl1, hst1⟩
  refine Ops.call (hS_ A1 n n rs1 _ (St.rowsI (ks := []) (by rwa [List.append_nil]) hxl) hn) rfl rfl rfl ?_
  rintro _ w4 ⟨W0, cW, rsW, rfl, hrW, hst2⟩
  have hS4 := (hS.later hst1.below).call hst2
  refine Ops.mv_tup rfl rfl rfl ?_
  refine Ops.extract rfl rfl rfl ?_
  refine Ops.extract rfl rfl rfl ?_
  -- stop: ALLOC 24 -> 4
  refine Ops.new1 hS4 rfl ?_
  intro A4 w5 hS5
  refine Ops.st_agg 1 0 hS5 rfl rfl rfl rfl rfl rfl rfl ?_
  intro w6 hS6
  have hS6 := (hS6.perm (List.Perm.cons _ (List.perm_append_singleton _ _)) : St w w6 (Bx 24 1 A4 [.slice W0 L.length cW] :: Bx 31 1 Ab [.slice A n c] :: mat 33 2 W0 L.length cW rsW L))
  refine Ops.mv_int rfl rfl rfl ?_
  refine Ops.nil ?_
  refine thenQ_n ?_
  refine Cd.seq ?_
  refine Cd.region ?_
  -- stop: LOAD 31 t1=toArray -> 25
  refine Ops.ld_agg 0 (hS6.rd 1 rfl) rfl rfl rfl ?_
  refine Ops.call (toManiplex_c A n c rs xss _ (hS6.oldRows hR) hfit) rfl rfl rfl ?_
  rintro _ w7 ⟨X, rsX, rfl, hrX, hst3⟩
  have hS7 := hS6.call2 hst3
  refine Ops.new1 hS7 rfl ?_
  intro A6 w8 hS8
  refine Ops.st_agg 1 0 hS8 rfl rfl rfl rfl rfl rfl rfl ?_
  intro w9 hS9
  have hS9 : St w w9 ([Bx 24 1 A6 [.slice X n n], Bx 24 1 A4 [.slice W0 L.length cW], Bx 31 1 Ab [.slice A n c]] ++ (mat 33 2 W0 L.length cW rsW L ++ mat 33 2 X n n rsX xss)) := hS9
  have hX9 : RowsI w9 X n rsX xss := hS9.matAt (c := n) ((List.sublist_append_right _ _).trans (List.sublist_append_right [_, _, _] _)) hxl
  refine Ops.nil ?_
  refine thenQ_n ?_
  refine Cd.seq ?_
  refine Cd.region ?_
  -- stop: LOAD 24 t6 -> 28
  refine Ops.ld_agg 0 (hS9.rd 0 rfl) rfl rfl rfl ?_
  refine Ops.call (hI_ X n n rsX _ hX9 (Nat.le_refl _) hn) rfl rfl rfl ?_
  rintro _ w10 ⟨G, cG, rsG, rfl, hrG, hst4⟩
  have hS10 := hS9.call hst4
  refine Ops.mv_tup rfl rfl rfl ?_
  refine Ops.extract rfl rfl rfl ?_
  refine Ops.extract rfl rfl rfl ?_
  -- stop: ALLOC 24 -> 7
  refine Ops.new1 hS10 rfl ?_
  intro A7 w11 hS11
  refine Ops.st_agg 1 0 hS11 rfl rfl rfl rfl rfl rfl rfl ?_
  intro w12 hS12
  generalize hb1 : Bx 31 1 Ab [.slice A n c] = b1 at *
  generalize hb4 : Bx 24 1 A4 [.slice W0 L.length cW] = b4 at *
  generalize hb6 : Bx 24 1 A6 [.slice X n n] = b6 at *
  obtain ⟨b7, hb7⟩ : ∃ b7, b7 = Bx 24 1 A7 [.slice G L.length cG] := ⟨_, rfl⟩
  have hS12 : St w w12 (b7 :: (mat 33 2 G L.length cG rsG L ++ ([b6, b4, b1] ++ (mat 33 2 W0 L.length cW rsW L ++ mat 33 2 X n n rsX xss)))) := by subst hb7; exact hS12
  have hS12 : St w w12 ([b7, b6, b4, b1] ++ (mat 33 2 G L.length cG rsG L ++ (mat 33 2 X n n rsX xss ++ mat 33 2 W0 L.length cW rsW L))) := hS12.perm (List.Perm.cons _ ((List.perm_append_comm_assoc _ _ _).trans (List.Perm.append_left [b6, b4, b1] (List.Perm.append_left _ List.perm_append_comm))))
  have r7 : ∀ {w' : World} {ks : List Ck}, St w w' (b7 :: ks) → Rd w' A7 1 (fun j => [Value.slice G L.length cG].getD j undef) := fun h => by subst hb7; exact h.rd 0 rfl
  have r6 : ∀ {w' : World} {ks : List Ck}, St w w' (b7 :: b6 :: ks) → Rd w' A6 1 (fun j => [Value.slice X n n].getD j undef) := fun h => by subst hb6; exact h.rd 1 rfl
  have r4 : ∀ {w' : World} {ks : List Ck}, St w w' (b7 :: b6 :: b4 :: ks) → Rd w' A4 1 (fun j => [Value.slice W0 L.length cW].getD j undef) := fun h => by subst hb4; exact h.rd 2 rfl
  have r1 : ∀ {w' : World} {ks : List Ck}, St w w' (b7 :: b6 :: b4 :: b1 :: ks) → Rd w' Ab 1 (fun j => [Value.slice A n c].getD j undef) := fun h => by subst hb1; exact h.rd 3 rfl
  have mGa : ∀ {w' : World} {Y : Mx} {ks : List Ck}, Y.length = L.length → St w w' ([b7, b6, b4, b1] ++ (mat 33 2 G L.length cG rsG Y ++ ks)) → RowsI w' G L.length rsG Y := fun hY h => h.matAt (c := cG) ((List.sublist_append_left _ _).trans (List.sublist_append_right _ _)) hY
  have mWa : ∀ {w' : World} {k1 k2 : List Ck}, St w w' ([b7, b6, b4, b1] ++ (k1 ++ (k2 ++ mat 33 2 W0 L.length cW rsW L))) → RowsI w' W0 L.length rsW L := fun h => h.matAt (c := cW) (((List.sublist_append_right _ _).trans (List.sublist_append_right _ _)).trans (List.sublist_append_right _ _)) rfl
  refine Ops.mv_int rfl rfl rfl ?_
  refine Ops.nil ?_
  refine thenQ_n ?_
  refine Cd.seq ?_
  refine Cd.seq ?_
  refine Cd.region ?_
  -- stop: LOAD 24 t7 -> 32
  refine Ops.ld_agg 0 (r7 hS12) rfl rfl rfl ?_
  refine Ops.ld_agg 0 (r4 hS12) rfl rfl rfl ?_
  skip
  -- stop: CALL laws.eqManiplex(t32, t33) -> 34
  refine Ops.call (eqManiplex_c G _ cG rsG L W0 _ cW rsW L _ (mGa rfl hS12) (mWa hS12) (by omega)) rfl rfl rfl ?_
  rintro _ w13 ⟨rfl, hst13⟩
  have hS13 := hS12.later hst13.below
  first | refine Ops.not_p rfl rfl ?_ | refine Ops.not rfl rfl ?_
  refine Ops.mv_bool rfl rfl rfl ?_
  -- stop: guard 36
  refine Ops.split_p 36 rfl (fun h => absurd rfl h) (fun _ => ?_) --f
  refine Ops.rung rfl rfl rfl ?_
  refine Ops.mv_int rfl rfl rfl ?_
  refine Ops.rung rfl rfl rfl ?_
  refine Ops.mv_int rfl rfl rfl ?_
  refine Ops.rung rfl rfl rfl ?_
  refine Ops.neq rfl rfl rfl ?_
  refine Ops.pick_f rfl rfl rfl ?_
  refine Ops.nil ?_
  refine thenQ_n ?_
  -- stop: cond
  refine Cd.cond_pf rfl (fun h => h rfl) ?_
  have hM13 : RowsI w13 X n rsX xss := hS13.matAt (c := n) (((List.sublist_append_left _ _).trans (List.sublist_append_right _ _)).trans (List.sublist_append_right [b7, b6, b4, b1] _)) hxl
  have hR13 := hS13.oldRows hR
  refine Cd.skip ?_
  refine thenQ_n ?_
  refine Cd.seq ?_
  refine Cd.seq ?_
  -- stop: draw
  refine Cd.draw [.ex (.agg #[.slice (X) (n) (n)]), .ex (.agg #[.slice (A) (n) (c)]), .pr (fun v w' => ∃ D rd, v = .agg #[.slice D n n] ∧ RowsI w' D n rd xss), .ex (.bool (true)), .ex (.bool (false))] (by kernel_rfl) (by kernel_rfl) rfl (List.forall_mem_cons.2 ⟨Yd.lasts_ex _, (List.forall_mem_cons.2 ⟨Yd.lasts_ex _, (List.forall_mem_cons.2 ⟨Yd.lasts_pr (fun v w w' h hb => by obtain ⟨D, rd, hv, h1⟩ := h; exact ⟨D, rd, hv, h1.later hb⟩), (List.forall_mem_cons.2 ⟨Yd.lasts_ex _, (List.forall_mem_cons.2 ⟨Yd.lasts_ex _, (fun _ h => by cases h)⟩)⟩)⟩)⟩)⟩) ⟨?_, ?_, ?_, ?_, ?_, trivial⟩ ?_
  · intro e1 w1 hb hp hun
    refine Ops.ld_agg 0 ((r6 hS13).below hb) rfl rfl rfl ?_
    refine Ops.nil ?_
    exact After.dn (Below.refl _ _) (by exact rfl)
  · intro e1 w1 hb hp hun
    refine Ops.ld_agg 0 ((r1 hS13).below hb) rfl rfl rfl ?_
    refine Ops.nil ?_
    exact After.dn (Below.refl _ _) (by exact rfl)
  · intro e1 w1 hb hp hun
    refine Ops.call (toManiplex_c A n c rs xss _ (hR13.later hb) hfit) rfl rfl rfl ?_
    rintro _ w2 ⟨D, rd, rfl, hrd, hst⟩
    refine Ops.nil ?_
    exact After.dn hst.below ⟨D, rd, rfl, St.rowsI (ks := []) (by rwa [List.append_nil]) hxl⟩
  · intro e1 w1 hb hp hun
    obtain ⟨D, rd, h43, h1⟩ := (hp 2 (by decide) rfl _ _ rfl rfl)
    refine Ops.call (eqManiplex_c X n n rsX xss D n n rd xss _ (hM13.later hb) h1 hn) rfl (by exact congrArg (fun v => [Value.agg #[.slice X n n], v]) h43) rfl ?_
    rintro _ w2 ⟨rfl, hst⟩
    refine Ops.nil ?_
    exact After.dn hst.below (by exact congrArg Value.bool (decide_eq_true rfl))
  · intro e1 w1 hb hp hun
    refine Ops.not rfl rfl ?_
    refine Ops.nil ?_
    exact After.dn (Below.refl _ _) (by exact congrArg Value.bool (rfl))
  intro u w14 hb14 _
  have hS14 := hS13.later hb14
  refine thenQ_n ?_
  -- stop: cond
  refine Cd.cond_f rfl ?_
  refine Cd.skip ?_
  refine thenQ_n ?_
  refine Cd.seq ?_
  refine Cd.region ?_
  refine Ops.mv_int rfl rfl rfl ?_
  refine Ops.nil ?_
  refine thenQ_n ?_
  refine Cd.seq ?_
  refine Cd.region ?_
  -- stop: LOAD 24 t6 -> 46
  refine Ops.ld_agg 0 (r6 hS14) rfl rfl rfl ?_
  refine Ops.mv_int rfl rfl rfl ?_
  -- stop: CALL laws.markManiplex(t46, t47) -> 48
  refine Ops.call (markManiplex_c (pre := [b7, b6, b4, b1] ++ mat 33 2 G L.length cG rsG L) (post := mat 33 2 W0 L.length cW rsW L) (rs := rsX) (xss := xss) 1 (by rw [List.append_assoc]; exact hS14) hrX hxl hsmX.1 (fun i hi => ?_) (by omega)) rfl rfl rfl ?_
  · have := (hM13.row i hi).1
    have h2 := (hR.row i hi).1
    have h3 := hsmX.2 i hi
    omega
  rintro _ w15 ⟨K1, ys, rfl, hK1, hyl, hS15⟩
  rw [List.append_assoc] at hS15
  refine Ops.mv_int rfl rfl rfl ?_
  refine Ops.nil ?_
  refine thenQ_n ?_
  refine Cd.seq ?_
  refine Cd.seq ?_
  refine Cd.region ?_
  refine Ops.mv_int rfl rfl rfl ?_
  refine Ops.lss rfl rfl rfl ?_
  refine Ops.mv_bool rfl rfl rfl ?_
  -- stop: guard 51
  refine Ops.split_p 51 rfl (fun h => absurd h (by omega)) (fun _ => ?_) --f
  refine Ops.rung rfl rfl rfl ?_
  -- stop: LOAD 24 t7 -> 52
  refine Ops.ld_agg 0 (r7 hS15) rfl rfl rfl ?_
  refine Ops.rung rfl rfl rfl ?_
  -- stop: LOAD 24 t4 -> 53
  refine Ops.ld_agg 0 (r4 hS15) rfl rfl rfl ?_
  refine Ops.rung rfl rfl rfl ?_
  -- stop: CALL laws.eqManiplex(t52, t53) -> 54
  refine Ops.call (eqManiplex_c G _ cG rsG L W0 _ cW rsW L _ (mGa rfl hS15) (mWa hS15) (by omega)) rfl rfl rfl ?_
  rintro _ w16 ⟨rfl, hst16⟩
  have hS16 := hS15.later hst16.below
  refine Ops.rung rfl rfl rfl ?_
  first | refine Ops.not_p rfl rfl ?_ | refine Ops.not rfl rfl ?_
  refine Ops.pick_f rfl rfl rfl ?_
  refine Ops.mv_bool rfl rfl rfl ?_
  -- stop: guard 57
  refine Ops.split_p 57 rfl (fun h => absurd rfl h) (fun _ => ?_) --f
  refine Ops.rung rfl rfl rfl ?_
  refine Ops.mv_int rfl rfl rfl ?_
  refine Ops.rung rfl rfl rfl ?_
  refine Ops.mv_int rfl rfl rfl ?_
  refine Ops.rung rfl rfl rfl ?_
  refine Ops.neq rfl rfl rfl ?_
  refine Ops.pick_f rfl rfl rfl ?_
  refine Ops.nil ?_
  refine thenQ_n ?_
  -- stop: cond
  refine Cd.cond_pf rfl (fun h => h rfl) ?_
  refine Cd.skip ?_
  refine thenQ_n ?_
  refine Cd.seq ?_
  refine Cd.region ?_
  refine Ops.mv_int rfl rfl rfl ?_
  refine Ops.nil ?_
  refine thenQ_n ?_
  refine Cd.seq ?_
  refine Cd.region ?_
  -- stop: LOAD 24 t7 -> 62
  refine Ops.ld_agg 0 (r7 hS16) rfl rfl rfl ?_
  refine Ops.mv_int rfl rfl rfl ?_
  -- stop: CALL laws.markManiplex(t62, t63) -> 64
  refine Ops.call (markMx_c (rs := rsG) (pre := [b7, b6, b4, b1]) (post := mat 33 2 X n n rsX ys ++ mat 33 2 W0 L.length cW rsW L) 1 hS16 hrG rfl (by omega) hr1000 (by omega)) rfl rfl rfl ?_
  rintro _ w17 ⟨rfl, hS17⟩
  refine Ops.mv_int rfl rfl rfl ?_
  refine Ops.nil ?_
  refine thenQ_n ?_
  refine Cd.seq ?_
  refine Cd.region ?_
  refine Ops.mv_int rfl rfl rfl ?_
  refine Ops.nil ?_
  refine thenQ_n ?_
  refine Cd.seq ?_
  refine Cd.region ?_
  -- stop: LOAD 24 t7 -> 65
  refine Ops.ld_agg 0 (r7 hS17) rfl rfl rfl ?_
  refine Ops.mv_int rfl rfl rfl ?_
  -- stop: CALL laws.heldManiplex(t65, t66) -> 67
  refine Ops.call (heldMx_c G _ cG rsG L 1 _ (mGa (mkSS_len _ _) hS17) (by omega) hr1000 (by omega)) rfl rfl rfl ?_
  rintro _ w18 ⟨rfl, hst18⟩
  have hS18 := hS17.later hst18.below
  refine Ops.mv_int rfl rfl rfl ?_
  refine Ops.nil ?_
  refine thenQ_n ?_
  refine Cd.seq ?_
  refine Cd.seq ?_
  refine Cd.region ?_
  refine Ops.mv_int rfl rfl rfl ?_
  refine Ops.lss rfl rfl rfl ?_
  refine Ops.nil ?_
  refine thenQ_n ?_
  -- stop: cond
  refine Cd.cond_pf rfl (by omega) ?_
  refine Cd.skip ?_
  refine thenQ_n ?_
  refine Cd.seq ?_
  refine Cd.seq ?_
  refine Cd.region ?_
  refine Ops.mv_int rfl rfl rfl ?_
  refine Ops.mv_int rfl rfl rfl ?_
  refine Ops.neq rfl rfl rfl ?_
  refine Ops.nil ?_
  refine thenQ_n ?_
  -- stop: cond
  refine Cd.cond_pf rfl (fun h => h rfl) ?_
  refine Cd.skip ?_
  refine thenQ_n ?_
  refine Cd.seq ?_
  refine Cd.region ?_
  -- stop: LOAD 31 t1=toArray -> 74
  refine Ops.ld_agg 0 (r1 hS18) rfl rfl rfl ?_
  refine Ops.call (toManiplex_c A n c rs xss _ (hS18.oldRows hR) hfit) rfl rfl rfl ?_
  rintro _ w19 ⟨A8, rs8, rfl, hrl8, hst19⟩
  refine Ops.call (hI_ A8 n n rs8 _ (St.rowsI (ks := []) (by rwa [List.append_nil]) hxl) (Nat.le_refl _) hn) rfl rfl rfl ?_
  rintro _ w20 ⟨H, cH, rsH, rfl, hrH, hst20⟩
  have hS20 := (hS18.later hst19.below).call hst20
  refine Ops.mv_tup rfl rfl rfl ?_
  refine Ops.extract rfl rfl rfl ?_
  refine Ops.extract rfl rfl rfl ?_
  -- stop: ALLOC 24 -> 12
  refine Ops.new1 hS20 rfl ?_
  intro A12 w21 hS21
  refine Ops.st_agg 1 0 hS21 rfl rfl rfl rfl rfl rfl rfl ?_
  intro w22 hS22
  have hS22 : St w w22 (Bx 24 1 A12 [.slice H L.length cH] :: (mat 33 2 H L.length cH rsH L ++ ([b7, b6, b4, b1] ++ (mat 33 2 G L.length cG rsG (mkSS 1 L) ++ (mat 33 2 X n n rsX ys ++ mat 33 2 W0 L.length cW rsW L))))) := hS22
  have t22 := fun {w' : World} (h : St w w' (Bx 24 1 A12 [.slice H L.length cH] :: (mat 33 2 H L.length cH rsH L ++ ([b7, b6, b4, b1] ++ (mat 33 2 G L.length cG rsG (mkSS 1 L) ++ (mat 33 2 X n n rsX ys ++ mat 33 2 W0 L.length cW rsW L)))))) => h.sub ((List.sublist_append_right _ _).trans (List.sublist_cons_self _ _))
  have m22 : RowsI w22 H L.length rsH L := hS22.matAt (c := cH) ((List.sublist_append_left _ _).trans (List.sublist_cons_self _ _)) rfl
  refine Ops.mv_int rfl rfl rfl ?_
  refine Ops.nil ?_
  refine thenQ_n ?_
  refine Cd.seq ?_
  refine Cd.seq ?_
  refine Cd.region ?_
  -- stop: LOAD 24 t12 -> 79
  refine Ops.ld_agg 0 (hS22.rd 0 rfl) rfl rfl rfl ?_
  refine Ops.ld_agg 0 (r4 (t22 hS22)) rfl rfl rfl ?_
  skip
  -- stop: CALL laws.eqManiplex(t79, t80) -> 81
  refine Ops.call (eqManiplex_c H _ cH rsH L W0 _ cW rsW L _ m22 (mWa (t22 hS22)) (by omega)) rfl rfl rfl ?_
  rintro _ w23 ⟨rfl, hst23⟩
  have hS23 := hS22.later hst23.below
  first | refine Ops.not_p rfl rfl ?_ | refine Ops.not rfl rfl ?_
  refine Ops.mv_bool rfl rfl rfl ?_
  -- stop: guard 83
  refine Ops.split_p 83 rfl (fun h => absurd rfl h) (fun _ => ?_) --f
  refine Ops.rung rfl rfl rfl ?_
  refine Ops.mv_int rfl rfl rfl ?_
  refine Ops.rung rfl rfl rfl ?_
  refine Ops.mv_int rfl rfl rfl ?_
  refine Ops.rung rfl rfl rfl ?_
  refine Ops.neq rfl rfl rfl ?_
  refine Ops.pick_f rfl rfl rfl ?_
  refine Ops.nil ?_
  refine thenQ_n ?_
  -- stop: cond
  refine Cd.cond_pf rfl (fun h => h rfl) ?_
  refine Cd.skip ?_
  refine thenQ_n ?_
  refine Cd.seq ?_
  refine Cd.region ?_
  refine Ops.mv_int rfl rfl rfl ?_
  refine Ops.nil ?_
  refine thenQ_n ?_
  refine Cd.seq ?_
  refine Cd.region ?_
  -- stop: LOAD 24 t7 -> 88
  refine Ops.ld_agg 0 (r7 (t22 hS23)) rfl rfl rfl ?_
  refine Ops.mv_int rfl rfl rfl ?_
  -- stop: CALL laws.heldManiplex(t88, t89) -> 90
  refine Ops.call (heldMx_c G _ cG rsG L 1 _ (mGa (mkSS_len _ _) (t22 hS23)) (by omega) hr1000 (by omega)) rfl rfl rfl ?_
  rintro _ w24 ⟨rfl, hst24⟩
  have hS24 := hS23.later hst24.below
  refine Ops.mv_int rfl rfl rfl ?_
  refine Ops.nil ?_
  refine thenQ_n ?_
  refine Cd.seq ?_
  refine Cd.seq ?_
  refine Cd.region ?_
  refine Ops.mv_int rfl rfl rfl ?_
  refine Ops.lss rfl rfl rfl ?_
  refine Ops.nil ?_
  refine thenQ_n ?_
  -- stop: cond
  refine Cd.cond_pf rfl (by omega) ?_
  refine Cd.skip ?_
  refine thenQ_n ?_
  refine Cd.seq ?_
  refine Cd.seq ?_
  refine Cd.region ?_
  refine Ops.mv_int rfl rfl rfl ?_
  refine Ops.mv_int rfl rfl rfl ?_
  refine Ops.neq rfl rfl rfl ?_
  refine Ops.nil ?_
  refine thenQ_n ?_
  -- stop: cond
  refine Cd.cond_pf rfl (fun h => h rfl) ?_
  refine Cd.skip ?_
  refine thenQ_n ?_
  refine Cd.seq ?_
  refine Cd.region ?_
  refine Ops.mv_bool rfl rfl rfl ?_
  refine Ops.nil ?_
  refine thenQ_n ?_
  refine Cd.ret ?_
  refine ret1_b rfl ?_
  -- stop: end
  exact ⟨rfl, hS24.none⟩
end Go.Proofs.Ytgobjpcankaicaa.Vc
/-
  A statement's frame: the arguments opened, and what a walk gives told in the statement's own words. Conditions: as each states them.
-/
namespace Go.Proofs.Ytgobjpcankaicaa.Vc
open Go.RowKit Go.ChangeShapes Go.WideShapes

theorem laid : laidOutB Try.prog = true := by kernel_rfl
theorem own : ownKnob Try.prog.godebug = none := by kernel_rfl

section
variable {H : Type} {enc : TypeId × Value → H} {P : Program}
theorem open_mat {w : World} {t e q : TypeId} {fuel : Nat} {cs : List Value} {x : DataW H × List MemPlace} (ht : P.underlying t = some (.slice e)) (he : P.underlying e = some (.slice q)) (hq : P.underlying q = some (.int .i64)) (ce : P.cellsOf e = 1) (cq : P.cellsOf q = 1)
    (h : DataW.trod enc P w 0 (fun _ => true) true fuel t cs = some x) : ∃ A n c rs xss, cs = [.slice A n c] ∧ RowsI w A n rs xss ∧ n ≤ c ∧ c ≤ 9223372036854775807 := by
  rcases Go.Deep.open_int_rows ht he hq ce cq h with ⟨rfl, _⟩ | ⟨a, len, cap, A, L, C, Z, rfl, _, hl, hm, _, hc⟩
  · exact ⟨none, 0, 0, [], [], rfl, RowsI.nil w, Nat.le_refl _, by omega⟩
  · refine ⟨some a, len, cap, (List.range len).map fun r => ⟨A r, L r, C r⟩, (List.range len).map fun r => (Z r).take (L r), rfl, ⟨⟨by simp, fun k hk => ?_⟩, by simp, fun i hi => ?_, fun i hi => ?_⟩, hl, by simpa [maxLen] using hm⟩
    · have := (hc k (by omega)).1
      exact ⟨a.add k, rfl, by rw [this]; simp [List.getD_eq_getElem?_getD, hk, SlV.v]⟩
    · have h1 := hc i (by omega)
      have e1 : ((List.range len).map fun r => (⟨A r, L r, C r⟩ : SlV)).getD i slNil = ⟨A i, L i, C i⟩ := by simp [List.getD_eq_getElem?_getD, hi]
      have e2 : ((List.range len).map fun r => (Z r).take (L r)).getD i [] = (Z i).take (L i) := by simp [List.getD_eq_getElem?_getD, hi]
      rw [e1, e2]
      refine ⟨by simp; omega, fun k hk => ?_⟩
      have hk' : k < L i := hk
      cases hA : A i with
      | none => have := h1.2.2.2.2.2.1 hA; omega
      | some a' =>
        have h2 := (h1.2.2.2.2.2.2 a' hA).2 k (by omega)
        exact ⟨a'.add k, rfl, by rw [h2]; simp [List.getD_eq_getElem?_getD, List.getElem?_take, hk']⟩
    · have h1 := hc i (by omega)
      have e1 : ((List.range len).map fun r => (⟨A r, L r, C r⟩ : SlV)).getD i slNil = ⟨A i, L i, C i⟩ := by simp [List.getD_eq_getElem?_getD, hi]
      rw [e1]
      exact ⟨h1.2.1, h1.2.2.1⟩

theorem trodAll_stays (hl : laidOutB P = true) {W W' : World} (hb : Below W.heap.size W W') {sp : Nat → Bool} : ∀ {ts : List TypeId} {vs : List Value} {ds : List (DataW H)} {ps : List MemPlace}, (ts.all fun t => P.readableRec t && Nat.blt t P.types.size) = true → (∀ p ∈ ps, p.block < W.heap.size) → (∀ p ∈ ps, sp p.block = true) →
    DataW.TrodAll enc P W 0 (fun _ => true) true ts vs ds ps → DataW.TrodAll enc P W' 0 sp true ts vs ds ps
  | [], [], [], _, _, _, _, h => h
  | t :: ts, v :: vs, d :: ds, ps, hr, hlt, hsp, h => by
    obtain ⟨p, q, h1, h2, rfl⟩ := h
    simp only [List.all_cons, Bool.and_eq_true] at hr
    exact ⟨p, q, WideElems.Trod_stays hl hr.1.1 (by simpa [Nat.blt_eq] using hr.1.2) h1 (fun x hx => hb.same (hlt x (by simp [hx]))) (fun x hx => hsp x (by simp [hx])), trodAll_stays hl hb hr.2 (fun x hx => hlt x (by simp [hx])) (fun x hx => hsp x (by simp [hx])) h2, rfl⟩
  | [], [], _ :: _, _, _, _, _, h => h.elim
  | [], _ :: _, _, _, _, _, _, h => by cases h
  | _ :: _, [], _, _, _, _, _, h => by cases h
  | _ :: _, _ :: _, [], _, _, _, _, h => by cases h

/-- what a law's walk gives, in its statement's words: it returns true, and its arguments read as they did -/
theorem post_law {f : Func} {s : ChangeSpec} {apart : Bool} {W W' : World} {args : Array Value} {ds gs : List (DataW H)} {before : List MemPlace} (hl : laidOutB P = true) {b : TypeId} (hu : P.underlying b = some .bool) (hres : f.resultTypes = #[b]) (hv : s.vars = [])
    (hr : (f.params.toList.all fun t => P.readableRec t && Nat.blt t P.types.size) = true) (hfn : (s.fn H (ds ++ gs)).results = [.lit (.bool true)] ∧ (s.fn H (ds ++ gs)).args = ds ∧ (s.fn H (ds ++ gs)).vars = [])
    (hW : DataW.Whole enc P f.params.toList s.vars apart W args.toList ds gs before) (hb : Below W.heap.size W W') : s.post enc P f apart true false false W args (.bool true) W' := by
  have hlt : ∀ x ∈ before, x.block < W.heap.size := fun x hx => hW.lt x hx
  have hW0 := hW
  obtain ⟨p, q, hA, hV, rfl, hz, hn⟩ := hW
  rw [hv] at hV
  obtain ⟨rfl, rfl⟩ := trodVars_none hV
  have hlp : ∀ x ∈ p, x.block < W.heap.size := fun x hx => hlt x (by simp [hx])
  have hA' : ∀ sp : Nat → Bool, (∀ x ∈ p, sp x.block = true) → DataW.TrodAll enc P W' 0 sp true f.params.toList args.toList (s.fn H (ds ++ [])).args p := fun sp hsp => by
    rw [hfn.2.1]
    exact trodAll_stays hl hb hr hlp hsp hA
  have hR' : ∀ (b0 : Nat) (sp : Nat → Bool) (hd : Bool), DataW.TrodAll enc P W' b0 sp hd f.resultTypes.toList ((Value.bool true).resultList f.resultTypes.size) (s.fn H (ds ++ [])).results [] := fun b0 sp hd => by
    rw [hfn.1, hres]
    exact trodAll_cons_mk (shut_bool hu _) trodAll_mk0
  have hV' : ∀ sp : Nat → Bool, DataW.TrodVars enc P W' sp s.vars (s.fn H (ds ++ [])).vars [] := fun sp => by
    rw [hfn.2.2, hv]; rfl
  refine ⟨ds, [], p ++ [], [], p, [], hW0, hR' _ _ _, hA' _ (fun x hx => by simpa using hlp x hx), hV' _, World.keptBut_mono (fun x hx => ⟨hx, by simpa using hx⟩) (hb.frame (· ∈ p ++ [])), fun _ => ⟨fun j t r h1 h2 => ?_, _, _, ([] ++ p) ++ [], ⟨[] ++ p, [], trodAll_append (hA' _ fun _ _ => rfl) (hR' _ _ _), hV' _, rfl, fun c off hc => ?_, fun ha => by simpa using hn ha⟩, fun x hx _ => by simpa using hx⟩⟩
  · rw [hres] at h1 h2
    cases j with
    | zero =>
      simp at h1
      subst h1
      simp [Value.resultList] at h2
      subst h2
      exact okWide_bool_mk hu _
    | succ j => simp at h1
  · have hin : MemPlace.cell c off ∈ p ++ [] := by simpa using hc
    rw [hb.frozen (hlt _ hin)]
    exact hz c off hin
end
end Go.Proofs.Ytgobjpcankaicaa.Vc
/-
  Arguments opened: a struct of one matrix, a list of integers. Conditions: as each states them.
-/
namespace Go.Proofs.Ytgobjpcankaicaa.Vc
open Go.RowKit Go.ChangeShapes Go.WideShapes

section
variable {H : Type} {enc : TypeId × Value → H} {P : Program}
theorem open_man {w : World} {r : Go.Reach} {b0 : Nat} {t e q : TypeId} {f0 : Field} {v : Value} {d : DataW H} {p : List MemPlace} (hs : P.underlying t = some (.struct #[f0])) (hf0 : f0.offset = 0) (ht : P.underlying f0.type = some (.slice e)) (he : P.underlying e = some (.slice q)) (hq : P.underlying q = some (.int .i64)) (ce : P.cellsOf e = 1) (cq : P.cellsOf q = 1) (cm : P.cellsOf f0.type = 1) (cc : P.cellsOf t = 1)
    (hval : Value.okWide P w r b0 t v) (h : DataW.Trod enc P w 0 (fun _ => true) true t v d p) : ∃ A n c rs xss, v = .agg #[.slice A n c] ∧ RowsI w A n rs xss ∧ n ≤ c ∧ c ≤ 9223372036854775807 := by
  obtain ⟨cs, rfl, hsz⟩ := okWide_struct hs hval
  obtain ⟨fuel, hf⟩ := h
  obtain ⟨z0, m0, _, _, hz0⟩ := trod_struct1 hs hf
  obtain ⟨A, n, c, rs, xss, e1, hR, hn, hc⟩ := open_mat ht he hq ce cq hz0
  refine ⟨A, n, c, rs, xss, ?_, hR, hn, hc⟩
  have hl : cs.toList.length = 1 := by rw [Array.length_toList, hsz, cc]
  have e1 : (cs.toList.drop f0.offset).take (P.cellsOf f0.type) = [Value.slice A n c] := e1
  rw [hf0, cm, List.drop_zero, List.take_of_length_le (by omega)] at e1
  congr 1
  exact Array.ext' (by rw [e1])

theorem open_row {w : World} {r : Go.Reach} {b0 : Nat} {t e : TypeId} {v : Value} {d : DataW H} {p : List MemPlace} (ht : P.underlying t = some (.slice e)) (he : P.underlying e = some (.int .i64)) (ce : P.cellsOf e = 1)
    (hval : Value.okWide P w r b0 t v) (h : DataW.Trod enc P w 0 (fun _ => true) true t v d p) : ∃ A n c xs, v = .slice A n c ∧ RdI w A n xs ∧ n ≤ c ∧ c ≤ 9223372036854775807 := by
  obtain ⟨a, len, cap, rfl⟩ := okWide_slice ht hval
  obtain ⟨fuel, hf⟩ := h
  have hcs : (Value.slice a len cap).cells.toList = [Value.slice a len cap] := rfl
  rw [hcs] at hf
  rcases open_ints ht he ce hf with ⟨h1, _⟩ | ⟨b, n, c, zs, h1, _, hl, hm, hz, _, hc, _⟩
  · simp only [List.cons.injEq, and_true] at h1
    exact ⟨none, 0, 0, [], h1, RdI.nil, Nat.le_refl _, by omega⟩
  · simp only [List.cons.injEq, and_true] at h1
    refine ⟨some b, n, c, zs.take n, h1, ⟨?_, fun k hk => ?_⟩, hl, by simpa [maxLen] using hm⟩
    · rw [if_pos rfl] at hz; simp; omega
    · rw [if_pos rfl] at hz
      refine ⟨b.add k, rfl, ?_⟩
      rw [hc k (by omega)]
      simp [List.getD_eq_getElem?_getD, List.getElem?_take, hk]
end
end Go.Proofs.Ytgobjpcankaicaa.Vc
