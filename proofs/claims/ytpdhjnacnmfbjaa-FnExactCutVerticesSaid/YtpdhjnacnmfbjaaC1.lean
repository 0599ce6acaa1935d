/-
  The walks of the reference's runs of a word over flags, and of the lengths of a word. Conditions: as each states them.
-/
import Derived.Test.YtpdhjnacnmfbjaaCyc
import Derived.Test.YtpdhjnacnmfbjaaB5
import Derived.Test.YtpdhjnacnmfbjaaDrn
namespace Go.Proofs.Ytpdhjnacnmfbjaa.Vc
open Go.RowKit

/-- where a word leads from x -/
def runW (xss : List (List Int)) (x : Int) (ws : List Int) : Int := ws.foldl (fun x i => gi (gl xss i) x) x
/-- what a word does -/
def doesL (xss : List (List Int)) (F : Nat) (ws : List Int) : List Int := (List.range F).map fun x : Nat => runW xss (x : Int) ws
theorem runW_take {xss : List (List Int)} {x : Int} {ws : List Int} {k : Nat} (hk : k < ws.length) : runW xss x (ws.take (k + 1)) = gi (gl xss (gi ws k)) (runW xss x (ws.take k)) := by
  unfold runW
  rw [List.take_succ_eq_append_getElem hk, List.foldl_append]
  simp [gi, List.getD_eq_getElem?_getD, List.getElem?_eq_getElem hk]
theorem runW_lt {F : Nat} {xss : List (List Int)} (hs : Sys F xss) : ∀ (ws : List Int) (x : Int), (∀ i ∈ ws, 0 ≤ i ∧ i < xss.length) → 0 ≤ x → x < F → 0 ≤ runW xss x ws ∧ runW xss x ws < F
  | [], _, _, h0, h1 => ⟨h0, h1⟩
  | i :: ws, x, hw, h0, h1 => by
    have hi := hw i (by simp)
    have hg := (hs _ (gl_in hi.1 hi.2)).2 x h0 h1
    exact runW_lt hs ws _ (fun j hj => hw j (by simp [hj])) hg.1 hg.2
theorem gi_does {xss : List (List Int)} {F : Nat} {ws : List Int} {x : Int} (h0 : 0 ≤ x) (hx : x < F) : gi (doesL xss F ws) x = runW xss x ws := by
  have h : x.toNat < F := by omega
  have e : ((x.toNat : Nat) : Int) = x := by omega
  simp [gi, doesL, List.getD_eq_getElem?_getD, h, e]
theorem mem_gi {l : List Int} {a b : Int} (h : ∀ k : Nat, k < l.length → a ≤ gi l k ∧ gi l k < b) : ∀ i ∈ l, a ≤ i ∧ i < b := fun i hi => by
  obtain ⟨k, hk, rfl⟩ := List.mem_iff_getElem.1 hi
  have := h k hk
  simpa [gi, List.getD_eq_getElem?_getD, List.getElem?_eq_getElem hk] using this
theorem does_lt {F : Nat} {xss : List (List Int)} (hs : Sys F xss) {ws : List Int} (hw : ∀ i ∈ ws, 0 ≤ i ∧ i < xss.length) {x : Nat} (hx : x < F) : 0 ≤ gi (doesL xss F ws) x ∧ gi (doesL xss F ws) x < F := by
  rw [gi_does (by omega) (by omega)]
  exact runW_lt hs ws _ hw (by omega) (by omega)

/-- rows of two kinds of elements lie apart -/
theorem St.beside {w0 w : World} {k : Ck} {ks : List Ck} (h1 : St w0 w ks) (h2 : St w0 w [k]) (he : ∀ k' ∈ ks, k'.e ≠ k.e) : St w0 w (k :: ks) := by
  refine ⟨h1.below, fun x hx => ?_, ?_⟩
  · rcases List.mem_cons.1 hx with rfl | hx
    · exact h2.own _ (by simp)
    · exact h1.own _ hx
  · rw [List.filterMap_cons]
    split
    · exact h1.apart
    · rename_i g hg
      rw [List.nodup_cons]
      refine ⟨fun hm => ?_, h1.apart⟩
      obtain ⟨k', hk', hg'⟩ := List.mem_filterMap.1 hm
      have o1 := h2.own k (by simp)
      have o2 := h1.own k' hk'
      have find : ∀ {k : Ck}, Own w0.heap.size w k → k.blk = some g → ∃ cur, w.heap[g]? = some (.cells cur k.e (0, 0)) := fun {k} o hb => by
        obtain ⟨_, _, _, h4⟩ := o
        rcases h4 with ⟨h0, _⟩ | ⟨g', o, cur, hA, _, hh, _⟩
        · simp [Ck.blk, h0] at hb
        · simp [Ck.blk, hA] at hb
          subst hb
          exact ⟨cur, hh⟩
      obtain ⟨c1, e1⟩ := find o1 hg
      obtain ⟨c2, e2⟩ := find o2 hg'
      rw [e1] at e2
      simp only [Option.some.injEq, Obj.cells.injEq] at e2
      exact he k' hk' e2.2.1.symm

/-- a maniplex with edges -/
def Grph (xss : List (List Int)) : Prop := Mani xss ∧ 2 ≤ xss.length
instance (xss : List (List Int)) : Decidable (Grph xss) := by unfold Grph; exact inferInstance

theorem l18Is_c (A : Option Addr) (n c : Nat) (rs : List SlV) (xss : List (List Int)) (w : World) (hR : RowsI w A n rs xss) (hn : n ≤ 9223372036854775807) :
    Ret Try.prog 61 [.agg #[.slice A n c]] w (fun v w' => v = .bool (decide (Grph xss)) ∧ St w w' []) := by
  have hl := hR.len
  refine Ret.of_cd Try.func61 rfl Try.ntmps61 rfl (post1 rfl) ?_
  refine Cd.seq ?_
  refine Cd.region ?_
  -- stop: BOX 32 t0=m -> 1
  refine Ops.box1 (St.refl w) rfl rfl ?_
  intro Ab w1 hS
  refine Ops.mv_bool rfl rfl rfl ?_
  refine Ops.nil ?_
  refine thenQ_n ?_
  refine Cd.seq ?_
  refine Cd.region ?_
  -- stop: LOAD 32 t1=m -> 3
  refine Ops.ld_agg 0 (hS.rd 0 rfl) rfl rfl rfl ?_
  refine Ops.call (l02Is_c A n c rs xss _ (hS.oldRows hR) hn) rfl rfl rfl ?_
  rintro _ w2 ⟨rfl, hst⟩
  have hS := hS.later hst.below
  refine Ops.mv_bool rfl rfl rfl ?_
  -- stop: guard 5
  refine Ops.split_p 5 rfl (fun h => ?_) (fun h => ?_)
  · refine Ops.rung rfl rfl rfl ?_
    -- stop: FIELDADDR 32 t1=m 0 -> 6
    refine Ops.fld (hS.rd 0 rfl) rfl rfl rfl rfl inferInstance ?_
    refine Ops.rung rfl rfl rfl ?_
    -- stop: LOAD 25 t6 -> 7
    refine Ops.ldf_s (hS.rd 0 rfl) rfl rfl rfl rfl rfl ?_
    refine Ops.rung rfl rfl rfl ?_
    refine Ops.len rfl rfl ?_
    refine Ops.rung rfl rfl rfl ?_
    refine Ops.geq rfl rfl rfl ?_
    refine Ops.pick_t rfl rfl rfl ?_
    refine Ops.mv_bool rfl rfl rfl ?_
    refine Ops.nil ?_
    refine thenQ_n ?_
    refine Cd.ret ?_
    refine ret1_b rfl ?_
    -- stop: end
    exact ⟨by simp [Grph, h, hl]; omega, hS.none⟩
  · refine Ops.skipg rfl rfl rfl rfl rfl ?_
    refine Ops.skipg rfl rfl rfl rfl rfl ?_
    refine Ops.skipg rfl rfl rfl rfl rfl ?_
    refine Ops.skipg rfl rfl rfl rfl rfl ?_
    refine Ops.pick_f rfl rfl rfl ?_
    refine Ops.mv_bool rfl rfl rfl ?_
    refine Ops.nil ?_
    refine thenQ_n ?_
    refine Cd.ret ?_
    refine ret1_b rfl ?_
    -- stop: end
    exact ⟨by simp [Grph, h], hS.none⟩

theorem l02Flags_c (A : Option Addr) (n c : Nat) (rs : List SlV) (xss : List (List Int)) (w : World) (hR : RowsI w A n rs xss) (hn : 0 < n) :
    Ret Try.prog 99 [.agg #[.slice A n c]] w (fun v w' => v = .int .i64 ((gl xss 0).length : Int) ∧ St w w' []) := by
  refine Ret.of_cd Try.func99 rfl Try.ntmps99 rfl (post1 rfl) ?_
  refine Cd.seq ?_
  refine Cd.region ?_
  -- stop: BOX 32 t0=m -> 1
  refine Ops.box1 (St.refl w) rfl rfl ?_
  intro Ab w1 hS
  have hR1 := hS.oldRows hR
  have e0 : (gl xss 0).length = (rg rs 0).n := hR.rowLen (by omega) (by omega)
  refine Ops.mv_int rfl rfl rfl ?_
  refine Ops.nil ?_
  refine thenQ_n ?_
  refine Cd.seq ?_
  refine Cd.region ?_
  -- stop: FIELDADDR 32 t1=m 0 -> 3
  refine Ops.fld (hS.rd 0 rfl) rfl rfl rfl rfl inferInstance ?_
  refine Ops.ldf_s (hS.rd 0 rfl) rfl rfl rfl rfl rfl ?_
  refine Ops.idx hR1.top.2 rfl rfl rfl (by omega) (by omega) ?_
  refine Ops.ld_sl hR1.top rfl (by omega) rfl rfl ?_
  refine Ops.len rfl rfl ?_
  refine Ops.mv_int rfl rfl rfl ?_
  refine Ops.nil ?_
  refine thenQ_n ?_
  refine Cd.ret ?_
  refine ret1_i rfl ?_
  -- stop: end
  exact ⟨by rw [e0], hS.none⟩

theorem l02Run_c (A : Option Addr) (n c : Nat) (rs : List SlV) (xss : List (List Int)) (F : Nat) (x : Int) (Aw : Option Addr) (nw cw : Nat) (ws : List Int) (w : World) (hR : RowsI w A n rs xss) (hs : Sys F xss) (hW : RdI w Aw nw ws) (hnw : nw ≤ 9223372036854775807) (hw : ∀ k : Nat, k < nw → 0 ≤ gi ws k ∧ gi ws k < n) (h0 : 0 ≤ x) (hx : x < F) :
    Ret Try.prog 100 [.agg #[.slice A n c], .int .i64 x, .slice Aw nw cw] w (fun v w' => v = .int .i64 (runW xss x ws) ∧ St w w' []) := by
  have hl := hR.len
  have hwl := hW.1
  refine Ret.of_cd Try.func100 rfl Try.ntmps100 rfl (post1 rfl) ?_
  refine Cd.seq ?_
  refine Cd.region ?_
  -- stop: BOX 32 t0=m -> 3
  refine Ops.box1 (St.refl w) rfl rfl ?_
  intro Ab w1 hS
  refine Ops.mv_int rfl rfl rfl ?_
  refine Ops.nil ?_
  refine thenQ_n ?_
  refine Cd.seq ?_
  refine Cd.seq ?_
  refine Cd.region ?_
  refine Ops.mv_int rfl rfl rfl ?_
  refine Ops.nil ?_
  refine thenQ_n ?_
  refine Cd.block ?_
  -- stop: loop
  refine Cd.loop (α := Nat) (fun k => [(1, .int .i64 (runW xss x (ws.take k))), (2, .slice Aw nw cw), (3, .pointer Ab), (7, .int .i64 (k : Int))]) (fun k w' => St w w' [Bx 32 1 Ab [.slice A n c]] ∧ k ≤ nw) (fun k => nw - k) 0 ⟨rfl, rfl, rfl, rfl, trivial⟩ ⟨hS, Nat.zero_le _⟩ ?_
  rintro k e w2 ⟨hS2, hk⟩
  refine Cd.seq ?_
  refine Cd.seq ?_
  refine Cd.region ?_
  refine Ops.mv_int rfl rfl rfl ?_
  refine Ops.mv_sl rfl rfl rfl ?_
  refine Ops.len rfl rfl ?_
  refine Ops.lss rfl rfl rfl ?_
  refine Ops.nil ?_
  refine thenQ_n ?_
  -- stop: cond
  refine Cd.cond_p _ rfl (fun h1 => ?_) (fun h1 => ?_)
  · have hk' : k < nw := by omega
    have hR2 := hS2.oldRows hR
    have hW2 := hS2.oldI hW
    have hwk := hw k hk'
    have hrow := hR2.at_ (i := gi ws k) hwk.1 hwk.2
    have hlt := runW_lt hs (ws.take k) x (fun i hi => by
      have := mem_gi (l := ws) (a := 0) (b := (n : Int)) (fun j hj => hw j (by omega)) i (List.mem_of_mem_take hi)
      omega) h0 hx
    have hrn : (rg rs (gi ws k)).n = F := by
      rw [← hR2.rowLen hwk.1 hwk.2]
      exact (hs _ (gl_in hwk.1 (by omega))).1
    have hstep := runW_take (xss := xss) (x := x) (ws := ws) (k := k) (by omega)
    generalize hy : runW xss x (ws.take k) = y at *
    refine Cd.skip ?_
    refine thenQ_n ?_
    refine Cd.seq ?_
    refine Cd.block ?_
    -- stop: draw
    refine Cd.draw [.ex (.pointer (ptrAt (Ab) 0)), .ex (.slice (A) (n) (c)), .ex (.slice (Aw) (nw) (cw)), .ex (.int .i64 ((k : Int))), .ex (.pointer (ptrAt (Aw) ((k : Int)).toNat)), .ex (.int .i64 (gi (ws) ((k : Int)))), .ex (.pointer (ptrAt (A) (gi (ws) ((k : Int))).toNat)), .ex (.slice ((rg (rs) (gi (ws) ((k : Int)))).a) ((rg (rs) (gi (ws) ((k : Int)))).n) ((rg (rs) (gi (ws) ((k : Int)))).c)), .ex (.int .i64 (y)), .ex (.pointer (ptrAt ((rg (rs) (gi (ws) ((k : Int)))).a) (y).toNat)), .ex (.int .i64 (gi (gl xss (gi ws k)) (y))), .ex (.int .i64 (gi (gl xss (gi ws k)) (y)))] (by kernel_rfl) (by kernel_rfl) rfl (List.forall_mem_cons.2 ⟨Yd.lasts_ex _, (List.forall_mem_cons.2 ⟨Yd.lasts_ex _, (List.forall_mem_cons.2 ⟨Yd.lasts_ex _, (List.forall_mem_cons.2 ⟨Yd.lasts_ex _, (List.forall_mem_cons.2 ⟨Yd.lasts_ex _, (List.forall_mem_cons.2 ⟨Yd.lasts_ex _, (List.forall_mem_cons.2 ⟨Yd.lasts_ex _, (List.forall_mem_cons.2 ⟨Yd.lasts_ex _, (List.forall_mem_cons.2 ⟨Yd.lasts_ex _, (List.forall_mem_cons.2 ⟨Yd.lasts_ex _, (List.forall_mem_cons.2 ⟨Yd.lasts_ex _, (List.forall_mem_cons.2 ⟨Yd.lasts_ex _, (fun _ h => by cases h)⟩)⟩)⟩)⟩)⟩)⟩)⟩)⟩)⟩)⟩)⟩)⟩) ⟨?_, ?_, ?_, ?_, ?_, ?_, ?_, ?_, ?_, ?_, ?_, ?_, trivial⟩ ?_
    · intro e1 w1 hb hp hun
      refine Ops.fld ((hS2.rd 0 rfl).below hb) rfl rfl rfl rfl inferInstance ?_
      refine Ops.nil ?_
      exact After.dn (Below.refl _ _) (by exact rfl)
    · intro e1 w1 hb hp hun
      refine Ops.ldf_s ((hS2.rd 0 rfl).below hb) rfl rfl rfl rfl rfl ?_
      refine Ops.nil ?_
      exact After.dn (Below.refl _ _) (by exact rfl)
    · intro e1 w1 hb hp hun
      refine Ops.mv_sl rfl rfl rfl ?_
      refine Ops.nil ?_
      exact After.dn (Below.refl _ _) (by exact rfl)
    · intro e1 w1 hb hp hun
      refine Ops.mv_int rfl rfl rfl ?_
      refine Ops.nil ?_
      exact After.dn (Below.refl _ _) (by exact rfl)
    · intro e1 w1 hb hp hun
      refine Ops.idx (hW2.later hb).2 rfl rfl rfl (by omega) (by omega) ?_
      refine Ops.nil ?_
      exact After.dn (Below.refl _ _) (by exact rfl)
    · intro e1 w1 hb hp hun
      refine Ops.ld_int (hW2.later hb) rfl (by omega) rfl rfl ?_
      refine Ops.nil ?_
      exact After.dn (Below.refl _ _) (by exact rfl)
    · intro e1 w1 hb hp hun
      refine Ops.idx (hR2.top.later hb).2 rfl rfl rfl (by omega) (by omega) ?_
      refine Ops.nil ?_
      exact After.dn (Below.refl _ _) (by exact rfl)
    · intro e1 w1 hb hp hun
      refine Ops.ld_sl (hR2.top.later hb) rfl (by omega) rfl rfl ?_
      refine Ops.nil ?_
      exact After.dn (Below.refl _ _) (by exact rfl)
    · intro e1 w1 hb hp hun
      refine Ops.mv_int rfl (by exact hun 11 _ rfl (by kernel_rfl)) rfl ?_
      refine Ops.nil ?_
      exact After.dn (Below.refl _ _) (by exact rfl)
    · intro e1 w1 hb hp hun
      refine Ops.idx (hrow.later hb).2 rfl rfl rfl (by omega) (by omega) ?_
      refine Ops.nil ?_
      exact After.dn (Below.refl _ _) (by exact rfl)
    · intro e1 w1 hb hp hun
      refine Ops.ld_int (hrow.later hb) rfl (by omega) rfl rfl ?_
      refine Ops.nil ?_
      exact After.dn (Below.refl _ _) (by exact rfl)
    · intro e1 w1 hb hp hun
      refine Ops.mv_int rfl rfl rfl ?_
      refine Ops.nil ?_
      exact After.dn (Below.refl _ _) (by exact rfl)
    intro u w3 hb3 _
    have hS3 := hS2.later hb3
    refine blockQ_n ?_
    refine thenQ_n ?_
    refine Cd.region ?_
    refine Ops.mv_int rfl rfl rfl ?_
    refine Ops.add rfl rfl rfl (by omega) ?_
    refine Ops.mv_int rfl rfl rfl ?_
    refine Ops.nil ?_
    refine thenQ_n ?_
    -- stop: round
    exact ⟨k + 1, by show nw - (k + 1) < nw - k; omega, ⟨by show Value.int .i64 _ = .int .i64 _; rw [hstep], rfl, rfl, rfl, trivial⟩, hS3, hk'⟩
  · refine Cd.exit ?_
    refine thenQ_x ?_
    refine thenQ_x ?_
    refine blockQ_x ?_
    refine thenQ_n ?_
    refine Cd.seq ?_
    refine Cd.region ?_
    refine Ops.mv_int rfl rfl rfl ?_
    refine Ops.mv_int rfl rfl rfl ?_
    refine Ops.nil ?_
    refine thenQ_n ?_
    refine Cd.ret ?_
    refine ret1_i rfl ?_
    -- stop: end
    have hkn : k = nw := by omega
    subst hkn
    exact ⟨by rw [← hwl, List.take_length], hS2.none⟩
end Go.Proofs.Ytpdhjnacnmfbjaa.Vc
