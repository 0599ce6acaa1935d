/-
  The texts Co16, E9, Gi2, Co17, Cx1, Ptr, Co19, Co21, Co33, Co18, Co20, Co34, Co26, Co27, Co28, Co29, Co22, Co23, Co30, Co31, Co24, Co25, Co32, Drs, Co35 in one. Conditions: as each part states them.
-/
import Derived.Test.YtdedegbendjmbaaGreatDoorZh
import Derived.Test.YtdedegbendjmbaaGreatDoorZf
import Derived.Test.YtdedegbendjmbaaGreatDoorZg
import Derived.Test.YtdedegbendjmbaaGreatDoorZc
import Derived.Test.YtdedegbendjmbaaGreatDoorZb
import Derived.Test.YtdedegbendjmbaaGreatDoorZe
/-
  The reference's complex of some lists, walked. Conditions: as each states them.
-/
namespace Go.Proofs.YtdedegbendjmbaaGreatDoor.Vc
open Go.RowKit
section
variable {P : Program} {N : Nat} {ops : Array Oper} {K : Env → World → Prop} {rest : List Oper} {e : Env} {w0 w w' : World} {ks : List Ck} {d : Nat} {ty : TypeId} {pos : String} {af : Array Edge}
theorem Ops.bldF2 {t : TypeId} {f0 f1 : Field} {z0 z1 y0 y1 : Value} {b b0 b1 : Nat} [Und P t (.struct #[f0, f1])] [Inf P t (.agg #[z0, z1]) 2 b] {x0 : Operand} {v0 : Value} (hI0 : Inf P f0.type y0 1 b0) (hI1 : Inf P f1.type y1 1 b1) (ho : f0.offset = 0) (ho1 : f1.offset = 1) (h0 : ev e x0 = v0) (c0 : v0.oneCell' = true) (hb : Nat.blt d N = true)
    (hK : Ops P N ops K rest (upd e d (.agg #[v0, z1])) w) : Ops P N ops K (⟨some d, .build t #[(0, x0)], ty, pos, af, none⟩ :: rest) e w := by
  obtain ⟨inf, hi, hz0, hs, hby⟩ := Inf.get P t
  obtain ⟨inf0, hi0, _, hs0, _⟩ := hI0.get P f0.type
  obtain ⟨inf1, hi1, _, hs1, _⟩ := hI1.get P f1.type
  have e0 : v0.cells = #[v0] := by cases v0 <;> simp [Value.oneCell'] at c0 <;> rfl
  have ez : (Value.agg #[z0, z1]).cells = #[z0, z1] := rfl
  refine .val (w' := w) ?_ hb hK
  simp [execOp, Instr.build, run_underlying (Und.out (P := P) (t := t)), sizeOf, typeInfo, zeroValue, hi, hz0, hi0, hs0, hi1, hs1, ho, ho1, h0, e0, ez, Instr.fill]
end

theorem putL_len (l : List (List Int)) (x : List Int) : (putL l x).length ≤ l.length + 1 := by
  have := atL_le x l
  unfold putL
  split
  · omega
  · simp; omega
theorem foldPut_len : ∀ (ls l : List (List Int)), (ls.foldl putL l).length ≤ l.length + ls.length
  | [], l => by simp
  | a :: r, l => by
    have h1 := foldPut_len r (putL l a)
    have h2 := putL_len l a
    rw [List.foldl_cons]
    simp only [List.length_cons]
    omega
theorem putS_len (ls : List (List Int)) : (putS ls).length ≤ ls.length := by
  have h1 := foldPut_len (ls.filter fun l => decide (l ≠ [])) []
  have h2 := List.length_filter_le (fun l => decide (l ≠ [])) ls
  unfold putS
  simp only [List.length_nil] at h1
  omega
theorem putS_succ {ls : List (List Int)} {i : Nat} (h : i < ls.length) : putS (ls.take (i + 1)) = if gl ls (i : Int) ≠ [] then putL (putS (ls.take i)) (gl ls (i : Int)) else putS (ls.take i) := by
  unfold putS
  rw [take_succ_gl h, List.filter_append, List.foldl_append]
  by_cases e : gl ls (i : Int) = [] <;> simp [e]
def topT (x : List Int) (T : List (List Int)) : Prop := ∀ y ∈ T, Ins x y → y = x
instance (x : List Int) (T : List (List Int)) : Decidable (topT x T) := by unfold topT; exact inferInstance
def topB (S : List (List Int)) (x : List Int) : Bool := decide (∀ y ∈ S, Ins x y → y = x)
def faS (S : List (List Int)) (i : Nat) : List (List Int) := (S.take i).filter (topB S)
theorem faS_succ {S : List (List Int)} {i : Nat} (h : i < S.length) : faS S (i + 1) = if topB S (gl S (i : Int)) = true then faS S i ++ [gl S (i : Int)] else faS S i := by
  unfold faS
  rw [take_succ_gl h, List.filter_append]
  by_cases e : topB S (gl S (i : Int)) = true <;> simp [e]
theorem faS_len (S : List (List Int)) (i : Nat) : (faS S i).length ≤ S.length := by
  have h1 := List.length_filter_le (topB S) (S.take i)
  unfold faS
  have : (S.take i).length ≤ S.length := by simp; omega
  omega
theorem faS_all (S : List (List Int)) : faS S S.length = S.filter (topB S) := by unfold faS; rw [List.take_length]
theorem RowsW.snoc {w : World} {n : Nat} {rs : List SlV} {xss : List (List Int)} (h : RowsW w n rs xss) {s : SlV} {x : List Int} (hs : RdI w s.a s.n x) (hc : s.n ≤ s.c ∧ s.c ≤ maxLen) : RowsW w (n + 1) (rs ++ [s]) (xss ++ [x]) := by
  have hrl := h.rl
  have hxl := h.len
  have get : ∀ j, j < n + 1 → (rs ++ [s]).getD j slNil = (if j = n then s else rs.getD j slNil) ∧ (xss ++ [x]).getD j [] = if j = n then x else xss.getD j [] := fun j hj => by
    simp only [List.getD_eq_getElem?_getD, List.getElem?_append, hrl, hxl]
    by_cases e : j = n
    · subst e; simp
    · have : j < n := by omega
      simp [e, this]
  refine ⟨by simp; omega, by simp; omega, fun j hj => ?_, fun j hj => ?_⟩
  · rw [(get j hj).1, (get j hj).2]
    by_cases e : j = n
    · rw [if_pos e, if_pos e]; exact hs
    · rw [if_neg e, if_neg e]; exact h.row j (by omega)
  · rw [(get j hj).1]
    by_cases e : j = n
    · rw [if_pos e]; exact hc
    · rw [if_neg e]; exact h.cap j (by omega)
theorem cs_sub {l l' : List Int} (h : ∀ x ∈ l, x ∈ l') : (cs l).length ≤ l'.length :=
  Nat.le_trans (Ins.len (cs_SA l) (cs_SA l') fun x hx => (cs_mem _ _).2 (h x ((cs_mem _ _).1 hx))) (cs_len l')
abbrev cxZ (Ab : Option Addr) : Ck := Bx 27 2 Ab [.int .i64 0, .slice none 0 0]

set_option maxHeartbeats 2000000 in
theorem l17Make_c (A : Option Addr) (n c : Nat) (rs : List SlV) (ls : List (List Int)) (w : World) (hR : RowsI w A n rs ls) (hn : n ≤ 1000000) (hfl : ls.flatten.length ≤ 1000000) (hsa : ∀ l ∈ ls, SA l) :
    Ret Tryz.prog 65 [.slice A n c] w (AnsC (cxV ls) (cxL ls) (cxK ls) w) := by
  have hll : ls.length = n := hR.len
  refine Ret.of_cd Tryz.func65 rfl Tryz.ntmps65 rfl (postc2 rfl rfl) ?_
  refine Cd.seq ?_
  refine Cd.region ?_
  refine Ops.new2 (St.refl w) rfl ?_
  intro A2 w1 hS1
  refine Ops.mv_int rfl rfl rfl ?_
  refine Ops.nil ?_
  refine thenQ_n ?_
  refine Cd.seq ?_
  refine Cd.region ?_
  refine Ops.bs0 hS1 rfl ?_
  intro A4 w2 hS2
  have hS2 : St w w2 [CkR 25 A4 (putS (ls.take 0)).length 0 [], cxZ A2] := hS2
  refine Ops.mv_sl rfl rfl rfl ?_
  refine Ops.nil ?_
  refine thenQ_n ?_
  refine Cd.seq ?_
  refine Cd.seq ?_
  refine Cd.region ?_
  refine Ops.mv_int rfl rfl rfl ?_
  refine Ops.nil ?_
  refine thenQ_n ?_
  refine Cd.block ?_
  refine Cd.loop (α := Nat × (Option Addr × Nat) × List SlV) (fun z => [(0, .slice A n c), (2, .pointer A2), (4, .slice z.2.1.1 (putS (ls.take z.1)).length z.2.1.2), (5, .int .i64 (z.1 : Int))])
    (fun z w' => z.1 ≤ n ∧ RowsW w (putS (ls.take z.1)).length z.2.2 (putS (ls.take z.1)) ∧ St w w' [CkR 25 z.2.1.1 (putS (ls.take z.1)).length z.2.1.2 z.2.2, cxZ A2]) (fun z => n - z.1) (0, (A4, 0), []) ⟨rfl, rfl, rfl, rfl, trivial⟩ ⟨Nat.zero_le _, ⟨rfl, rfl, fun i hi => absurd hi (by simp [putS]), fun i hi => absurd hi (by simp [putS])⟩, hS2⟩ ?_
  clear hS2 hS1
  rintro ⟨i, ⟨A4, c4⟩, rs4⟩ e w2 ⟨hi, hW, hS2⟩
  dsimp only at hi hW hS2 ⊢
  refine Cd.seq ?_
  refine Cd.seq ?_
  refine Cd.region ?_
  refine Ops.mv_int rfl rfl rfl ?_
  refine Ops.mv_sl rfl rfl rfl ?_
  refine Ops.len rfl rfl ?_
  refine Ops.lss rfl rfl rfl ?_
  refine Ops.nil ?_
  refine thenQ_n ?_
  refine Cd.cond_p _ rfl (fun h1 => ?_) (fun h1 => ?_)
  · have hin : i < ls.length := by omega
    have hM := hS2.oldRows hR
    have hrow0 := hR.at_ (i := (i : Int)) (by omega) (by omega)
    have hrow := hM.at_ (i := (i : Int)) (by omega) (by omega)
    have hcap := hM.cap_ (i := (i : Int)) (by omega) (by omega)
    have hrl := hrow.1
    have hss := putS_succ hin
    have hlen := putS_len (ls.take i)
    have htl : (ls.take i).length = i := by simp; omega
    refine Cd.skip ?_
    refine thenQ_n ?_
    refine Cd.seq ?_
    refine Cd.block ?_
    refine Cd.seq ?_
    refine Cd.region ?_
    refine Ops.mv_sl rfl rfl rfl ?_
    refine Ops.mv_int rfl rfl rfl ?_
    refine Ops.idx hM.top.2 rfl rfl rfl (by omega) (by omega) ?_
    refine Ops.ld_sl hM.top rfl (by omega) rfl rfl ?_
    refine Ops.len rfl rfl ?_
    refine Ops.gtr rfl rfl rfl ?_
    refine Ops.nil ?_
    refine thenQ_n ?_
    refine Cd.cond_p _ rfl (fun h2 => ?_) (fun h2 => ?_)
    · have hne : gl ls (i : Int) ≠ [] := fun e => by rw [e] at hrl; simp at hrl; omega
      rw [if_pos hne] at hss
      have hcap4 := hS2.cap 0 rfl
      refine Cd.region ?_
      refine Ops.mv_sl rfl rfl rfl ?_
      refine Ops.mv_sl rfl rfl rfl ?_
      refine Ops.mv_int rfl rfl rfl ?_
      refine Ops.idx hM.top.2 rfl rfl rfl (by omega) (by omega) ?_
      refine Ops.ld_sl hM.top rfl (by omega) rfl rfl ?_
      refine Ops.call (l17Put_c A4 _ c4 rs4 (putS (ls.take i)) _ _ _ (gl ls (i : Int)) _ ((hW.later hS2.below).I (hS2.rdR 0 rfl)) hcap4.1 hrow (by omega) (by omega) (putS_SL _)) rfl rfl rfl ?_
      rintro _ w3 ⟨A5, c5, rfl, hc5, hb5, hor⟩
      have hnew : ∃ rs5, RowsW w (putL (putS (ls.take i)) (gl ls (i : Int))).length rs5 (putL (putS (ls.take i)) (gl ls (i : Int))) ∧ St w w3 [CkR 25 A5 (putL (putS (ls.take i)) (gl ls (i : Int))).length c5 rs5, cxZ A2] := by
        rcases hor with ⟨rfl, rfl, hx⟩ | ⟨hx, hst⟩
        · have e : putL (putS (ls.take i)) (gl ls (i : Int)) = putS (ls.take i) := by unfold putL; rw [if_pos hx]
          rw [e]
          exact ⟨rs4, hW, hS2.later hb5⟩
        · exact ⟨_, hW.putL hrow0 hcap, (hS2.call hst).sub (List.Sublist.cons_cons _ (List.sublist_cons_self _ _))⟩
      obtain ⟨rs5, hW5, hS5⟩ := hnew
      rw [← hss] at hW5 hS5 ⊢
      refine Ops.mv_sl rfl rfl rfl ?_
      refine Ops.nil ?_
      refine blockQ_n ?_
      refine thenQ_n ?_
      refine Cd.region ?_
      refine Ops.mv_int rfl rfl rfl ?_
      refine Ops.add rfl rfl rfl (by omega) ?_
      refine Ops.mv_int rfl rfl rfl ?_
      refine Ops.nil ?_
      refine thenQ_n ?_
      exact ⟨(i + 1, (A5, c5), rs5), by show n - (i + 1) < n - i; omega, ⟨rfl, rfl, rfl, rfl, trivial⟩, by show i + 1 ≤ n; omega, hW5, hS5⟩
    · have he : gl ls (i : Int) = [] := List.eq_nil_of_length_eq_zero (by omega)
      rw [if_neg (fun h => h he)] at hss
      rw [← hss] at hW hS2 ⊢
      refine Cd.skip ?_
      refine blockQ_n ?_
      refine thenQ_n ?_
      refine Cd.region ?_
      refine Ops.mv_int rfl rfl rfl ?_
      refine Ops.add rfl rfl rfl (by omega) ?_
      refine Ops.mv_int rfl rfl rfl ?_
      refine Ops.nil ?_
      refine thenQ_n ?_
      exact ⟨(i + 1, (A4, c4), rs4), by show n - (i + 1) < n - i; omega, ⟨rfl, rfl, rfl, rfl, trivial⟩, by show i + 1 ≤ n; omega, hW, hS2⟩
  have hin : i = ls.length := by omega
  rw [hin, List.take_length] at hW hS2 ⊢
  clear hi h1 hin
  have hSL := putS_SL ls
  have hSln := putS_len ls
  have hSm := fun x => putS_mem ls x
  have hfac : facP ls = (putS ls).filter (topB (putS ls)) := rfl
  have hcv := cv_fac hsa
  have hlong := long_fac hsa
  generalize putS ls = S at *
  have hSa : ∀ l ∈ S, SA l := fun l hl => hsa l ((hSm l).1 hl).1
  have hSne : ∀ l ∈ S, l ≠ [] := fun l hl => ((hSm l).1 hl).2
  have hvl : ∀ l : List Int, (∀ x ∈ l, ∃ s ∈ S, x ∈ s) → (cs l).length ≤ 1000000 := fun l h => Nat.le_trans (cs_sub (l' := ls.flatten) fun x hx => by
    obtain ⟨s, hs, hxs⟩ := h x hx
    exact List.mem_flatten.2 ⟨s, ((hSm s).1 hs).1, hxs⟩) hfl
  refine Cd.exit ?_
  refine thenQ_x ?_
  refine thenQ_x ?_
  refine blockQ_x ?_
  refine thenQ_n ?_
  refine Cd.seq ?_
  refine Cd.region ?_
  refine Ops.bs0 hS2 rfl ?_
  intro A6 w3 hS3
  refine Ops.bs0 hS3 rfl ?_
  intro A7 w4 hS4
  have hc0 : cs (faS S 0).flatten = [] := cs_nil
  have hS4 : St w w4 [CkI 2 A7 (cs (faS S 0).flatten).length 0 (cs (faS S 0).flatten), CkR 25 A6 (faS S 0).length 0 [], CkR 25 A4 S.length c4 rs4, cxZ A2] := by rw [hc0]; exact hS4
  refine Ops.mv_sl rfl rfl rfl ?_
  refine Ops.mv_sl rfl rfl rfl ?_
  refine Ops.nil ?_
  refine thenQ_n ?_
  refine Cd.seq ?_
  refine Cd.seq ?_
  refine Cd.region ?_
  refine Ops.mv_int rfl rfl rfl ?_
  refine Ops.nil ?_
  refine thenQ_n ?_
  refine Cd.block ?_
  refine Cd.loop (α := Nat × (Option Addr × Nat) × List SlV × (Option Addr × Nat)) (fun z => [(2, .pointer A2), (4, .slice A4 S.length c4), (6, .slice z.2.1.1 (faS S z.1).length z.2.1.2), (7, .slice z.2.2.2.1 (cs (faS S z.1).flatten).length z.2.2.2.2), (8, .int .i64 (z.1 : Int))])
    (fun z w' => z.1 ≤ S.length ∧ RowsW w (faS S z.1).length z.2.2.1 (faS S z.1) ∧ St w w' [CkI 2 z.2.2.2.1 (cs (faS S z.1).flatten).length z.2.2.2.2 (cs (faS S z.1).flatten), CkR 25 z.2.1.1 (faS S z.1).length z.2.1.2 z.2.2.1, CkR 25 A4 S.length c4 rs4, cxZ A2]) (fun z => S.length - z.1) (0, (A6, 0), [], (A7, 0)) ⟨rfl, rfl, rfl, by show Value.slice A7 0 0 = .slice A7 (cs (faS S 0).flatten).length 0; rw [hc0]; rfl, rfl, trivial⟩ ⟨Nat.zero_le _, ⟨rfl, rfl, fun i hi => absurd hi (by simp [faS]), fun i hi => absurd hi (by simp [faS])⟩, hS4⟩ ?_
  clear hS4 hS3 hS2
  rintro ⟨i, ⟨A6, c6⟩, rs6, A7, c7⟩ e w4 ⟨hi, hW6, hS4⟩
  dsimp only at hi hW6 hS4 ⊢
  refine Cd.seq ?_
  refine Cd.seq ?_
  refine Cd.region ?_
  refine Ops.mv_int rfl rfl rfl ?_
  refine Ops.mv_sl rfl rfl rfl ?_
  refine Ops.len rfl rfl ?_
  refine Ops.lss rfl rfl rfl ?_
  refine Ops.nil ?_
  refine thenQ_n ?_
  refine Cd.cond_p _ rfl (fun h1 => ?_) (fun h1 => ?_)
  · have hiS : i < S.length := by omega
    have hgS : gl S (i : Int) ∈ S := by rw [gl_mem hiS]; exact List.getElem_mem _
    have hsucc := faS_succ hiS
    have hfln := faS_len S i
    refine Cd.skip ?_
    refine thenQ_n ?_
    refine Cd.seq ?_
    refine Cd.block ?_
    refine Cd.seq ?_
    refine Cd.region ?_
    refine Ops.mv_bool rfl rfl rfl ?_
    refine Ops.nil ?_
    refine thenQ_n ?_
    refine Cd.seq ?_
    refine Cd.seq ?_
    refine Cd.region ?_
    refine Ops.mv_int rfl rfl rfl ?_
    refine Ops.nil ?_
    refine thenQ_n ?_
    refine Cd.block ?_
    refine Cd.loop (α := Nat × Bool) (fun z => [(2, .pointer A2), (4, .slice A4 S.length c4), (6, .slice A6 (faS S i).length c6), (7, .slice A7 (cs (faS S i).flatten).length c7), (8, .int .i64 (i : Int)), (9, .bool z.2), (10, .int .i64 (z.1 : Int))])
      (fun z w' => z.1 ≤ S.length ∧ z.2 = decide (topT (gl S (i : Int)) (S.take z.1)) ∧ St w w' [CkI 2 A7 (cs (faS S i).flatten).length c7 (cs (faS S i).flatten), CkR 25 A6 (faS S i).length c6 rs6, CkR 25 A4 S.length c4 rs4, cxZ A2]) (fun z => S.length - z.1) (0, true) ⟨rfl, rfl, rfl, rfl, rfl, rfl, rfl, trivial⟩ ⟨Nat.zero_le _, (decide_eq_true (by simp [topT])).symm, hS4⟩ ?_
    rintro ⟨k, b⟩ e w5 ⟨hk, hb, hS5⟩
    dsimp only at hk hb hS5 ⊢
    have hS45 : RowsI w5 A4 S.length rs4 S := (hW.later hS5.below).I (hS5.rdR 2 rfl)
    have hri := hS45.at_ (i := (i : Int)) (by omega) (by omega)
    have hci := hS45.cap_ (i := (i : Int)) (by omega) (by omega)
    have hri0 := hW.row i hiS
    have hci0 := hW.cap i hiS
    have hril := hri.1
    refine Cd.seq ?_
    refine Cd.seq ?_
    refine Cd.region ?_
    refine Ops.mv_int rfl rfl rfl ?_
    refine Ops.mv_sl rfl rfl rfl ?_
    refine Ops.len rfl rfl ?_
    refine Ops.lss rfl rfl rfl ?_
    refine Ops.mv_bool rfl rfl rfl ?_
    refine Ops.split_p 47 rfl (fun h2 => ?_) (fun h2 => ?_)
    · refine Ops.rung rfl rfl rfl ?_
      refine Ops.mv_bool rfl rfl rfl ?_
      refine Ops.pick_t rfl rfl rfl ?_
      refine Ops.nil ?_
      refine thenQ_n ?_
      cases hbe : b
      · --dup 2
        skip
        refine Cd.cond_f rfl ?_
        refine Cd.exit ?_
        refine thenQ_x ?_
        refine thenQ_x ?_
        refine blockQ_x ?_
        refine thenQ_n ?_
        refine Cd.seq ?_
        refine Cd.region ?_
        refine Ops.mv_bool rfl rfl rfl ?_
        refine Ops.nil ?_
        refine thenQ_n ?_
        subst hbe
        have hnt : ¬ topB S (gl S (i : Int)) = true := fun h => by
          have h3 : ∀ y ∈ S, Ins (gl S (i : Int)) y → y = gl S (i : Int) := of_decide_eq_true h
          have := of_decide_eq_false hb.symm
          exact this fun y hy => h3 y (List.mem_of_mem_take hy)
        rw [if_neg hnt] at hsucc
        rw [← hsucc] at hW6 hS5 ⊢
        refine Cd.cond_f rfl ?_
        refine Cd.skip ?_
        refine blockQ_n ?_
        refine thenQ_n ?_
        refine Cd.region ?_
        refine Ops.mv_int rfl rfl rfl ?_
        refine Ops.add rfl rfl rfl (by omega) ?_
        refine Ops.mv_int rfl rfl rfl ?_
        refine Ops.nil ?_
        refine thenQ_n ?_
        exact ⟨(i + 1, (A6, c6), rs6, (A7, c7)), by show S.length - (i + 1) < S.length - i; omega, ⟨rfl, rfl, rfl, rfl, rfl, trivial⟩, by show i + 1 ≤ S.length; omega, hW6, hS5⟩
      · subst hbe
        have hall := of_decide_eq_true hb.symm
        have hkS : k < S.length := by omega
        have hrk := hS45.at_ (i := (k : Int)) (by omega) (by omega)
        have hck := hS45.cap_ (i := (k : Int)) (by omega) (by omega)
        have hnext : decide ((i : Int) = (k : Int) ∨ ¬ Ins (gl S (i : Int)) (gl S (k : Int))) = decide (topT (gl S (i : Int)) (S.take (k + 1))) := decide_eq_decide.2 (by
          unfold topT
          rw [take_succ_gl hkS]
          constructor
          · intro h y hy hyi
            rcases List.mem_append.1 hy with hy | hy
            · exact hall y hy hyi
            · obtain rfl : y = gl S (k : Int) := by simpa using hy
              rcases h with h | h
              · rw [h]
              · exact absurd hyi h
          · intro h
            by_cases hin : Ins (gl S (i : Int)) (gl S (k : Int))
            · left
              have h3 := h _ (List.mem_append.2 (.inr (by simp))) hin
              rw [gl_mem hiS, gl_mem hkS] at h3
              rw [(List.getElem_inj hSL.nodup).1 h3]
            · exact .inr hin)
        skip
        refine Cd.cond_t rfl ?_
        refine Cd.skip ?_
        refine thenQ_n ?_
        refine Cd.seq ?_
        refine Cd.block ?_
        by_cases h3 : (i : Int) = (k : Int)
        · --dup 2
          refine Cd.draw [.ex (.int .i64 ((i : Int))), .ex (.int .i64 ((k : Int))), .ex (.bool (decide (((i : Int)) = ((k : Int))))), .ex (.bool (true)), .ex (undef), .ex (undef), .ex (undef), .ex (undef), .ex (undef), .ex (undef), .ex (undef), .ex (undef), .ex (undef), .ex (undef), .ex (.bool (true)), .ex (.bool (true))] (by kernel_rfl) (by kernel_rfl) rfl (List.forall_mem_cons.2 ⟨Yd.lasts_ex _, (List.forall_mem_cons.2 ⟨Yd.lasts_ex _, (List.forall_mem_cons.2 ⟨Yd.lasts_ex _, (List.forall_mem_cons.2 ⟨Yd.lasts_ex _, (List.forall_mem_cons.2 ⟨Yd.lasts_ex _, (List.forall_mem_cons.2 ⟨Yd.lasts_ex _, (List.forall_mem_cons.2 ⟨Yd.lasts_ex _, (List.forall_mem_cons.2 ⟨Yd.lasts_ex _, (List.forall_mem_cons.2 ⟨Yd.lasts_ex _, (List.forall_mem_cons.2 ⟨Yd.lasts_ex _, (List.forall_mem_cons.2 ⟨Yd.lasts_ex _, (List.forall_mem_cons.2 ⟨Yd.lasts_ex _, (List.forall_mem_cons.2 ⟨Yd.lasts_ex _, (List.forall_mem_cons.2 ⟨Yd.lasts_ex _, (List.forall_mem_cons.2 ⟨Yd.lasts_ex _, (List.forall_mem_cons.2 ⟨Yd.lasts_ex _, (fun _ h => by cases h)⟩)⟩)⟩)⟩)⟩)⟩)⟩)⟩)⟩)⟩)⟩)⟩)⟩)⟩)⟩)⟩) ⟨?_, ?_, ?_, ?_, ?_, ?_, ?_, ?_, ?_, ?_, ?_, ?_, ?_, ?_, ?_, ?_, trivial⟩ ?_
          · intro e1 w1 hb hp hun
            refine Ops.mv_int rfl rfl rfl ?_
            refine Ops.nil ?_
            exact After.dn (Below.refl _ _) (by exact rfl)
          · intro e1 w1 hb hp hun
            refine Ops.mv_int rfl rfl rfl ?_
            refine Ops.nil ?_
            exact After.dn (Below.refl _ _) (by exact rfl)
          · intro e1 w1 hb hp hun
            refine Ops.eql rfl rfl rfl ?_
            refine Ops.nil ?_
            exact After.dn (Below.refl _ _) (by exact rfl)
          · intro e1 w1 hb hp hun
            refine Ops.mv_bool rfl rfl rfl ?_
            refine Ops.nil ?_
            exact After.dn (Below.refl _ _) (by exact congrArg Value.bool (decide_eq_true h3))
          · intro e1 w1 hb hp hun
            refine Ops.skipg rfl rfl rfl rfl rfl ?_
            refine Ops.nil ?_
            exact After.dn (Below.refl _ _) (by exact rfl)
          · intro e1 w1 hb hp hun
            refine Ops.skipg rfl rfl rfl rfl rfl ?_
            refine Ops.nil ?_
            exact After.dn (Below.refl _ _) (by exact rfl)
          · intro e1 w1 hb hp hun
            refine Ops.skipg rfl rfl rfl rfl rfl ?_
            refine Ops.nil ?_
            exact After.dn (Below.refl _ _) (by exact rfl)
          · intro e1 w1 hb hp hun
            refine Ops.skipg rfl rfl rfl rfl rfl ?_
            refine Ops.nil ?_
            exact After.dn (Below.refl _ _) (by exact rfl)
          · intro e1 w1 hb hp hun
            refine Ops.skipg rfl rfl rfl rfl rfl ?_
            refine Ops.nil ?_
            exact After.dn (Below.refl _ _) (by exact rfl)
          · intro e1 w1 hb hp hun
            refine Ops.skipg rfl rfl rfl rfl rfl ?_
            refine Ops.nil ?_
            exact After.dn (Below.refl _ _) (by exact rfl)
          · intro e1 w1 hb hp hun
            refine Ops.skipg rfl rfl rfl rfl rfl ?_
            refine Ops.nil ?_
            exact After.dn (Below.refl _ _) (by exact rfl)
          · intro e1 w1 hb hp hun
            refine Ops.skipg rfl rfl rfl rfl rfl ?_
            refine Ops.nil ?_
            exact After.dn (Below.refl _ _) (by exact rfl)
          · intro e1 w1 hb hp hun
            refine Ops.skipg rfl rfl rfl rfl rfl ?_
            refine Ops.nil ?_
            exact After.dn (Below.refl _ _) (by exact rfl)
          · intro e1 w1 hb hp hun
            refine Ops.skipg rfl rfl rfl rfl rfl ?_
            refine Ops.nil ?_
            exact After.dn (Below.refl _ _) (by exact rfl)
          · intro e1 w1 hb hp hun
            refine Ops.pick_t rfl rfl rfl ?_
            refine Ops.nil ?_
            exact After.dn (Below.refl _ _) (by exact rfl)
          · intro e1 w1 hb hp hun
            refine Ops.mv_bool rfl rfl rfl ?_
            refine Ops.nil ?_
            exact After.dn (Below.refl _ _) (by exact rfl)
          intro u w6 hb6 _
          refine blockQ_n ?_
          refine thenQ_n ?_
          refine Cd.region ?_
          refine Ops.mv_int rfl rfl rfl ?_
          refine Ops.add rfl rfl rfl (by omega) ?_
          refine Ops.mv_int rfl rfl rfl ?_
          refine Ops.nil ?_
          refine thenQ_n ?_
          exact ⟨(k + 1, true), by show S.length - (k + 1) < S.length - k; omega, ⟨rfl, rfl, rfl, rfl, rfl, rfl, rfl, trivial⟩, by show k + 1 ≤ S.length; omega, by rw [← hnext, decide_eq_true (.inl h3)], hS5.later hb6⟩
        · refine Cd.draw [.ex (.int .i64 ((i : Int))), .ex (.int .i64 ((k : Int))), .ex (.bool (decide (((i : Int)) = ((k : Int))))), .ex (.bool (false)), .ex (.slice (A4) (S.length) (c4)), .ex (.int .i64 ((i : Int))), .ex (.pointer (ptrAt (A4) ((i : Int)).toNat)), .ex (.slice ((rg (rs4) ((i : Int))).a) ((rg (rs4) ((i : Int))).n) ((rg (rs4) ((i : Int))).c)), .ex (.slice (A4) (S.length) (c4)), .ex (.int .i64 ((k : Int))), .ex (.pointer (ptrAt (A4) ((k : Int)).toNat)), .ex (.slice ((rg (rs4) ((k : Int))).a) ((rg (rs4) ((k : Int))).n) ((rg (rs4) ((k : Int))).c)), .ex (.bool (decide (Ins (gl S (i : Int)) (gl S (k : Int))))), .ex (.bool (decide (¬ (Ins (gl S (i : Int)) (gl S (k : Int)))))), .ex (.bool (decide (¬ (Ins (gl S (i : Int)) (gl S (k : Int)))))), .ex (.bool (decide (¬ (Ins (gl S (i : Int)) (gl S (k : Int))))))] (by kernel_rfl) (by kernel_rfl) rfl (List.forall_mem_cons.2 ⟨Yd.lasts_ex _, (List.forall_mem_cons.2 ⟨Yd.lasts_ex _, (List.forall_mem_cons.2 ⟨Yd.lasts_ex _, (List.forall_mem_cons.2 ⟨Yd.lasts_ex _, (List.forall_mem_cons.2 ⟨Yd.lasts_ex _, (List.forall_mem_cons.2 ⟨Yd.lasts_ex _, (List.forall_mem_cons.2 ⟨Yd.lasts_ex _, (List.forall_mem_cons.2 ⟨Yd.lasts_ex _, (List.forall_mem_cons.2 ⟨Yd.lasts_ex _, (List.forall_mem_cons.2 ⟨Yd.lasts_ex _, (List.forall_mem_cons.2 ⟨Yd.lasts_ex _, (List.forall_mem_cons.2 ⟨Yd.lasts_ex _, (List.forall_mem_cons.2 ⟨Yd.lasts_ex _, (List.forall_mem_cons.2 ⟨Yd.lasts_ex _, (List.forall_mem_cons.2 ⟨Yd.lasts_ex _, (List.forall_mem_cons.2 ⟨Yd.lasts_ex _, (fun _ h => by cases h)⟩)⟩)⟩)⟩)⟩)⟩)⟩)⟩)⟩)⟩)⟩)⟩)⟩)⟩)⟩)⟩) ⟨?_, ?_, ?_, ?_, ?_, ?_, ?_, ?_, ?_, ?_, ?_, ?_, ?_, ?_, ?_, ?_, trivial⟩ ?_
          · intro e1 w1 hb hp hun
            refine Ops.mv_int rfl rfl rfl ?_
            refine Ops.nil ?_
            exact After.dn (Below.refl _ _) (by exact rfl)
          · intro e1 w1 hb hp hun
            refine Ops.mv_int rfl rfl rfl ?_
            refine Ops.nil ?_
            exact After.dn (Below.refl _ _) (by exact rfl)
          · intro e1 w1 hb hp hun
            refine Ops.eql rfl rfl rfl ?_
            refine Ops.nil ?_
            exact After.dn (Below.refl _ _) (by exact rfl)
          · intro e1 w1 hb hp hun
            refine Ops.mv_bool rfl rfl rfl ?_
            refine Ops.nil ?_
            exact After.dn (Below.refl _ _) (by exact congrArg Value.bool (decide_eq_false h3))
          · intro e1 w1 hb hp hun
            refine Ops.rung rfl rfl rfl ?_
            refine Ops.mv_sl rfl rfl rfl ?_
            refine Ops.nil ?_
            exact After.dn (Below.refl _ _) (by exact rfl)
          · intro e1 w1 hb hp hun
            refine Ops.rung rfl rfl rfl ?_
            refine Ops.mv_int rfl rfl rfl ?_
            refine Ops.nil ?_
            exact After.dn (Below.refl _ _) (by exact rfl)
          · intro e1 w1 hb hp hun
            refine Ops.rung rfl rfl rfl ?_
            refine Ops.idx (hS45.top.later hb).2 rfl rfl rfl (by omega) (by omega) ?_
            refine Ops.nil ?_
            exact After.dn (Below.refl _ _) (by exact rfl)
          · intro e1 w1 hb hp hun
            refine Ops.rung rfl rfl rfl ?_
            refine Ops.ld_sl (hS45.top.later hb) rfl (by omega) rfl rfl ?_
            refine Ops.nil ?_
            exact After.dn (Below.refl _ _) (by exact rfl)
          · intro e1 w1 hb hp hun
            refine Ops.rung rfl rfl rfl ?_
            refine Ops.mv_sl rfl rfl rfl ?_
            refine Ops.nil ?_
            exact After.dn (Below.refl _ _) (by exact rfl)
          · intro e1 w1 hb hp hun
            refine Ops.rung rfl rfl rfl ?_
            refine Ops.mv_int rfl rfl rfl ?_
            refine Ops.nil ?_
            exact After.dn (Below.refl _ _) (by exact rfl)
          · intro e1 w1 hb hp hun
            refine Ops.rung rfl rfl rfl ?_
            refine Ops.idx (hS45.top.later hb).2 rfl rfl rfl (by omega) (by omega) ?_
            refine Ops.nil ?_
            exact After.dn (Below.refl _ _) (by exact rfl)
          · intro e1 w1 hb hp hun
            refine Ops.rung rfl rfl rfl ?_
            refine Ops.ld_sl (hS45.top.later hb) rfl (by omega) rfl rfl ?_
            refine Ops.nil ?_
            exact After.dn (Below.refl _ _) (by exact rfl)
          · intro e1 w1 hb hp hun
            refine Ops.rung rfl rfl rfl ?_
            refine Ops.call (l17Within_c _ _ _ _ _ _ _ _ _ (hri.later hb) (hrk.later hb) (by omega) (by omega)) rfl rfl rfl ?_
            rintro _ w2 ⟨rfl, hst⟩
            subst hst
            refine Ops.nil ?_
            exact After.dn (Below.refl _ _) (by exact rfl)
          · intro e1 w1 hb hp hun
            refine Ops.rung rfl rfl rfl ?_
            refine Ops.not_p rfl rfl ?_
            refine Ops.nil ?_
            exact After.dn (Below.refl _ _) (by exact rfl)
          · intro e1 w1 hb hp hun
            refine Ops.pick_f rfl rfl rfl ?_
            refine Ops.nil ?_
            exact After.dn (Below.refl _ _) (by exact rfl)
          · intro e1 w1 hb hp hun
            refine Ops.mv_bool rfl rfl rfl ?_
            refine Ops.nil ?_
            exact After.dn (Below.refl _ _) (by exact rfl)
          intro u w6 hb6 _
          refine blockQ_n ?_
          refine thenQ_n ?_
          refine Cd.region ?_
          refine Ops.mv_int rfl rfl rfl ?_
          refine Ops.add rfl rfl rfl (by omega) ?_
          refine Ops.mv_int rfl rfl rfl ?_
          refine Ops.nil ?_
          refine thenQ_n ?_
          exact ⟨(k + 1, decide (¬ Ins (gl S (i : Int)) (gl S (k : Int)))), by show S.length - (k + 1) < S.length - k; omega, ⟨rfl, rfl, rfl, rfl, rfl, rfl, rfl, trivial⟩, by show k + 1 ≤ S.length; omega, by rw [← hnext]; exact decide_eq_decide.2 ⟨.inr, fun h => h.resolve_left h3⟩, hS5.later hb6⟩
    · have hkS : k = S.length := by omega
      rw [hkS, List.take_length] at hb
      have hb : b = topB S (gl S (i : Int)) := hb
      refine Ops.skipg rfl rfl rfl rfl rfl ?_
      refine Ops.pick_f rfl rfl rfl ?_
      refine Ops.nil ?_
      refine thenQ_n ?_
      refine Cd.cond_f rfl ?_
      refine Cd.exit ?_
      refine thenQ_x ?_
      refine thenQ_x ?_
      refine blockQ_x ?_
      refine thenQ_n ?_
      refine Cd.seq ?_
      refine Cd.region ?_
      refine Ops.mv_bool rfl rfl rfl ?_
      refine Ops.nil ?_
      refine thenQ_n ?_
      refine Cd.cond rfl (fun h3 => ?_) (fun h3 => ?_)
      · rw [← hb, if_pos h3] at hsucc
        refine Cd.seq ?_
        refine Cd.region ?_
        refine Ops.mv_sl rfl rfl rfl ?_
        refine Ops.mv_sl rfl rfl rfl ?_
        refine Ops.mv_int rfl rfl rfl ?_
        refine Ops.idx hS45.top.2 rfl rfl rfl (by omega) (by omega) ?_
        refine Ops.ld_sl hS45.top rfl (by omega) rfl rfl ?_
        refine Ops.bs1R hS5 rfl rfl rfl ?_
        intro A9 w6 hS6
        refine Ops.appR 2 hS6 rfl (hS6.rdR 0 rfl) rfl rfl rfl (by omega) (by omega) rfl ?_
        intro A10 c10 w7 hS7
        have hS7 : St w w7 [CkI 2 A7 (cs (faS S i).flatten).length c7 (cs (faS S i).flatten), CkR 25 A10 ((faS S i).length + 1) c10 (rs6 ++ [rg rs4 (i : Int)]), CkR 25 A4 S.length c4 rs4, cxZ A2] := hS7.tail
        have hW7 := hW6.snoc (s := rg rs4 (i : Int)) (x := gl S (i : Int)) hri0 hci0
        have hl1 : (faS S (i + 1)).length = (faS S i).length + 1 := by rw [hsucc]; simp
        refine Ops.mv_sl rfl rfl rfl ?_
        refine Ops.nil ?_
        refine thenQ_n ?_
        refine Cd.seq ?_
        refine Cd.region ?_
        refine Ops.mv_int rfl rfl rfl ?_
        refine Ops.nil ?_
        refine thenQ_n ?_
        refine Cd.block ?_
        refine Cd.loop (α := Nat × (Option Addr × Nat)) (fun z => [(2, .pointer A2), (4, .slice A4 S.length c4), (6, .slice A10 ((faS S i).length + 1) c10), (7, .slice z.2.1 (cs ((faS S i).flatten ++ (gl S (i : Int)).take z.1)).length z.2.2), (8, .int .i64 (i : Int)), (11, .int .i64 (z.1 : Int))])
          (fun z w' => z.1 ≤ (gl S (i : Int)).length ∧ St w w' [CkI 2 z.2.1 (cs ((faS S i).flatten ++ (gl S (i : Int)).take z.1)).length z.2.2 (cs ((faS S i).flatten ++ (gl S (i : Int)).take z.1)), CkR 25 A10 ((faS S i).length + 1) c10 (rs6 ++ [rg rs4 (i : Int)]), CkR 25 A4 S.length c4 rs4, cxZ A2]) (fun z => (gl S (i : Int)).length - z.1) (0, (A7, c7)) ⟨rfl, rfl, rfl, by show Value.slice A7 (cs (faS S i).flatten).length c7 = .slice A7 (cs ((faS S i).flatten ++ (gl S (i : Int)).take 0)).length c7; rw [List.take_zero, List.append_nil], rfl, rfl, trivial⟩ ⟨Nat.zero_le _, by simpa using hS7⟩ ?_
        rintro ⟨j, A11, c11⟩ e w8 ⟨hj, hS8⟩
        dsimp only at hj hS8 ⊢
        have hS48 : RowsI w8 A4 S.length rs4 S := (hW.later hS8.below).I (hS8.rdR 2 rfl)
        have hri8 := hS48.at_ (i := (i : Int)) (by omega) (by omega)
        refine Cd.seq ?_
        refine Cd.seq ?_
        refine Cd.region ?_
        refine Ops.mv_int rfl rfl rfl ?_
        refine Ops.mv_sl rfl rfl rfl ?_
        refine Ops.mv_int rfl rfl rfl ?_
        refine Ops.idx hS48.top.2 rfl rfl rfl (by omega) (by omega) ?_
        refine Ops.ld_sl hS48.top rfl (by omega) rfl rfl ?_
        refine Ops.len rfl rfl ?_
        refine Ops.lss rfl rfl rfl ?_
        refine Ops.nil ?_
        refine thenQ_n ?_
        refine Cd.cond_p _ rfl (fun h4 => ?_) (fun h4 => ?_)
        · have hjl : j < (gl S (i : Int)).length := by omega
          have hfe : cs (cs ((faS S i).flatten ++ (gl S (i : Int)).take j) ++ [gi (gl S (i : Int)) (j : Int)]) = cs ((faS S i).flatten ++ (gl S (i : Int)).take (j + 1)) := by rw [cs_cs, take_succ_gi hjl, List.append_assoc]
          have hcap11 := hS8.cap 0 rfl
          have hvl8 := hvl ((faS S i).flatten ++ (gl S (i : Int)).take j) (fun x hx => by
            rcases List.mem_append.1 hx with hx | hx
            · obtain ⟨l, hl, hxl⟩ := List.mem_flatten.1 hx
              exact ⟨l, List.mem_of_mem_take (List.mem_filter.1 hl).1, hxl⟩
            · exact ⟨_, hgS, List.mem_of_mem_take hx⟩)
          refine Cd.skip ?_
          refine thenQ_n ?_
          refine Cd.seq ?_
          refine Cd.block ?_
          refine Cd.region ?_
          refine Ops.mv_sl rfl rfl rfl ?_
          refine Ops.mv_sl rfl rfl rfl ?_
          refine Ops.mv_int rfl rfl rfl ?_
          refine Ops.idx hS48.top.2 rfl rfl rfl (by omega) (by omega) ?_
          refine Ops.ld_sl hS48.top rfl (by omega) rfl rfl ?_
          refine Ops.mv_int rfl rfl rfl ?_
          refine Ops.idx hri8.2 rfl rfl rfl (by omega) (by omega) ?_
          refine Ops.ld_int hri8 rfl (by omega) rfl rfl ?_
          refine Ops.call (l17Insert_c A11 _ c11 _ (gi (gl S (i : Int)) (j : Int)) _ (hS8.rdI 0 rfl) hcap11.1 hvl8 (cs_SA _)) rfl rfl rfl ?_
          rintro _ w9 ⟨A12, c12, rfl, hbl, hor⟩
          have hS9 := hS8.insRow (i := 0) rfl hbl hor
          rw [hfe] at hS9 ⊢
          refine Ops.mv_sl rfl rfl rfl ?_
          refine Ops.nil ?_
          refine blockQ_n ?_
          refine thenQ_n ?_
          refine Cd.region ?_
          refine Ops.mv_int rfl rfl rfl ?_
          refine Ops.add rfl rfl rfl (by omega) ?_
          refine Ops.mv_int rfl rfl rfl ?_
          refine Ops.nil ?_
          refine thenQ_n ?_
          exact ⟨(j + 1, (A12, c12)), by show (gl S (i : Int)).length - (j + 1) < (gl S (i : Int)).length - j; omega, ⟨rfl, rfl, rfl, rfl, rfl, rfl, trivial⟩, by show j + 1 ≤ _; omega, hS9⟩
        · rw [show (gl S (i : Int)).take j = gl S (i : Int) from List.take_of_length_le (by omega)] at hS8 ⊢
          have hfe : (faS S i).flatten ++ gl S (i : Int) = (faS S (i + 1)).flatten := by rw [hsucc]; simp
          rw [hfe, ← hl1] at hS8
          rw [← hsucc, ← hl1] at hW7
          rw [hfe, ← hl1]
          refine Cd.exit ?_
          refine thenQ_x ?_
          refine thenQ_x ?_
          refine blockQ_x ?_
          refine blockQ_n ?_
          refine thenQ_n ?_
          refine Cd.region ?_
          refine Ops.mv_int rfl rfl rfl ?_
          refine Ops.add rfl rfl rfl (by omega) ?_
          refine Ops.mv_int rfl rfl rfl ?_
          refine Ops.nil ?_
          refine thenQ_n ?_
          exact ⟨(i + 1, (A10, c10), rs6 ++ [rg rs4 (i : Int)], (A11, c11)), by show S.length - (i + 1) < S.length - i; omega, ⟨rfl, rfl, rfl, rfl, rfl, trivial⟩, by show i + 1 ≤ S.length; omega, hW7, hS8⟩
      · rw [← hb, if_neg (by rw [h3]; decide)] at hsucc
        rw [← hsucc] at hW6 hS5 ⊢
        refine Cd.skip ?_
        refine blockQ_n ?_
        refine thenQ_n ?_
        refine Cd.region ?_
        refine Ops.mv_int rfl rfl rfl ?_
        refine Ops.add rfl rfl rfl (by omega) ?_
        refine Ops.mv_int rfl rfl rfl ?_
        refine Ops.nil ?_
        refine thenQ_n ?_
        exact ⟨(i + 1, (A6, c6), rs6, (A7, c7)), by show S.length - (i + 1) < S.length - i; omega, ⟨rfl, rfl, rfl, rfl, rfl, trivial⟩, by show i + 1 ≤ S.length; omega, hW6, hS5⟩
  have hiS : i = S.length := by omega
  rw [hiS, faS_all, ← hfac, hcv] at hS4 ⊢
  rw [hiS, faS_all, ← hfac] at hW6
  clear h1 hi hiS hSm
  have hFl : (facP ls).length ≤ 1000000 := by rw [hfac]; exact Nat.le_trans (List.length_filter_le _ _) (by omega)
  have hFin : ∀ l ∈ facP ls, Ins l (cvP ls) := fun l hl => cvP_ins (facP_mem.1 hl).1
  have hFr : ∀ l ∈ facP ls, l.length ≤ 1000000 := fun l hl => by
    have h1 := hsa l (facP_mem.1 hl).1
    have h2 := Ins.len h1 (cs_SA ls.flatten) (hFin l hl)
    have h3 := cs_len ls.flatten
    omega
  have hVl : (cvP ls).length ≤ 1000000 := Nat.le_trans (cs_len _) hfl
  have hVS : SA (cvP ls) := cs_SA _
  generalize hFe : facP ls = F at *
  have hcxF : cxF ls = F.map (List.map (ix (cvP ls))) := by unfold cxF; rw [hFe]
  generalize hVe : cvP ls = Vs at *
  have hbad : CxBad ls ↔ ((∃ l ∈ F, 6 < l.length) ∨ 60 < Vs.length ∨ 400 < F.length) := by unfold CxBad; rw [hFe, hVe, hlong]
  refine Cd.exit ?_
  refine thenQ_x ?_
  refine thenQ_x ?_
  refine blockQ_x ?_
  refine thenQ_n ?_
  refine Cd.seq ?_
  refine Cd.region ?_
  refine Ops.mv_sl rfl rfl rfl ?_
  refine Ops.len rfl rfl ?_
  refine Ops.bldF2 (by exact inferInstance) (by exact inferInstance) rfl rfl rfl rfl rfl ?_
  refine Ops.new2 hS4 rfl ?_
  intro A12 w5 hS5
  refine Ops.st_agg 2 0 hS5 rfl rfl rfl rfl rfl rfl rfl ?_
  intro w6 hS6
  have hS6 : St w w6 ([Bx 27 2 A12 [.int .i64 (Vs.length : Int), .slice none 0 0], CkI 2 A7 Vs.length c7 Vs, CkR 25 A6 F.length c6 rs6, cxZ A2, CkR 25 none 0 0 []] ++ rowsCk 2 [] (((F.take 0)).map (List.map (ix Vs)))) := by
    have h := (hS6.sub (List.Sublist.cons_cons _ (List.Sublist.cons_cons _ (List.Sublist.cons_cons _ (List.sublist_cons_self _ _))))).nil 25
    refine h.perm ?_
    exact List.perm_append_comm (l₁ := [CkR 25 none 0 0 []]) (l₂ := [_, _, _, _])
  refine Ops.nil ?_
  refine thenQ_n ?_
  refine Cd.seq ?_
  refine Cd.seq ?_
  refine Cd.region ?_
  refine Ops.mv_int rfl rfl rfl ?_
  refine Ops.nil ?_
  refine thenQ_n ?_
  refine Cd.block ?_
  refine Cd.loop (α := Nat × (Option Addr × Nat) × List SlV) (fun z => [(2, .pointer A2), (6, .slice A6 F.length c6), (7, .slice A7 Vs.length c7), (12, .pointer A12), (13, .int .i64 (z.1 : Int))])
    (fun z w' => z.1 ≤ F.length ∧ (∀ l ∈ F.take z.1, l.length ≤ 6) ∧ z.2.2.length = z.1 ∧ St w w' ([Bx 27 2 A12 [.int .i64 (Vs.length : Int), .slice z.2.1.1 z.1 z.2.1.2], CkI 2 A7 Vs.length c7 Vs, CkR 25 A6 F.length c6 rs6, cxZ A2, CkR 25 z.2.1.1 z.1 z.2.1.2 z.2.2] ++ rowsCk 2 z.2.2 ((F.take z.1).map (List.map (ix Vs))))) (fun z => F.length - z.1) (0, (none, 0), []) ⟨rfl, rfl, rfl, rfl, rfl, trivial⟩ ⟨Nat.zero_le _, by simp, rfl, hS6⟩ ?_
  clear hS6 hS5 hS4
  rintro ⟨k, ⟨A13, c13⟩, rs13⟩ e w6 ⟨hk, h6, hrl13, hS6⟩
  dsimp only at hk h6 hrl13 hS6 ⊢
  refine Cd.seq ?_
  refine Cd.seq ?_
  refine Cd.region ?_
  refine Ops.mv_int rfl rfl rfl ?_
  refine Ops.mv_sl rfl rfl rfl ?_
  refine Ops.len rfl rfl ?_
  refine Ops.lss rfl rfl rfl ?_
  refine Ops.nil ?_
  refine thenQ_n ?_
  refine Cd.cond_p _ rfl (fun h1 => ?_) (fun h1 => ?_)
  · have hkF : k < F.length := by omega
    have hgF : gl F (k : Int) ∈ F := by rw [gl_mem hkF]; exact List.getElem_mem _
    have hgl := hFr _ hgF
    have hgv := hFin _ hgF
    refine Cd.skip ?_
    refine thenQ_n ?_
    refine Cd.seq ?_
    refine Cd.block ?_
    refine Cd.seq ?_
    refine Cd.region ?_
    refine Ops.bs0 hS6 rfl ?_
    intro A14 w7 hS7
    have hS7 : St w w7 (CkI 2 A14 0 0 [] :: ([Bx 27 2 A12 [.int .i64 (Vs.length : Int), .slice A13 k c13], CkI 2 A7 Vs.length c7 Vs, CkR 25 A6 F.length c6 rs6, cxZ A2, CkR 25 A13 k c13 rs13] ++ rowsCk 2 rs13 ((F.take k).map (List.map (ix Vs))))) := hS7
    refine Ops.mv_sl rfl rfl rfl ?_
    refine Ops.nil ?_
    refine thenQ_n ?_
    refine Cd.seq ?_
    refine Cd.seq ?_
    refine Cd.region ?_
    refine Ops.mv_int rfl rfl rfl ?_
    refine Ops.nil ?_
    refine thenQ_n ?_
    refine Cd.block ?_
    refine Cd.loop (α := Nat × (Option Addr × Nat)) (fun z => [(2, .pointer A2), (6, .slice A6 F.length c6), (7, .slice A7 Vs.length c7), (12, .pointer A12), (13, .int .i64 (k : Int)), (14, .slice z.2.1 z.1 z.2.2), (15, .int .i64 (z.1 : Int))])
      (fun z w' => z.1 ≤ (gl F (k : Int)).length ∧ St w w' (CkI 2 z.2.1 z.1 z.2.2 (((gl F (k : Int)).take z.1).map (ix Vs)) :: ([Bx 27 2 A12 [.int .i64 (Vs.length : Int), .slice A13 k c13], CkI 2 A7 Vs.length c7 Vs, CkR 25 A6 F.length c6 rs6, cxZ A2, CkR 25 A13 k c13 rs13] ++ rowsCk 2 rs13 ((F.take k).map (List.map (ix Vs)))))) (fun z => (gl F (k : Int)).length - z.1) (0, (A14, 0)) ⟨rfl, rfl, rfl, rfl, rfl, rfl, rfl, trivial⟩ ⟨Nat.zero_le _, hS7⟩ ?_
    clear hS7
    rintro ⟨j, A14, c14⟩ e w7 ⟨hj, hS7⟩
    dsimp only at hj hS7 ⊢
    have hF7 : RowsI w7 A6 F.length rs6 F := (hW6.later hS7.below).I (hS7.rdR 3 rfl)
    have hrk := hF7.at_ (i := (k : Int)) (by omega) (by omega)
    have hrkl := hrk.1
    refine Cd.seq ?_
    refine Cd.seq ?_
    refine Cd.region ?_
    refine Ops.mv_int rfl rfl rfl ?_
    refine Ops.mv_sl rfl rfl rfl ?_
    refine Ops.mv_int rfl rfl rfl ?_
    refine Ops.idx hF7.top.2 rfl rfl rfl (by omega) (by omega) ?_
    refine Ops.ld_sl hF7.top rfl (by omega) rfl rfl ?_
    refine Ops.len rfl rfl ?_
    refine Ops.lss rfl rfl rfl ?_
    refine Ops.nil ?_
    refine thenQ_n ?_
    refine Cd.cond_p _ rfl (fun h2 => ?_) (fun h2 => ?_)
    · have hjl : j < (gl F (k : Int)).length := by omega
      have hxv : gi (gl F (k : Int)) (j : Int) ∈ Vs := hgv _ (by rw [gi_mem hjl]; exact List.getElem_mem _)
      refine Cd.skip ?_
      refine thenQ_n ?_
      refine Cd.seq ?_
      refine Cd.block ?_
      refine Cd.region ?_
      refine Ops.mv_sl rfl rfl rfl ?_
      refine Ops.mv_sl rfl rfl rfl ?_
      refine Ops.mv_sl rfl rfl rfl ?_
      refine Ops.mv_int rfl rfl rfl ?_
      refine Ops.idx hF7.top.2 rfl rfl rfl (by omega) (by omega) ?_
      refine Ops.ld_sl hF7.top rfl (by omega) rfl rfl ?_
      refine Ops.mv_int rfl rfl rfl ?_
      refine Ops.idx hrk.2 rfl rfl rfl (by omega) (by omega) ?_
      refine Ops.ld_int hrk rfl (by omega) rfl rfl ?_
      refine Ops.call (l01IndexX_c A7 Vs.length c7 Vs _ _ (hS7.rdI 2 rfl) (by omega) hVS hxv) rfl rfl rfl ?_
      rintro _ _ ⟨rfl, rfl⟩
      refine Ops.bs1I hS7 rfl rfl rfl ?_
      intro A15 w8 hS8
      refine Ops.appI 1 hS8 rfl (hS8.rdI 0 rfl) rfl rfl rfl (by omega) (by omega) rfl ?_
      intro A16 c16 w9 hS9
      have hS9 := hS9.tail
      refine Ops.mv_sl rfl rfl rfl ?_
      refine Ops.nil ?_
      refine blockQ_n ?_
      refine thenQ_n ?_
      refine Cd.region ?_
      refine Ops.mv_int rfl rfl rfl ?_
      refine Ops.add rfl rfl rfl (by omega) ?_
      refine Ops.mv_int rfl rfl rfl ?_
      refine Ops.nil ?_
      refine thenQ_n ?_
      refine ⟨(j + 1, (A16, c16)), by show (gl F (k : Int)).length - (j + 1) < (gl F (k : Int)).length - j; omega, ⟨rfl, rfl, rfl, rfl, rfl, rfl, rfl, trivial⟩, by show j + 1 ≤ _; omega, ?_⟩
      show St w w9 (CkI 2 A16 (j + 1) c16 (((gl F (k : Int)).take (j + 1)).map (ix Vs)) :: _)
      rw [take_succ_gi hjl, List.map_append]
      exact hS9
    · have hjl : j = (gl F (k : Int)).length := by omega
      rw [hjl, List.take_length] at hS7
      rw [hjl]
      refine Cd.exit ?_
      refine thenQ_x ?_
      refine thenQ_x ?_
      refine blockQ_x ?_
      refine thenQ_n ?_
      refine Cd.seq ?_
      refine Cd.seq ?_
      refine Cd.region ?_
      refine Ops.mv_sl rfl rfl rfl ?_
      refine Ops.len rfl rfl ?_
      refine Ops.gtr rfl rfl rfl ?_
      refine Ops.nil ?_
      refine thenQ_n ?_
      refine Cd.cond_p _ rfl (fun h3 => ?_) (fun h3 => ?_)
      · have hb : CxBad ls := hbad.2 (.inl ⟨_, hgF, by omega⟩)
        unfold cxV cxL cxK
        rw [if_pos hb, if_pos hb, if_pos hb]
        refine Cd.seq ?_
        refine Cd.region ?_
        refine Ops.bldZ2 (by exact inferInstance) (by exact inferInstance) rfl rfl rfl ?_
        refine Ops.st_agg 2 4 hS7 rfl rfl rfl rfl rfl rfl rfl ?_
        intro w8 hS8
        refine Ops.mv_int rfl rfl rfl ?_
        refine Ops.nil ?_
        refine thenQ_n ?_
        refine Cd.ret ?_
        refine thenQ_r ?_
        refine blockQ_r ?_
        refine thenQ_r ?_
        refine thenQ_r ?_
        refine blockQ_r ?_
        refine thenQ_r ?_
        skip
        refine retc2_r rfl (hS8.rd 4 rfl) rfl ?_
        exact AnsC.none hS8
      · refine Cd.skip ?_
        refine thenQ_n ?_
        refine Cd.region ?_
        refine Ops.fld (hS7.rd 1 rfl) rfl rfl rfl rfl inferInstance ?_
        refine Ops.ldf_s (hS7.rd 1 rfl) rfl rfl rfl rfl rfl ?_
        refine Ops.mv_sl rfl rfl rfl ?_
        refine Ops.bs1R hS7 rfl rfl rfl ?_
        intro A15 w8 hS8
        refine Ops.appR 6 hS8 rfl (hS8.rdR 0 rfl) rfl rfl rfl (by omega) (by omega) rfl ?_
        intro A16 c16 w9 hS9
        have hS9 : St w w9 (CkI 2 A14 (gl F (k : Int)).length c14 ((gl F (k : Int)).map (ix Vs)) :: ([Bx 27 2 A12 [.int .i64 (Vs.length : Int), .slice A13 k c13], CkI 2 A7 Vs.length c7 Vs, CkR 25 A6 F.length c6 rs6, cxZ A2, CkR 25 A16 (k + 1) c16 (rs13 ++ [⟨A14, (gl F (k : Int)).length, c14⟩])] ++ rowsCk 2 rs13 ((F.take k).map (List.map (ix Vs))))) := hS9.tail
        skip
        refine Ops.fld (hS9.rd 1 rfl) rfl rfl rfl rfl inferInstance ?_
        refine Ops.stf 1 hS9 rfl rfl rfl rfl rfl ?_
        intro w10 hS10
        have hS10 : St w w10 (CkI 2 A14 (gl F (k : Int)).length c14 ((gl F (k : Int)).map (ix Vs)) :: ([Bx 27 2 A12 [.int .i64 (Vs.length : Int), .slice A16 (k + 1) c16], CkI 2 A7 Vs.length c7 Vs, CkR 25 A6 F.length c6 rs6, cxZ A2, CkR 25 A16 (k + 1) c16 (rs13 ++ [⟨A14, (gl F (k : Int)).length, c14⟩])] ++ rowsCk 2 rs13 ((F.take k).map (List.map (ix Vs))))) := hS10
        refine Ops.nil ?_
        refine blockQ_n ?_
        refine thenQ_n ?_
        refine Cd.region ?_
        refine Ops.mv_int rfl rfl rfl ?_
        refine Ops.add rfl rfl rfl (by omega) ?_
        refine Ops.mv_int rfl rfl rfl ?_
        refine Ops.nil ?_
        refine thenQ_n ?_
        refine ⟨(k + 1, (A16, c16), rs13 ++ [⟨A14, (gl F (k : Int)).length, c14⟩]), by show F.length - (k + 1) < F.length - k; omega, ⟨rfl, rfl, rfl, rfl, rfl, trivial⟩, by show k + 1 ≤ F.length; omega, ?_, by show (rs13 ++ [_]).length = k + 1; simp; omega, ?_⟩
        · show ∀ l ∈ F.take (k + 1), l.length ≤ 6
          rw [take_succ_gl hkF]
          intro l hl
          rcases List.mem_append.1 hl with hl | hl
          · exact h6 l hl
          · obtain rfl : l = gl F (k : Int) := by simpa using hl
            omega
        · show St w w10 ([Bx 27 2 A12 [.int .i64 (Vs.length : Int), .slice A16 (k + 1) c16], CkI 2 A7 Vs.length c7 Vs, CkR 25 A6 F.length c6 rs6, cxZ A2, CkR 25 A16 (k + 1) c16 (rs13 ++ [⟨A14, (gl F (k : Int)).length, c14⟩])] ++ rowsCk 2 (rs13 ++ [⟨A14, (gl F (k : Int)).length, c14⟩]) ((F.take (k + 1)).map (List.map (ix Vs))))
          rw [take_succ_gl hkF, List.map_append, rowsCk_append (by rw [hrl13]; simp; omega), ← List.append_assoc]
          exact hS10.perm (List.perm_append_comm (l₁ := [CkI 2 A14 (gl F (k : Int)).length c14 ((gl F (k : Int)).map (ix Vs))]))
  · have hkF : k = F.length := by omega
    subst hkF
    rw [List.take_length] at hS6 h6
    refine Cd.exit ?_
    refine thenQ_x ?_
    refine thenQ_x ?_
    refine blockQ_x ?_
    refine thenQ_n ?_
    refine Cd.seq ?_
    refine Cd.seq ?_
    refine Cd.region ?_
    refine Ops.mv_sl rfl rfl rfl ?_
    refine Ops.len rfl rfl ?_
    refine Ops.gtr rfl rfl rfl ?_
    refine Ops.mv_bool rfl rfl rfl ?_
    refine Ops.split_p 137 rfl (fun h2 => ?_) (fun h2 => ?_)
    · have hb : CxBad ls := hbad.2 (.inr (.inl (by omega)))
      unfold cxV cxL cxK
      rw [if_pos hb, if_pos hb, if_pos hb]
      refine Ops.skipg rfl rfl rfl rfl rfl ?_
      refine Ops.skipg rfl rfl rfl rfl rfl ?_
      refine Ops.skipg rfl rfl rfl rfl rfl ?_
      refine Ops.pick_t rfl rfl rfl ?_
      refine Ops.nil ?_
      refine thenQ_n ?_
      refine Cd.cond_t rfl ?_
      refine Cd.seq ?_
      refine Cd.region ?_
      refine Ops.bldZ2 (by exact inferInstance) (by exact inferInstance) rfl rfl rfl ?_
      refine Ops.st_agg 2 3 hS6 rfl rfl rfl rfl rfl rfl rfl ?_
      intro w8 hS8
      refine Ops.mv_int rfl rfl rfl ?_
      refine Ops.nil ?_
      refine thenQ_n ?_
      refine Cd.ret ?_
      refine thenQ_r ?_
      skip
      refine retc2_r rfl (hS8.rd 3 rfl) rfl ?_
      exact AnsC.none hS8
    · refine Ops.rung rfl rfl rfl ?_
      refine Ops.mv_sl rfl rfl rfl ?_
      refine Ops.rung rfl rfl rfl ?_
      refine Ops.len rfl rfl ?_
      refine Ops.rung rfl rfl rfl ?_
      refine Ops.gtr rfl rfl rfl ?_
      refine Ops.pick_f rfl rfl rfl ?_
      refine Ops.nil ?_
      refine thenQ_n ?_
      refine Cd.cond_p _ rfl (fun h3 => ?_) (fun h3 => ?_)
      · have hb : CxBad ls := hbad.2 (.inr (.inr (by omega)))
        unfold cxV cxL cxK
        rw [if_pos hb, if_pos hb, if_pos hb]
        refine Cd.seq ?_
        refine Cd.region ?_
        refine Ops.bldZ2 (by exact inferInstance) (by exact inferInstance) rfl rfl rfl ?_
        refine Ops.st_agg 2 3 hS6 rfl rfl rfl rfl rfl rfl rfl ?_
        intro w8 hS8
        refine Ops.mv_int rfl rfl rfl ?_
        refine Ops.nil ?_
        refine thenQ_n ?_
        refine Cd.ret ?_
        refine thenQ_r ?_
        skip
        refine retc2_r rfl (hS8.rd 3 rfl) rfl ?_
        exact AnsC.none hS8
      · have hok : ¬ CxBad ls := fun h => by
          rcases hbad.1 h with ⟨l, hl, h⟩ | h | h
          · have := h6 l hl; omega
          · omega
          · omega
        unfold cxV cxL cxK
        rw [if_neg hok, if_neg hok, if_neg hok, hcxF, hVe]
        refine Cd.skip ?_
        refine thenQ_n ?_
        refine Cd.seq ?_
        refine Cd.region ?_
        refine Ops.ld_agg 1 (hS6.rd 0 rfl) rfl rfl rfl ?_
        refine Ops.st_agg 2 3 hS6 rfl rfl rfl rfl rfl rfl rfl ?_
        intro w8 hS8
        have hS9 : St w w8 (mat 25 2 A13 (F.map (List.map (ix Vs))).length c13 rs13 (F.map (List.map (ix Vs))) ++ []) := by
          rw [List.append_nil, List.length_map]
          exact hS8.sub (List.Sublist.cons _ (List.Sublist.cons _ (List.Sublist.cons _ (List.sublist_cons_self _ _))))
        refine Ops.mv_int rfl rfl rfl ?_
        refine Ops.nil ?_
        refine thenQ_n ?_
        refine Cd.ret ?_
        skip
        refine retc2_r rfl (hS8.rd 3 rfl) rfl ?_
        exact ⟨A13, c13, rs13, by rw [List.length_map]; rfl, by rw [List.length_map]; exact hrl13, hS9⟩
end Go.Proofs.YtdedegbendjmbaaGreatDoor.Vc
/-
  The walk of the law FnExactPartsOf: it returns true. Conditions: as it states them.
-/
namespace Go.Proofs.YtdedegbendjmbaaGreatDoor.Vc
open Go.RowKit

end Go.Proofs.YtdedegbendjmbaaGreatDoor.Vc
/-
  GirthOf on both sides, and the walk of its law. Conditions: the library's table of powers of ten holds what the program's text lays there.
-/
namespace Go.Proofs.YtdedegbendjmbaaGreatDoor.Vc
open Go.RowKit

def encS (g : Int) : Int := if g = 0 then -1 else g
end Go.Proofs.YtdedegbendjmbaaGreatDoor.Vc
/-
  The link of a face on both sides, walked. Conditions: as each states them.
-/
namespace Go.Proofs.YtdedegbendjmbaaGreatDoor.Vc
open Go.RowKit

def Fce (F : List (List Int)) (face : List Int) : Prop := SA face ∧ (face = [] ∨ ∃ f ∈ F, Ins face f)
instance (F : List (List Int)) (face : List Int) : Decidable (Fce F face) := by unfold Fce; exact inferInstance
def lnkL (F : List (List Int)) (face : List Int) : List (List Int) := (F.filter fun f => decide (Ins face f)).map fun f => lessL f face
def lkV (V : Int) (F : List (List Int)) (face : List Int) : Int := if Cplx V F ∧ Fce F face then cxV (lnkL F face) else 0
def lkL (V : Int) (F : List (List Int)) (face : List Int) : List (List Int) := if Cplx V F ∧ Fce F face then cxL (lnkL F face) else []
def lkK (V : Int) (F : List (List Int)) (face : List Int) : Int := if Cplx V F then (if Fce F face then cxK (lnkL F face) else 2) else 1
theorem flat_le2 {ss : List (List Int)} {b : Nat} (h : ∀ l ∈ ss, l.length ≤ b) : ss.flatten.length ≤ b * ss.length := by
  induction ss with
  | nil => simp
  | cons a r ih =>
    have h1 := h a (by simp)
    have h2 := ih fun l hl => h l (by simp [hl])
    simp only [List.flatten_cons, List.length_append, List.length_cons, Nat.mul_add, Nat.mul_one]
    omega
theorem map_cs_id {L : List (List Int)} (h : ∀ l ∈ L, SA l) : L.map cs = L := by
  induction L with
  | nil => rfl
  | cons a r ih => rw [List.map_cons, ih fun l hl => h l (by simp [hl]), ← cs_eq (h a (by simp)) fun _ => Iff.rfl]

theorem indexRF_c (A : Option Addr) (n c : Nat) (rs : List SlV) (G : FuncId) [hF : Fnc Tryz.prog G] (cv : List Value) (pd : Nat → Bool) (w : World) (hR : RdR w A n rs) (hn : n ≤ 4000000000000)
    (hcall : ∀ (w' : World) (i : Nat), Below w.heap.size w w' → i < n → Ret Tryz.prog G (.slice (rg rs (i : Int)).a (rg rs (i : Int)).n (rg rs (i : Int)).c :: cv) w' (fun v w'' => v = .bool (pd i) ∧ St w' w'' [])) :
    Ret Tryz.prog 154 [.slice A n c, .func (.func G) #[] cv.toArray] w (fun v w' => (∃ i : Int, v = .int .i64 i ∧ (0 ≤ i ↔ ∃ j, j < n ∧ pd j = true)) ∧ St w w' []) := by
  have hxl := hR.1
  refine Ret.of_cd Tryz.func154 rfl Tryz.ntmps154 rfl (post1 rfl) ?_
  refine Cd.seq ?_
  refine Cd.region ?_
  refine Ops.mv_int rfl rfl rfl ?_
  refine Ops.nil ?_
  refine thenQ_n ?_
  refine Cd.seq ?_
  refine Cd.seq ?_
  refine Cd.region ?_
  refine Ops.mv_sl rfl rfl rfl ?_
  refine Ops.len rfl rfl ?_
  refine Ops.mv_int rfl rfl rfl ?_
  refine Ops.nil ?_
  refine thenQ_n ?_
  refine Cd.block ?_
  refine Cd.loop (α := Nat) (fun k => [(0, .slice A n c), (1, .func (.func G) #[] cv.toArray), (7, .int .i64 (n : Int)), (8, .int .i64 (k : Int))]) (fun k w' => St w w' [] ∧ k ≤ n ∧ ∀ j, j < k → pd j = false) (fun k => n - k) 0 ⟨rfl, rfl, rfl, rfl, trivial⟩ ⟨St.refl w, Nat.zero_le _, fun j hj => by omega⟩ ?_
  rintro k e w1 ⟨hS, hk, hK⟩
  refine Cd.seq ?_
  refine Cd.region ?_
  refine Ops.lss rfl rfl rfl ?_
  refine Ops.nil ?_
  refine thenQ_n ?_
  refine Cd.seq ?_
  refine Cd.cond_p _ rfl (fun h3 => ?_) (fun h3 => ?_)
  · have hR1 := hS.oldR hR
    refine Cd.skip ?_
    refine thenQ_n ?_
    refine Cd.seq ?_
    refine Cd.block ?_
    refine Cd.seq ?_
    refine Cd.region ?_
    refine Ops.mv_int rfl rfl rfl ?_
    refine Ops.mv_int rfl rfl rfl ?_
    refine Ops.nil ?_
    refine thenQ_n ?_
    refine Cd.seq ?_
    refine Cd.region ?_
    refine Ops.mv_fn rfl rfl rfl ?_
    refine Ops.mv_sl rfl rfl rfl ?_
    refine Ops.mv_int rfl rfl rfl ?_
    refine Ops.idx hR1.2 rfl rfl rfl (by omega) (by omega) ?_
    refine Ops.ld_sl hR1 rfl (by omega) rfl rfl ?_
    refine Ops.call (hcall w1 k hS.below (by omega)) rfl rfl rfl ?_
    rintro _ w2 ⟨rfl, hst⟩
    refine Ops.nil ?_
    refine thenQ_n ?_
    refine Cd.cond rfl (fun h4 => ?_) (fun h4 => ?_)
    · refine Cd.seq ?_
      refine Cd.region ?_
      refine Ops.mv_int rfl rfl rfl ?_
      refine Ops.mv_int rfl rfl rfl ?_
      refine Ops.nil ?_
      refine thenQ_n ?_
      refine Cd.ret ?_
      refine blockQ_r ?_
      refine thenQ_r ?_
      refine thenQ_r ?_
      refine blockQ_r ?_
      refine thenQ_r ?_
      refine ret1_i rfl ?_
      exact ⟨⟨(k : Int), rfl, ⟨fun _ => ⟨k, by omega, h4⟩, fun _ => by omega⟩⟩, hS.later hst.below⟩
    · refine Cd.skip ?_
      refine blockQ_n ?_
      refine thenQ_n ?_
      refine Cd.region ?_
      refine Ops.add rfl rfl rfl (by omega) ?_
      refine Ops.mv_int rfl rfl rfl ?_
      refine Ops.nil ?_
      refine thenQ_n ?_
      refine ⟨k + 1, by show n - (k + 1) < n - k; omega, ⟨rfl, rfl, rfl, rfl, trivial⟩, hS.later hst.below, by omega, fun j hj => ?_⟩
      by_cases ej : j = k
      · subst ej; exact h4
      · exact hK j (by omega)
  · refine Cd.exit ?_
    refine thenQ_x ?_
    refine thenQ_x ?_
    refine blockQ_x ?_
    refine thenQ_n ?_
    refine Cd.seq ?_
    refine Cd.region ?_
    refine Ops.mv_int rfl rfl rfl ?_
    refine Ops.nil ?_
    refine thenQ_n ?_
    refine Cd.ret ?_
    refine ret1_i rfl ?_
    refine ⟨⟨-1, rfl, ⟨fun h => absurd h (by decide), fun ⟨j, hj, hp⟩ => ?_⟩⟩, hS⟩
    rw [hK j (by omega)] at hp
    cases hp
theorem containsRF_c (A : Option Addr) (n c : Nat) (rs : List SlV) (G : FuncId) [hF : Fnc Tryz.prog G] (cv : List Value) (pd : Nat → Bool) (w : World) (hR : RdR w A n rs) (hn : n ≤ 4000000000000)
    (hcall : ∀ (w' : World) (i : Nat), Below w.heap.size w w' → i < n → Ret Tryz.prog G (.slice (rg rs (i : Int)).a (rg rs (i : Int)).n (rg rs (i : Int)).c :: cv) w' (fun v w'' => v = .bool (pd i) ∧ St w' w'' [])) :
    Ret Tryz.prog 120 [.slice A n c, .func (.func G) #[] cv.toArray] w (fun v w' => v = .bool (decide (∃ j, j < n ∧ pd j = true)) ∧ St w w' []) := by
  refine Ret.of_cd Tryz.func120 rfl Tryz.ntmps120 rfl (post1 rfl) ?_
  refine Cd.seq ?_
  refine Cd.region ?_
  refine Ops.mv_bool rfl rfl rfl ?_
  refine Ops.nil ?_
  refine thenQ_n ?_
  refine Cd.seq ?_
  refine Cd.region ?_
  refine Ops.mv_sl rfl rfl rfl ?_
  refine Ops.mv_fn rfl rfl rfl ?_
  refine Ops.call (indexRF_c A n c rs G cv pd w hR hn hcall) rfl rfl rfl ?_
  rintro _ w2 ⟨⟨i, rfl, hi⟩, hS2⟩
  refine Ops.geq rfl rfl rfl ?_
  refine Ops.mv_bool rfl rfl rfl ?_
  refine Ops.nil ?_
  refine thenQ_n ?_
  refine Cd.ret ?_
  refine ret1_b rfl ?_
  exact ⟨congrArg Value.bool (decide_eq_decide.2 hi), hS2⟩
end Go.Proofs.YtdedegbendjmbaaGreatDoor.Vc
/-
  The walk of the law FnExactLinkOf: it returns true. Conditions: the library's table of powers of ten holds what the program's text lays there.
-/
namespace Go.Proofs.YtdedegbendjmbaaGreatDoor.Vc
open Go.RowKit

theorem cxL_bd {ls : List (List Int)} : (cxL ls).length ≤ 1000 ∧ ∀ x ∈ cxL ls, x.length ≤ 1000 := by
  unfold cxL
  split
  · simp
  · rename_i h
    have h1 : ¬ (∃ l ∈ ls, 6 < l.length) := fun h' => h (.inl h')
    have h2 : (facP ls).length ≤ 400 := Nat.le_of_not_lt fun h' => h (.inr (.inr h'))
    unfold cxF
    refine ⟨by rw [List.length_map]; omega, fun x hx => ?_⟩
    obtain ⟨l, hl, rfl⟩ := List.mem_map.1 hx
    rw [List.length_map]
    have : ¬ 6 < l.length := fun h' => h1 ⟨l, (facP_mem.1 hl).1, h'⟩
    omega
abbrev lxB (Ab : Option Addr) (V : Int) (A : Option Addr) (n c : Nat) : Ck := Bx 24 2 Ab [.int .i64 V, .slice A n c]

end Go.Proofs.YtdedegbendjmbaaGreatDoor.Vc
/-
  Rows of pointers, and pointers compared with none. Conditions: as each rule names them.
-/
namespace Go.Proofs.YtdedegbendjmbaaGreatDoor.Vc
open Go.RowKit

section
variable {P : Program} {N : Nat} {ops : Array Oper} {K : Env → World → Prop} {rest : List Oper} {e : Env} {w0 w w' : World} {ks : List Ck} {d : Nat} {ty : TypeId} {pos : String} {af : Array Edge}
theorem Ops.eqNilP {t t' el : TypeId} [Und P t (.pointer el)] {x y : Operand} {A : Option Addr} (hx : ev e x = .pointer A) (hy : ev e y = .pointer none) (hb : Nat.blt d N = true) (hK : Ops P N ops K rest (upd e d (.bool A.isNone)) w) :
    Ops P N ops K (⟨some d, .binOp .eql t x y t', ty, pos, af, none⟩ :: rest) e w := by
  have hr : (Op.equal t (.pointer A) (.pointer none)).run P w = .ok A.isNone w := by
    show (Op.equalIn (9999 + 1) t (.pointer A) (.pointer none)).run P w = _
    rw [Op.equalIn]
    cases A <;> simp [run_underlying (Und.out (P := P) (t := t))]
  exact .val (by simp [execOp, hx, hy, eqGuard, binOp, hr]) hb hK
theorem Ops.lookP {κ : Type} [DecidableEq κ] {kd : TypeDesc} {kv : κ → Value} {t kt et : TypeId} {b : Nat} [Und P t (.map kt et)] [Und P kt kd] [Inf P et (.pointer none) 1 b] (KT : KeyT kd kv) {g : Nat} {L : List (κ × Option Addr)} {m ix : Operand} (x : κ) (hR : RdM w g (prV kv Value.pointer L)) (hx : ev e m = .map (some g)) (hy : ev e ix = kv x) (hb : Nat.blt d N = true)
    (hK : Ops P N ops K rest (upd e d (.pointer ((getA L x).getD none))) w) : Ops P N ops K (⟨some d, .lookup t m ix false, ty, pos, af, none⟩ :: rest) e w :=
  .look KT hR hx hy (by cases getA L x <;> rfl) hb hK
theorem Ops.lookP' {κ : Type} [DecidableEq κ] {kd : TypeDesc} {kv : κ → Value} {t kt et : TypeId} {b : Nat} [Und P t (.map kt et)] [Und P kt kd] [Inf P et (.pointer none) 1 b] (KT : KeyT kd kv) {g : Nat} {L : List (κ × Option Addr)} {m ix : Operand} (x : κ) {p : Option Addr} (hp : getA L x = some p) (hR : RdM w g (prV kv Value.pointer L)) (hx : ev e m = .map (some g)) (hy : ev e ix = kv x) (hb : Nat.blt d N = true)
    (hK : Ops P N ops K rest (upd e d (.pointer p)) w) : Ops P N ops K (⟨some d, .lookup t m ix false, ty, pos, af, none⟩ :: rest) e w :=
  .look KT hR hx hy (by rw [hp]; rfl) hb hK
end

/-- a row of pointers -/
abbrev CkP (t : TypeId) (A : Option Addr) (n c : Nat) (ps : List (Option Addr)) : Ck := ⟨A, n, c, t, ps.map Value.pointer⟩
theorem isM_P (ps : List (Option Addr)) : isM (ps.map Value.pointer) = false := isM_all fun v hv => by obtain ⟨_, _, rfl⟩ := List.mem_map.1 hv; rfl
def RdP (w : World) (A : Option Addr) (n : Nat) (ps : List (Option Addr)) : Prop := ps.length = n ∧ Rd w A n fun j => .pointer (ps.getD j none)
theorem St.rdP {w0 w : World} {ks : List Ck} {t : TypeId} {A : Option Addr} {n c : Nat} {ps : List (Option Addr)} (h : St w0 w ks) (i : Nat) (hk : ks[i]? = some (CkP t A n c ps)) : RdP w A n ps := by
  have hl : ps.length = n := by have := (h.getC hk (isM_P ps)).1; simpa [CkP] using this
  refine ⟨hl, (h.rd i hk).congr fun j hj => ?_⟩
  have hj : j < n := hj
  show (ps.map Value.pointer).getD j undef = _
  simp [List.getD_eq_getElem?_getD, List.getElem?_eq_getElem (show j < ps.length by omega)]
theorem map_range_P {ps : List (Option Addr)} {n : Nat} (h : ps.length = n) : ((List.range n).map fun j => Value.pointer (ps.getD j none)) = ps.map Value.pointer := by
  subst h
  apply List.ext_getElem
  · simp
  · intro j h1 h2
    have hj : j < ps.length := by simpa using h2
    simp [List.getD_eq_getElem?_getD, List.getElem?_eq_getElem hj]
section
variable {P : Program} {N : Nat} {ops : Array Oper} {K : Env → World → Prop} {rest : List Oper} {e : Env} {w0 w w' : World} {ks : List Ck} {d : Nat} {ty : TypeId} {pos : String} {af : Array Edge}
theorem Ops.appP {t el : TypeId} {z : Value} {b : Nat} [hU : Und P t (.slice el)] [Inf P el z 1 b] {x y : Operand} (i : Nat) {A : Option Addr} {n c : Nat} {ps : List (Option Addr)} {A' : Option Addr} {m c' : Nat} {qs : List (Option Addr)} (hS : St w0 w ks) (hk : ks[i]? = some (CkP el A n c ps)) (hR : RdP w A' m qs) (hx : ev e x = .slice A n c) (hy : ev e y = .slice A' m c') {z0 : Value} (hz : z.cells = #[z0])
    (h63 : n + m ≤ 9223372036854775807) (hbytes : (n + m) * b ≤ 140737488355328) (hb : Nat.blt d N = true)
    (hK : ∀ A2 c2 w', St w0 w' (ks.set i (CkP el A2 (n + m) c2 (ps ++ qs))) → Ops P N ops K rest (upd e d (.slice A2 (n + m) c2)) w') :
    Ops P N ops K (⟨some d, .call ⟨.builtin .append, #[x, y], #[t, t]⟩, ty, pos, af, none⟩ :: rest) e w :=
  .app i hS hk hR.2 hx hy rfl hz (fun _ _ => rfl) (by simpa [maxLen] using h63) hbytes hb (fun A2 c2 w' h => hK A2 c2 w' (by
    rw [map_range_P hR.1] at h
    simpa [CkP] using h)) (isM_P _)
end
end Go.Proofs.YtdedegbendjmbaaGreatDoor.Vc
/-
  Plain mathematics of complexes: faces with so many elements, and their numbers. Conditions: as each states them. No program in sight.
-/
namespace Go.Proofs.YtdedegbendjmbaaGreatDoor.Vc

/-- parts of some lists, as they are met -/
def faL (F : List (List Int)) (k : Nat) : List (List Int) := if k = 0 then [[]] else F.flatMap fun f => ptsP f k
/-- the faces with k elements, in order -/
def fcs (F : List (List Int)) (k : Nat) : List (List Int) := (faL F k).foldl putL []
theorem faL_mem {F : List (List Int)} {k : Nat} {x : List Int} : x ∈ faL F k ↔ (k = 0 ∧ x = []) ∨ (0 < k ∧ ∃ f ∈ F, x.Sublist f ∧ x.length = k) := by
  unfold faL
  by_cases h : k = 0
  · simp [h]
  · rw [if_neg h, List.mem_flatMap]
    simp only [ptsP_mem]
    constructor
    · rintro ⟨f, h1, h2⟩; exact .inr ⟨by omega, f, h1, h2⟩
    · rintro (h' | ⟨_, f, h1, h2⟩)
      · exact absurd h'.1 h
      · exact ⟨f, h1, h2⟩
theorem fcs_SL (F : List (List Int)) (k : Nat) : SL (fcs F k) := (foldPut_SL _ (by simp [SL])).1
theorem fcs_mem {F : List (List Int)} {k : Nat} {x : List Int} : x ∈ fcs F k ↔ x ∈ faL F k := by
  rw [fcs, (foldPut_SL _ (by simp [SL])).2]; simp
theorem fcs_of {F : List (List Int)} {k : Nat} {l : List (List Int)} (hs : SL l) (h : ∀ x, x ∈ l ↔ x ∈ faL F k) : l = fcs F k :=
  hs.eq (fcs_SL F k) fun x => (h x).trans fcs_mem.symm
theorem fcs_zero (F : List (List Int)) : fcs F 0 = [[]] := (fcs_of (by simp [SL]) fun x => by simp [faL]).symm
theorem fcs_len {F : List (List Int)} {k : Nat} {x : List Int} (h : x ∈ fcs F k) : x.length = k := by
  rcases faL_mem.1 (fcs_mem.1 h) with ⟨h1, h2⟩ | ⟨_, f, _, _, h2⟩
  · rw [h1, h2]; rfl
  · exact h2
theorem faL_num {F : List (List Int)} (k : Nat) (h6 : ∀ f ∈ F, f.length ≤ 6) : (faL F k).length ≤ 64 * F.length + 1 := by
  unfold faL
  split
  · simp
  · suffices h : (F.flatMap fun f => ptsP f k).length ≤ 64 * F.length by omega
    induction F with
    | nil => simp
    | cons a r ih =>
      have h1 := ptsP_small (l := a) k (h6 a (by simp))
      have h2 := ih fun f hf => h6 f (by simp [hf])
      rw [List.flatMap_cons, List.length_append, List.length_cons]
      omega
theorem fcs_num {F : List (List Int)} (k : Nat) (h6 : ∀ f ∈ F, f.length ≤ 6) : (fcs F k).length ≤ 64 * F.length + 1 := by
  have h1 := faL_num k h6
  have h2 : (fcs F k).length ≤ (faL F k).length := by
    have := foldPut_len (faL F k) []
    simpa [fcs] using this
  omega
/-- the greatest number of elements -/
def dpt (F : List (List Int)) : Nat := F.foldl (fun d f => max d f.length) 0
theorem foldMax (F : List (List Int)) : ∀ d : Nat, (∀ f ∈ F, f.length ≤ F.foldl (fun d f => max d f.length) d) ∧ d ≤ F.foldl (fun d f => max d f.length) d ∧ (F.foldl (fun d f => max d f.length) d = d ∨ ∃ f ∈ F, f.length = F.foldl (fun d f => max d f.length) d) := by
  induction F with
  | nil => intro d; simp
  | cons a r ih =>
    intro d
    obtain ⟨h1, h2, h3⟩ := ih (max d a.length)
    rw [List.foldl_cons]
    refine ⟨fun f hf => ?_, by omega, ?_⟩
    · rcases List.mem_cons.1 hf with rfl | hf
      · omega
      · exact h1 f hf
    · rcases h3 with h3 | ⟨f, hf, h3⟩
      · by_cases e : a.length ≤ d
        · exact .inl (by omega)
        · exact .inr ⟨a, by simp, by omega⟩
      · exact .inr ⟨f, by simp [hf], h3⟩
theorem dpt_le {F : List (List Int)} {f : List Int} (h : f ∈ F) : f.length ≤ dpt F := (foldMax F 0).1 f h
theorem dpt_bd {F : List (List Int)} {b : Nat} (h : ∀ f ∈ F, f.length ≤ b) : dpt F ≤ b := by
  rcases (foldMax F 0).2.2 with h1 | ⟨f, hf, h1⟩
  · unfold dpt; omega
  · have := h f hf; unfold dpt; omega
theorem dpt_ex {F : List (List Int)} (h : F ≠ []) : ∃ f ∈ F, f.length = dpt F := by
  rcases (foldMax F 0).2.2 with h1 | h1
  · match F, h with
    | a :: r, _ => exact ⟨a, by simp, by have := dpt_le (F := a :: r) (f := a) (by simp); unfold dpt at this ⊢; omega⟩
  · exact h1
theorem dpt_succ {F : List (List Int)} {i : Nat} (h : i < F.length) : dpt (F.take (i + 1)) = max (dpt (F.take i)) (gl F (i : Int)).length := by
  unfold dpt
  rw [take_succ_gl h, List.foldl_append]; rfl
/-- the numbers of faces -/
def fvP (F : List (List Int)) : List Int := (List.range (dpt F + 1)).map fun k => ((fcs F k).length : Int)
end Go.Proofs.YtdedegbendjmbaaGreatDoor.Vc
/-
  Plain mathematics of complexes: faces of deletions, links and skeletons, counted. Conditions: as each states them. No program in sight.
-/
namespace Go.Proofs.YtdedegbendjmbaaGreatDoor.Vc

/-- so many faces with k elements -/
def nf (F : List (List Int)) (k : Nat) : Nat := (fcs F k).length
theorem sub_SA {a b : List Int} (h : a.Sublist b) (hb : SA b) : SA a := List.Pairwise.sublist h hb
theorem fcs_sa {F : List (List Int)} {k : Nat} (hs : ∀ f ∈ F, SA f) {x : List Int} (h : x ∈ fcs F k) : SA x := by
  rcases faL_mem.1 (fcs_mem.1 h) with ⟨_, rfl⟩ | ⟨_, f, hf, h1, _⟩
  · exact List.Pairwise.nil
  · exact sub_SA h1 (hs f hf)
/-- the element at a place, 0 outside (the law's at9) -/
def at0 (f : List Int) (k : Int) : Int := if 0 ≤ k ∧ k < f.length then gi f k else 0
/-! a vertex left out -/
def delL (F : List (List Int)) (v : Int) : List (List Int) := F.map fun f => lessL f [v]
/-! skeletons -/
def sklL (F : List (List Int)) (k : Nat) : List (List Int) := F.flatMap fun f => ptsP f (min k f.length)
end Go.Proofs.YtdedegbendjmbaaGreatDoor.Vc
/-
  Plain mathematics of complexes: pure ones, and the faces with one element less than facets. Conditions: as each states them. No program in sight.
-/
namespace Go.Proofs.YtdedegbendjmbaaGreatDoor.Vc

theorem fcs_iff' {F : List (List Int)} (hne : F ≠ []) {k : Nat} {x : List Int} : x ∈ fcs F k ↔ (∃ f ∈ F, x.Sublist f) ∧ x.length = k := by
  rw [fcs_mem, faL_mem]
  constructor
  · rintro (⟨h0, rfl⟩ | ⟨_, f, hf, h1, h2⟩)
    · match F, hne with
      | f :: _, _ => exact ⟨⟨f, by simp, List.nil_sublist f⟩, h0.symm⟩
    · exact ⟨⟨f, hf, h1⟩, h2⟩
  · rintro ⟨⟨f, hf, h1⟩, h2⟩
    by_cases h : k = 0
    · exact .inl ⟨h, List.eq_nil_of_length_eq_zero (by omega)⟩
    · exact .inr ⟨by omega, f, hf, h1, h2⟩
def Pure (F : List (List Int)) : Prop := ∀ f ∈ F, f.length = dpt F
instance (F : List (List Int)) : Decidable (Pure F) := by unfold Pure; exact inferInstance
theorem Pure.first {F : List (List Int)} : Pure F ↔ ∀ f ∈ F, f.length = (gl F 0).length := by
  match F with
  | [] => simp [Pure]
  | a :: r =>
    have e : gl (a :: r) 0 = a := rfl
    rw [e]
    constructor
    · intro h f hf
      rw [h f hf, h a (by simp)]
    · intro h f hf
      obtain ⟨g, hg, h1⟩ := dpt_ex (F := a :: r) (by simp)
      rw [← h1, h f hf, h g hg]

/-! faces told with the facets that have them, in the order in which they are met -/
def rdS (R : List (List Int × List Int)) (q : List Int × Int) : List (List Int × List Int) :=
  if q.1 ∈ R.map (·.1) then R.map fun p => if p.1 = q.1 then (p.1, p.2 ++ [q.2]) else p else R ++ [(q.1, [q.2])]
def rdF (Q : List (List Int × Int)) : List (List Int × List Int) := Q.foldl rdS []
theorem rdF_snoc (Q : List (List Int × Int)) (q : List Int × Int) : rdF (Q ++ [q]) = rdS (rdF Q) q := by simp [rdF, List.foldl_append]
theorem rdS_keys (R : List (List Int × List Int)) (q : List Int × Int) : (rdS R q).map (·.1) = if q.1 ∈ R.map (·.1) then R.map (·.1) else R.map (·.1) ++ [q.1] := by
  unfold rdS
  split
  · rw [List.map_map]
    refine List.map_congr_left fun p _ => ?_
    show (if p.1 = q.1 then (p.1, p.2 ++ [q.2]) else p).1 = p.1
    split <;> rfl
  · simp
theorem rdF_inv : ∀ (n : Nat) (Q : List (List Int × Int)), Q.length = n → ((rdF Q).map (·.1)).Nodup ∧ (∀ x, x ∈ (rdF Q).map (·.1) ↔ ∃ i, (x, i) ∈ Q) ∧ ∀ p ∈ rdF Q, p.2 = (Q.filter fun q => decide (q.1 = p.1)).map (·.2)
  | 0, Q, h => by
    obtain rfl := List.eq_nil_of_length_eq_zero h
    simp [rdF]
  | n + 1, Q, h => by
    obtain ⟨Q0, q, rfl⟩ : ∃ Q0 q, Q = Q0 ++ [q] := ⟨Q.dropLast, Q.getLast (fun e => by rw [e] at h; simp at h), (List.dropLast_concat_getLast _).symm⟩
    obtain ⟨h1, h2, h3⟩ := rdF_inv n Q0 (by simpa using h)
    rw [rdF_snoc, rdS_keys]
    refine ⟨?_, ?_, ?_⟩
    · split
      · exact h1
      · rename_i hq
        refine List.nodup_append.2 ⟨h1, by simp, fun a ha b hb e => hq ?_⟩
        obtain rfl : b = q.1 := by simpa using hb
        rw [← e]; exact ha
    · intro x
      have key : (∃ i, (x, i) ∈ Q0 ++ [q]) ↔ (∃ i, (x, i) ∈ Q0) ∨ x = q.1 := by
        constructor
        · rintro ⟨i, hi⟩
          rcases List.mem_append.1 hi with hi | hi
          · exact .inl ⟨i, hi⟩
          · have : (x, i) = q := by simpa using hi
            exact .inr (by rw [← this])
        · rintro (⟨i, hi⟩ | rfl)
          · exact ⟨i, List.mem_append_left _ hi⟩
          · exact ⟨q.2, by simp⟩
      rw [key]
      split
      · rename_i hq
        rw [h2]
        constructor
        · exact .inl
        · rintro (h | rfl)
          · exact h
          · exact (h2 _).1 hq
      · rw [List.mem_append, h2]; simp
    · intro p hp
      rw [List.filter_append, List.map_append]
      unfold rdS at hp
      by_cases hq : q.1 ∈ (rdF Q0).map (·.1)
      · rw [if_pos hq] at hp
        obtain ⟨p0, hp0, rfl⟩ := List.mem_map.1 hp
        have := h3 p0 hp0
        by_cases e : p0.1 = q.1
        · rw [if_pos e]
          show p0.2 ++ [q.2] = (Q0.filter fun q => decide (q.1 = p0.1)).map (·.2) ++ _
          rw [this]
          congr 1
          simp [e]
        · rw [if_neg e]
          rw [this]
          have e2 : ¬ q.1 = p0.1 := fun h => e h.symm
          simp [e2]
      · rw [if_neg hq] at hp
        rcases List.mem_append.1 hp with hp | hp
        · have := h3 p hp
          rw [this]
          have e2 : ¬ q.1 = p.1 := fun h => hq (by rw [h]; exact List.mem_map.2 ⟨p, hp, rfl⟩)
          simp [e2]
        · obtain rfl : p = (q.1, [q.2]) := by simpa using hp
          have e0 : Q0.filter (fun r => decide (r.1 = q.1)) = [] := by
            rw [List.filter_eq_nil_iff]
            intro r hr h
            exact hq ((h2 _).2 ⟨r.2, by rw [← of_decide_eq_true h]; exact hr⟩)
          show [q.2] = (Q0.filter fun r => decide (r.1 = q.1)).map (·.2) ++ _
          rw [e0]; simp
/-- the faces met, with the facets' numbers -/
def sqR (F : List (List Int)) (i : Nat) : List (List Int × Int) := (List.range i).flatMap fun k : Nat => (ptsP (gl F (k : Int)) ((gl F (k : Int)).length - 1)).map fun x => (x, (k : Int))
def sqJ (F : List (List Int)) (i j : Nat) : List (List Int × Int) := sqR F i ++ ((ptsP (gl F (i : Int)) ((gl F (i : Int)).length - 1)).take j).map fun x => (x, (i : Int))
theorem sqJ_zero (F : List (List Int)) (i : Nat) : sqJ F i 0 = sqR F i := by simp [sqJ]
theorem sqJ_all (F : List (List Int)) (i : Nat) : sqJ F i (ptsP (gl F (i : Int)) ((gl F (i : Int)).length - 1)).length = sqR F (i + 1) := by
  unfold sqJ sqR
  rw [List.take_length, List.range_succ, List.flatMap_append]; simp
theorem sqJ_succ {F : List (List Int)} {i j : Nat} (h : j < (ptsP (gl F (i : Int)) ((gl F (i : Int)).length - 1)).length) : sqJ F i (j + 1) = sqJ F i j ++ [(gl (ptsP (gl F (i : Int)) ((gl F (i : Int)).length - 1)) (j : Int), (i : Int))] := by
  unfold sqJ
  rw [take_succ_gl h, List.map_append, List.append_assoc]; rfl
def rdgs (F : List (List Int)) : List (List Int × List Int) := rdF (sqR F F.length)
/-- the numbers of the facets that have a list -/
def hasI (F : List (List Int)) (x : List Int) : List Int := ((List.range F.length).filter fun k : Nat => decide (Ins x (gl F (k : Int)))).map fun k : Nat => (k : Int)
theorem mem_sqR {F : List (List Int)} {n : Nat} {x : List Int} {i : Int} : (x, i) ∈ sqR F n ↔ ∃ k : Nat, k < n ∧ i = k ∧ x.Sublist (gl F (k : Int)) ∧ x.length = (gl F (k : Int)).length - 1 := by
  unfold sqR
  rw [List.mem_flatMap]
  constructor
  · rintro ⟨k, hk, h⟩
    obtain ⟨y, hy, e⟩ := List.mem_map.1 h
    obtain ⟨rfl, rfl⟩ : y = x ∧ (k : Int) = i := by simpa using e
    exact ⟨k, List.mem_range.1 hk, rfl, ptsP_mem.1 hy⟩
  · rintro ⟨k, hk, rfl, h⟩
    exact ⟨k, List.mem_range.2 hk, List.mem_map.2 ⟨x, ptsP_mem.2 h, rfl⟩⟩
/-- in a pure complex -/
theorem rdgs_mem {V : Int} {F : List (List Int)} (hc : Cplx V F) (hp : Pure F) {x : List Int} : x ∈ (rdgs F).map (·.1) ↔ x ∈ fcs F (dpt F - 1) ∧ F ≠ [] := by
  rw [rdgs, (rdF_inv _ _ rfl).2.1]
  simp only [mem_sqR]
  constructor
  · rintro ⟨i, k, hk, rfl, h1, h2⟩
    have hm : gl F (k : Int) ∈ F := by rw [gl_mem hk]; exact List.getElem_mem _
    have hne : F ≠ [] := fun e => by rw [e] at hk; simp at hk
    refine ⟨(fcs_iff' hne).2 ⟨⟨_, hm, h1⟩, by rw [h2, hp _ hm]⟩, hne⟩
  · rintro ⟨h, hne⟩
    obtain ⟨⟨f, hf, h1⟩, h2⟩ := (fcs_iff' hne).1 h
    obtain ⟨k, hk, rfl⟩ := List.mem_iff_getElem.1 hf
    exact ⟨(k : Int), k, hk, rfl, by rw [gl_mem hk]; exact h1, by rw [gl_mem hk, h2, hp _ hf]⟩
theorem rdgs_nums {V : Int} {F : List (List Int)} (hc : Cplx V F) (hp : Pure F) {p : List Int × List Int} (h : p ∈ rdgs F) : p.2 = hasI F p.1 := by
  have h1 := (rdF_inv _ _ rfl).2.2 p h
  have hk : p.1 ∈ (rdgs F).map (·.1) := List.mem_map.2 ⟨p, h, rfl⟩
  obtain ⟨hk, hne⟩ := (rdgs_mem hc hp).1 hk
  have hl := fcs_len hk
  have hs := fcs_sa (fun f hf => (hc.row f hf).2.1) hk
  rw [h1]
  unfold hasI
  generalize p.1 = x at *
  have key : ∀ n, n ≤ F.length → ((sqR F n).filter fun q => decide (q.1 = x)).map (·.2) = ((List.range n).filter fun k : Nat => decide (Ins x (gl F (k : Int)))).map fun k : Nat => (k : Int) := by
    intro n
    induction n with
    | zero => intro _; rfl
    | succ n ih =>
      intro hn
      have hm : gl F (n : Int) ∈ F := by rw [gl_mem (by omega)]; exact List.getElem_mem _
      have hrow := hc.row _ hm
      have e : sqR F (n + 1) = sqR F n ++ (ptsP (gl F (n : Int)) ((gl F (n : Int)).length - 1)).map fun y => (y, (n : Int)) := by
        unfold sqR
        rw [List.range_succ, List.flatMap_append]; simp
      rw [e, List.filter_append, List.map_append, ih (by omega), List.range_succ, List.filter_append, List.map_append]
      congr 1
      have hnd := (ptsP_SL (k := (gl F (n : Int)).length - 1) hrow.2.1).nodup
      by_cases hi : Ins x (gl F (n : Int))
      · have hx : x ∈ ptsP (gl F (n : Int)) ((gl F (n : Int)).length - 1) := ptsP_mem.2 ⟨Ins.sub hs hrow.2.1 hi, by rw [hl, hp _ hm]⟩
        rw [List.filter_map, List.map_map]
        have e2 : (ptsP (gl F (n : Int)) ((gl F (n : Int)).length - 1)).filter ((fun q => decide (q.1 = x)) ∘ fun y => (y, (n : Int))) = [x] := by
          have h3 : ∀ l : List (List Int), l.Nodup → x ∈ l → l.filter (fun y => decide (y = x)) = [x] := by
            intro l
            induction l with
            | nil => intro _ h; cases h
            | cons a r ih =>
              intro hn h
              rw [List.nodup_cons] at hn
              by_cases e : a = x
              · subst e
                rw [List.filter_cons_of_pos (by simp)]
                congr 1
                rw [List.filter_eq_nil_iff]
                intro y hy h
                exact hn.1 (by rw [← of_decide_eq_true h]; exact hy)
              · rw [List.filter_cons_of_neg (by simpa using e)]
                exact ih hn.2 ((List.mem_cons.1 h).resolve_left fun h => e h.symm)
          exact h3 _ hnd hx
        rw [e2]
        simp [hi]
      · have e2 : ((ptsP (gl F (n : Int)) ((gl F (n : Int)).length - 1)).map fun y => (y, (n : Int))).filter (fun q => decide (q.1 = x)) = [] := by
          rw [List.filter_eq_nil_iff]
          intro q hq h
          obtain ⟨y, hy, rfl⟩ := List.mem_map.1 hq
          have : y = x := of_decide_eq_true h
          subst this
          exact hi (Ins.of_sub (ptsP_mem.1 hy).1)
        rw [e2]
        simp [hi]
  exact key F.length (Nat.le_refl _)
/-- the lists whose complex is the boundary -/
def bdS (F : List (List Int)) : List (List Int) := (fcs F (dpt F - 1)).filter fun x => decide ((hasI F x).length % 2 = 1)
def bdR (F : List (List Int)) : List (List Int) := ((rdgs F).filter fun p => decide (p.2.length % 2 = 1)).map (·.1)
theorem bdR_mem {V : Int} {F : List (List Int)} (hc : Cplx V F) (hp : Pure F) (x : List Int) : x ∈ bdR F ↔ x ∈ bdS F := by
  unfold bdR bdS
  rw [List.mem_map, List.mem_filter]
  constructor
  · rintro ⟨p, hp1, rfl⟩
    obtain ⟨h1, h2⟩ := List.mem_filter.1 hp1
    have h3 := (rdgs_mem hc hp).1 (List.mem_map.2 ⟨p, h1, rfl⟩)
    rw [rdgs_nums hc hp h1] at h2
    exact ⟨h3.1, h2⟩
  · rintro ⟨h1, h2⟩
    have hne : F ≠ [] := fun e => by
      subst e
      have := of_decide_eq_true h2; simp [hasI] at this
    obtain ⟨p, hp1, rfl⟩ := List.mem_map.1 ((rdgs_mem hc hp).2 ⟨h1, hne⟩)
    exact ⟨p, List.mem_filter.2 ⟨hp1, by rw [rdgs_nums hc hp hp1]; exact h2⟩, rfl⟩
end Go.Proofs.YtdedegbendjmbaaGreatDoor.Vc
/-
  The library's CompactFunc on rows of lists by their equality, walked. Conditions: that the lists can be read while the row is turned about.
-/
namespace Go.Proofs.YtdedegbendjmbaaGreatDoor.Vc
open Go.RowKit

def kepC (xs : Nat → List Int) (n : Nat) : List Nat := (List.range n).filter fun j => decide (j = 0 ∨ xs j ≠ xs (j - 1))
theorem kepC_succ (xs : Nat → List Int) (n : Nat) : kepC xs (n + 1) = kepC xs n ++ (if n = 0 ∨ xs n ≠ xs (n - 1) then [n] else []) := by
  unfold kepC
  rw [List.range_succ, List.filter_append]
  congr 1
  by_cases h : n = 0 ∨ xs n ≠ xs (n - 1) <;> simp [h]
end Go.Proofs.YtdedegbendjmbaaGreatDoor.Vc
/-
  The faces with so many elements of a complex, walked in the program. Conditions: as each states them.
-/
namespace Go.Proofs.YtdedegbendjmbaaGreatDoor.Vc
open Go.RowKit

/-! those that are kept of an ascending row -/
/-- parts of the first lists -/
def faG (F : List (List Int)) (k i : Nat) : List (List Int) := if k = 0 then [[]] else (F.take i).flatMap fun f => ptsP f k
end Go.Proofs.YtdedegbendjmbaaGreatDoor.Vc
/-
  The faces with one element less than facets, walked in the program. Conditions: as each states them.
-/
namespace Go.Proofs.YtdedegbendjmbaaGreatDoor.Vc
open Go.RowKit

/-- a ridge in memory: its box, its face, its facets -/
structure RV where
  P : Option Addr
  s : SlV
  x : List Int
  B : Option Addr
  c : Nat
  ns : List Int
def RV.pr (r : RV) : List Int × List Int := (r.x, r.ns)
def RV.bx (r : RV) : Ck := Bx 83 2 r.P [.slice r.s.a r.s.n r.s.c, .slice r.B r.ns.length r.c]
def RV.fa (r : RV) : Ck := CkI 2 r.B r.ns.length r.c r.ns
def RV.ck (r : RV) : List Ck := [r.bx, r.fa]
def RV.row (r : RV) : Ck := CkI 2 r.s.a r.s.n r.s.c r.x
def mpR (rvs : List RV) : List (ByteArray × Option Addr) := rvs.map fun r => (keyB r.x, r.P)
abbrev cksR (A : Option Addr) (c g : Nat) (rvs : List RV) (X : List Ck) : List Ck := CkP 81 A rvs.length c (rvs.map (·.P)) :: CkM 114 g (prV Value.string Value.pointer (mpR rvs)) :: (rvs.flatMap RV.ck ++ X)
theorem getA_mp : ∀ {rvs : List RV} {x : List Int} {p : Option Addr}, getA (mpR rvs) (keyB x) = some p → ∃ pre r post, rvs = pre ++ r :: post ∧ r.x = x ∧ r.P = p
  | [], _, _, h => by cases h
  | r :: rest, x, p, h => by
    unfold mpR at h
    simp only [List.map_cons, getA] at h
    by_cases e : keyB r.x = keyB x
    · rw [if_pos e] at h
      exact ⟨[], r, rest, rfl, keyB_inj e, Option.some.inj h⟩
    · rw [if_neg e] at h
      obtain ⟨pre, q, post, h1, h2, h3⟩ := getA_mp (rvs := rest) h
      exact ⟨r :: pre, q, post, by rw [h1]; rfl, h2, h3⟩
theorem getA_mp_none : ∀ {rvs : List RV} {x : List Int}, getA (mpR rvs) (keyB x) = none → ∀ r ∈ rvs, r.x ≠ x
  | [], _, _ => by simp
  | r :: rest, x, h => by
    unfold mpR at h
    simp only [List.map_cons, getA] at h
    by_cases e : keyB r.x = keyB x
    · rw [if_pos e] at h; cases h
    · rw [if_neg e] at h
      intro q hq
      rcases List.mem_cons.1 hq with rfl | hq
      · exact fun h => e (by rw [h])
      · exact getA_mp_none (rvs := rest) h q hq
theorem getA_mp_at {pre post : List RV} {r : RV} (h : ∀ q ∈ pre, q.x ≠ r.x) : getA (mpR (pre ++ r :: post)) (keyB r.x) = some r.P := by
  induction pre with
  | nil => simp [mpR, getA]
  | cons a t ih =>
    unfold mpR at ih ⊢
    simp only [List.cons_append, List.map_cons, getA]
    rw [if_neg fun e => h a (by simp) (keyB_inj e)]
    exact ih fun q hq => h q (by simp [hq])
theorem putA_mp {rvs : List RV} {r : RV} (h : ∀ q ∈ rvs, q.x ≠ r.x) : putA (mpR rvs) (keyB r.x) r.P = mpR (rvs ++ [r]) := by
  induction rvs with
  | nil => rfl
  | cons a t ih =>
    unfold mpR at ih ⊢
    simp only [List.cons_append, List.map_cons, putA]
    rw [if_neg fun e => h a (by simp) (keyB_inj e), ih fun q hq => h q (by simp [hq])]
theorem perm4 {a b m p : Ck} {U V : List Ck} : (a :: b :: m :: p :: (U ++ V)).Perm (p :: m :: (U ++ (a :: b :: V))) := by
  have h1 : ([a, b] ++ [m, p]).Perm ([p, m] ++ [a, b]) := (List.perm_append_comm (l₁ := [a, b])).trans ((List.Perm.swap p m []).append_right [a, b])
  refine (h1.append_right (U ++ V)).trans ?_
  show (p :: m :: (a :: b :: (U ++ V))).Perm _
  refine List.Perm.cons _ (List.Perm.cons _ ?_)
  refine (List.Perm.cons a (List.perm_middle (a := b) (l₁ := U) (l₂ := V)).symm).trans ?_
  exact (List.perm_middle (a := a) (l₁ := U) (l₂ := b :: V)).symm
theorem rdS_len (R : List (List Int × List Int)) (q : List Int × Int) : (rdS R q).length ≤ R.length + 1 := by
  unfold rdS; split <;> simp
theorem rdF_len : ∀ (n : Nat) (Q : List (List Int × Int)), Q.length = n → (rdF Q).length ≤ n
  | 0, Q, h => by obtain rfl := List.eq_nil_of_length_eq_zero h; simp [rdF]
  | n + 1, Q, h => by
    obtain ⟨Q0, q, rfl⟩ : ∃ Q0 q, Q = Q0 ++ [q] := ⟨Q.dropLast, Q.getLast (fun e => by rw [e] at h; simp at h), (List.dropLast_concat_getLast _).symm⟩
    have := rdF_len n Q0 (by simpa using h)
    have := rdS_len (rdF Q0) q
    rw [rdF_snoc]; omega
theorem sqR_len {F : List (List Int)} (h6 : ∀ f ∈ F, f.length ≤ 6) : ∀ i, i ≤ F.length → (sqR F i).length ≤ 64 * i
  | 0, _ => by simp [sqR]
  | i + 1, h => by
    have h1 := sqR_len h6 i (by omega)
    have h2 := ptsP_small (l := gl F (i : Int)) ((gl F (i : Int)).length - 1) (h6 _ (by rw [gl_mem (by omega)]; exact List.getElem_mem _))
    have e : sqR F (i + 1) = sqR F i ++ (ptsP (gl F (i : Int)) ((gl F (i : Int)).length - 1)).map fun y => (y, (i : Int)) := by
      unfold sqR
      rw [List.range_succ, List.flatMap_append]; simp
    rw [e, List.length_append, List.length_map]; omega
theorem rdF_ns {Q : List (List Int × Int)} {p : List Int × List Int} (h : p ∈ rdF Q) : p.2.length ≤ Q.length := by
  rw [(rdF_inv _ _ rfl).2.2 p h, List.length_map]
  exact List.length_filter_le _ _
/-- a ridge's list continued -/
theorem rdS_at {pre post : List RV} {r : RV} {i : Int} (h1 : ∀ q ∈ pre, q.x ≠ r.x) (h2 : ∀ q ∈ post, q.x ≠ r.x) : rdS ((pre ++ r :: post).map RV.pr) (r.x, i) = pre.map RV.pr ++ (r.x, r.ns ++ [i]) :: post.map RV.pr := by
  have hk : r.x ∈ ((pre ++ r :: post).map RV.pr).map (·.1) := List.mem_map.2 ⟨r.pr, List.mem_map.2 ⟨r, by simp, rfl⟩, rfl⟩
  have key : ∀ l : List RV, (∀ q ∈ l, q.x ≠ r.x) → (l.map RV.pr).map (fun p => if p.1 = r.x then (p.1, p.2 ++ [i]) else p) = l.map RV.pr := fun l h => by
    rw [List.map_map]
    exact List.map_congr_left fun q hq => if_neg (h q hq)
  unfold rdS
  rw [if_pos hk, List.map_append, List.map_cons, List.map_append, List.map_cons, key pre h1, key post h2]
  congr 2
  exact if_pos rfl
theorem rdS_new {rvs : List RV} {x : List Int} {i : Int} (h : ∀ q ∈ rvs, q.x ≠ x) : rdS (rvs.map RV.pr) (x, i) = rvs.map RV.pr ++ [(x, [i])] := by
  unfold rdS
  rw [if_neg]
  intro hk
  obtain ⟨p, hp, e⟩ := List.mem_map.1 hk
  obtain ⟨r, hr, rfl⟩ := List.mem_map.1 hp
  exact h r hr e
theorem Rd.some_of {w : World} {A : Option Addr} {n : Nat} {f : Nat → Value} (h : Rd w A n f) (hn : 0 < n) : A.isNone = false := by
  obtain ⟨p, hp, _⟩ := h 0 hn
  cases A with
  | none => simp [ptrAt] at hp
  | some q => rfl

/-- ridges in memory -/
def AnsR4 (R : List (List Int × List Int)) (w : World) (v : Value) (w' : World) : Prop := ∃ (A : Option Addr) (c : Nat) (rvs : List RV) (X : List Ck), v = .slice A rvs.length c ∧ rvs.map RV.pr = R ∧ (∀ r ∈ rvs, r.row ∈ X) ∧ St w w' (CkP 81 A rvs.length c (rvs.map (·.P)) :: (rvs.flatMap RV.ck ++ X))

set_option maxHeartbeats 2000000 in
theorem ridges_c (Pc : Option Addr) (V : Int) (A : Option Addr) (n c : Nat) (rs : List SlV) (F : List (List Int)) (w : World) (hT : Tab w) (hP : Rd w Pc 2 (fun j => [Value.int .i64 V, .slice A n c].getD j undef)) (hR : RowsI w A n rs F) (hC : Cplx V F) :
    Ret Tryz.prog 84 [.pointer Pc] w (AnsR4 (rdgs F) w) := by
  have hFl := hR.len
  have hF4 := hC.f
  have hf6 : ∀ f ∈ F, f.length ≤ 6 := fun f hf => (hC.row f hf).1.2
  refine Ret.of_cd Tryz.func84 rfl Tryz.ntmps84 rfl (post1 rfl) ?_
  refine Cd.seq ?_
  refine Cd.region ?_
  refine Ops.mv_sl rfl rfl rfl ?_
  refine Ops.nil ?_
  refine thenQ_n ?_
  refine Cd.seq ?_
  refine Cd.region ?_
  refine Ops.mv_sl rfl rfl rfl ?_
  refine Ops.nil ?_
  refine thenQ_n ?_
  refine Cd.seq ?_
  refine Cd.region ?_
  refine Ops.mkmap (St.refl w) rfl ?_
  intro g w1 hS1
  refine Ops.mv_map rfl rfl rfl ?_
  refine Ops.nil ?_
  refine thenQ_n ?_
  refine Cd.seq ?_
  refine Cd.seq ?_
  refine Cd.region ?_
  refine Ops.mv_ptr rfl rfl rfl ?_
  refine Ops.nilp (hS1.old hP) (by omega) rfl rfl ?_
  skip
  refine Ops.fld (hS1.old hP) rfl rfl rfl rfl inferInstance ?_
  skip
  refine Ops.ldf_s (hS1.old hP) rfl rfl rfl rfl rfl ?_
  refine Ops.len rfl rfl ?_
  refine Ops.mv_int rfl rfl rfl ?_
  refine Ops.nil ?_
  refine thenQ_n ?_
  refine Cd.block ?_
  have hS2 : St w w1 (cksR none 0 g [] []) := hS1.nil 81
  refine Cd.loop (α := Nat × (Option Addr × Nat) × List RV × List Ck) (fun z => [(3, .slice z.2.1.1 z.2.2.1.length z.2.1.2), (4, .map (some g)), (14, .slice A n c), (15, .int .i64 (n : Int)), (16, .int .i64 (z.1 : Int))])
    (fun z w' => z.1 ≤ n ∧ z.2.2.1.map RV.pr = rdF (sqR F z.1) ∧ (∀ r ∈ z.2.2.1, r.row ∈ z.2.2.2) ∧ St w w' (cksR z.2.1.1 z.2.1.2 g z.2.2.1 z.2.2.2)) (fun z => n - z.1) (0, (none, 0), [], []) ⟨rfl, rfl, rfl, rfl, rfl, trivial⟩ ⟨Nat.zero_le _, rfl, (fun _ h => by cases h), hS2⟩ ?_
  clear hS2 hS1
  rintro ⟨i, ⟨A3, c3⟩, rvs, X⟩ e w2 ⟨hi, hpr, hrow, hS⟩
  dsimp only at hi hpr hrow hS ⊢
  refine Cd.seq ?_
  refine Cd.region ?_
  refine Ops.lss rfl rfl rfl ?_
  refine Ops.nil ?_
  refine thenQ_n ?_
  refine Cd.seq ?_
  refine Cd.cond_p _ rfl (fun h1 => ?_) (fun h1 => ?_)
  · have hiF : i < F.length := by omega
    have hM := hS.oldRows hR
    have hr0 := hM.at_ (i := (i : Int)) (by omega) (by omega)
    have hcap := hM.cap_ (i := (i : Int)) (by omega) (by omega)
    have hrl := hr0.1
    have hfr := hC.at_ hiF
    refine Cd.skip ?_
    refine thenQ_n ?_
    refine Cd.seq ?_
    refine Cd.block ?_
    refine Cd.seq ?_
    refine Cd.region ?_
    refine Ops.mv_int rfl rfl rfl ?_
    refine Ops.idx hM.top.2 rfl rfl rfl (by omega) (by omega) ?_
    refine Ops.ld_sl hM.top rfl (by omega) rfl rfl ?_
    refine Ops.mv_int rfl rfl rfl ?_
    refine Ops.mv_sl rfl rfl rfl ?_
    refine Ops.nil ?_
    refine thenQ_n ?_
    refine Cd.seq ?_
    refine Cd.region ?_
    refine Ops.mv_sl rfl rfl rfl ?_
    refine Ops.mv_sl rfl rfl rfl ?_
    refine Ops.call (sizeI_c _ _ _ _) rfl rfl rfl ?_
    rintro _ w2 ⟨rfl, rfl⟩
    refine Ops.sub rfl rfl rfl (by omega) ?_
    refine Ops.call (partsOf_c ((gl F (i : Int)).length - 1) _ _ _ (gl F (i : Int)) _ hr0 hcap.1 (by omega) (by omega)) rfl (by show [_, Value.int .i64 (((rg rs (i : Int)).n : Int) - 1)] = _; congr 3; omega) rfl ?_
    rintro _ w3 ⟨A25, c25, rs25, rfl, hrl25, hT3⟩
    have hN6 : ∀ x ∈ ptsP (gl F (i : Int)) ((gl F (i : Int)).length - 1), x.length ≤ 6 ∧ ∀ y ∈ x, -9223372036854775808 ≤ y ∧ y ≤ 9223372036854775807 := fun x hx => by
      have h1 := (ptsP_mem.1 hx).1
      have h2 := h1.length_le
      exact ⟨by omega, fun y hy => by have := hfr.2.2 y (h1.subset hy); have := hC.v; omega⟩
    have hNl := ptsP_small (l := gl F (i : Int)) ((gl F (i : Int)).length - 1) hfr.1.2
    have hsl := sqR_len hf6 i (by omega)
    have hj0 := sqJ_zero F i
    have hjn := sqJ_all F i
    have hjs := fun j => sqJ_succ (F := F) (i := i) (j := j)
    have hjl : ∀ j, (sqJ F i j).length ≤ 64 * i + 64 := fun j => by
      unfold sqJ
      rw [List.length_append, List.length_map, List.length_take]; omega
    rw [← hj0] at hpr
    generalize hN : ptsP (gl F (i : Int)) ((gl F (i : Int)).length - 1) = N at *
    have hS3 : St w w3 (cksR A3 c3 g rvs (X ++ (CkR 25 A25 N.length c25 rs25 :: rowsCk 2 rs25 N))) := by
      have h := hS.call2 hT3
      rw [List.append_nil] at h
      unfold cksR at h ⊢
      rw [← List.append_assoc]
      exact h
    have hin : ∀ k ∈ CkR 25 A25 N.length c25 rs25 :: rowsCk 2 rs25 N, k ∈ X ++ (CkR 25 A25 N.length c25 rs25 :: rowsCk 2 rs25 N) := fun k hk => List.mem_append_right _ hk
    have hrow3 : ∀ r ∈ rvs, r.row ∈ X ++ (CkR 25 A25 N.length c25 rs25 :: rowsCk 2 rs25 N) := fun r hr => List.mem_append_left _ (hrow r hr)
    generalize hX : X ++ (CkR 25 A25 N.length c25 rs25 :: rowsCk 2 rs25 N) = Y at *
    clear hS hrow hT3 hM hr0
    refine Ops.len rfl rfl ?_
    refine Ops.mv_int rfl rfl rfl ?_
    refine Ops.nil ?_
    refine thenQ_n ?_
    refine Cd.block ?_
    refine Cd.loop (α := Nat × (Option Addr × Nat) × List RV) (fun z => [(3, .slice z.2.1.1 z.2.2.length z.2.1.2), (4, .map (some g)), (5, .int .i64 (i : Int)), (14, .slice A n c), (15, .int .i64 (n : Int)), (16, .int .i64 (i : Int)), (25, .slice A25 N.length c25), (26, .int .i64 (N.length : Int)), (27, .int .i64 (z.1 : Int))])
      (fun z w' => z.1 ≤ N.length ∧ z.2.2.map RV.pr = rdF (sqJ F i z.1) ∧ (∀ r ∈ z.2.2, r.row ∈ Y) ∧ St w w' (cksR z.2.1.1 z.2.1.2 g z.2.2 Y)) (fun z => N.length - z.1) (0, (A3, c3), rvs) ⟨rfl, rfl, rfl, rfl, rfl, rfl, rfl, rfl, rfl, trivial⟩ ⟨Nat.zero_le _, hpr, hrow3, hS3⟩ ?_
    clear hS3 hrow3 hpr
    rintro ⟨j, ⟨A3, c3⟩, rvs⟩ e w4 ⟨hj, hpr, hrow, hS⟩
    dsimp only at hj hpr hrow hS ⊢
    refine Cd.seq ?_
    refine Cd.region ?_
    refine Ops.lss rfl rfl rfl ?_
    refine Ops.nil ?_
    refine thenQ_n ?_
    refine Cd.seq ?_
    refine Cd.cond_p _ rfl (fun h2 => ?_) (fun h2 => ?_)
    · have hjN : j < N.length := by omega
      have hY : ∀ k ∈ Y, ∃ q, (cksR A3 c3 g rvs Y)[q]? = some k := fun k hk => List.mem_iff_getElem?.1 (List.mem_cons_of_mem _ (List.mem_cons_of_mem _ (List.mem_append_right _ hk)))
      obtain ⟨q0, hq0⟩ := hY _ (hin _ (List.mem_cons_self))
      have hR25 : RdR w4 A25 N.length rs25 := hS.rdR q0 hq0
      have hrowj : CkI 2 (rg rs25 (j : Int)).a (rg rs25 (j : Int)).n (rg rs25 (j : Int)).c (gl N (j : Int)) ∈ Y := hin _ (List.mem_cons_of_mem _ (List.mem_iff_getElem?.2 ⟨j, rowsCk_get hrl25 (by omega)⟩))
      obtain ⟨q1, hq1⟩ := hY _ hrowj
      have hface : RdI w4 (rg rs25 (j : Int)).a (rg rs25 (j : Int)).n (gl N (j : Int)) := hS.rdI q1 hq1
      have hx6 := hN6 (gl N (j : Int)) (by rw [gl_mem hjN]; exact List.getElem_mem _)
      have hfl := hface.1
      have hsucc := hjs j hjN
      have hrvl : rvs.length ≤ 64 * i + 64 := by
        have h3 := rdF_len _ (sqJ F i j) rfl
        have h4 := congrArg List.length hpr
        rw [List.length_map] at h4
        have := hjl j
        omega
      have hnsl : ∀ r ∈ rvs, r.ns.length ≤ 64 * i + 64 := fun r hr => by
        have h3 := rdF_ns (Q := sqJ F i j) (p := r.pr) (by rw [← hpr]; exact List.mem_map.2 ⟨r, hr, rfl⟩)
        have := hjl j
        have e : r.pr.2 = r.ns := rfl
        rw [e] at h3
        omega
      have hnd : (rvs.map (·.x)).Nodup := by
        have h3 := (rdF_inv _ (sqJ F i j) rfl).1
        rw [← hpr, List.map_map] at h3
        exact h3
      have hnext : rdF (sqJ F i (j + 1)) = rdS (rvs.map RV.pr) (gl N (j : Int), (i : Int)) := by rw [hsucc, rdF_snoc, hpr]
      generalize gl N (j : Int) = x at *
      refine Cd.skip ?_
      refine thenQ_n ?_
      refine Cd.seq ?_
      refine Cd.block ?_
      refine Cd.seq ?_
      refine Cd.region ?_
      refine Ops.idx hR25.2 rfl rfl rfl (by omega) (by omega) ?_
      refine Ops.ld_sl hR25 rfl (by omega) rfl rfl ?_
      refine Ops.mv_sl rfl rfl rfl ?_
      refine Ops.nil ?_
      refine thenQ_n ?_
      refine Cd.seq ?_
      refine Cd.region ?_
      refine Ops.mv_sl rfl rfl rfl ?_
      refine Ops.call (keyOf_c _ _ _ x _ (hT.later hS.below) hface hx6.2 (by omega)) rfl rfl rfl ?_
      rintro _ w5 ⟨rfl, hst⟩
      have hS5 := hS.later hst.below
      clear hS hR25 hface hst
      refine Ops.mv_str rfl rfl rfl ?_
      refine Ops.nil ?_
      refine thenQ_n ?_
      refine Cd.join (α := (Option Addr × Nat) × List RV × RV × List RV) (fun z => [(3, .slice z.1.1 (z.2.1 ++ z.2.2.1 :: z.2.2.2).length z.1.2), (4, .map (some g)), (5, .int .i64 (i : Int)), (9, .string (keyB x)), (14, .slice A n c), (15, .int .i64 (n : Int)), (16, .int .i64 (i : Int)), (25, .slice A25 N.length c25), (26, .int .i64 (N.length : Int)), (27, .int .i64 (j : Int))])
        (fun z w' => z.2.2.1.x = x ∧ z.2.2.1.ns.length ≤ 64 * i + 64 ∧ (∀ r ∈ z.2.1 ++ z.2.2.1 :: z.2.2.2, r.row ∈ Y) ∧ (∀ q ∈ z.2.1, q.x ≠ x) ∧ z.2.1.map RV.pr ++ (x, z.2.2.1.ns ++ [(i : Int)]) :: z.2.2.2.map RV.pr = rdF (sqJ F i (j + 1)) ∧ St w w' (cksR z.1.1 z.1.2 g (z.2.1 ++ z.2.2.1 :: z.2.2.2) Y)) ?_ ?_
      · refine Cd.seq ?_
        refine Cd.region ?_
        refine Ops.mv_map rfl rfl rfl ?_
        refine Ops.mv_str rfl rfl rfl ?_
        refine Ops.lookP keyS (keyB x) (hS5.rdM 1 rfl) rfl rfl rfl ?_
        refine Ops.eqNilP rfl rfl rfl ?_
        refine Ops.nil ?_
        refine thenQ_n ?_
        cases hg : getA (mpR rvs) (keyB x) with
        | none => --dup 2
          have hnew := getA_mp_none hg
          refine Cd.cond_t rfl ?_
          refine Cd.seq ?_
          refine Cd.region ?_
          refine Ops.mv_map rfl rfl rfl ?_
          refine Ops.mv_str rfl rfl rfl ?_
          refine Ops.mv_sl rfl rfl rfl ?_
          refine Ops.bldF2 (by exact inferInstance) (by exact inferInstance) rfl rfl rfl rfl rfl ?_
          refine Ops.box2 hS5 rfl rfl ?_
          intro P w6 hS6
          refine Ops.upm rfl keyS 2 (u := P) (a := keyB x) hS6 rfl rfl rfl rfl ?_
          intro w7 hS7
          have hput : putA (mpR rvs) (keyB x) P = mpR (rvs ++ [⟨P, rg rs25 (j : Int), x, none, 0, []⟩]) := putA_mp (r := ⟨P, rg rs25 (j : Int), x, none, 0, []⟩) hnew
          have hgt : getA (putA (mpR rvs) (keyB x) P) (keyB x) = some P := by rw [getA_put, if_pos rfl]
          refine Ops.nil ?_
          refine thenQ_n ?_
          refine Cd.region ?_
          refine Ops.mv_sl rfl rfl rfl ?_
          refine Ops.mv_map rfl rfl rfl ?_
          refine Ops.mv_str rfl rfl rfl ?_
          refine Ops.lookP' keyS (keyB x) hgt (hS7.rdM 2 rfl) rfl rfl rfl ?_
          refine Ops.bs1 hS7 rfl rfl rfl rfl ?_
          intro A46 w8 hS8
          have hP8 : RdP w8 A46 1 [P] := St.rdP (show St w w8 (CkP 81 A46 1 1 [P] :: _) from hS8) 0 rfl
          refine Ops.appP 2 hS8 rfl hP8 rfl rfl rfl (by omega) (by omega) rfl ?_
          intro A47 c47 w9 hS9
          refine Ops.mv_sl rfl rfl rfl ?_
          refine Ops.nil ?_
          refine thenQ_n ?_
          refine ⟨((A47, c47), rvs, ⟨P, rg rs25 (j : Int), x, none, 0, []⟩, []), ⟨by show Value.slice A47 (rvs.length + 1) c47 = .slice A47 (rvs ++ [_]).length c47; simp, rfl, rfl, rfl, rfl, rfl, rfl, rfl, rfl, rfl, trivial⟩, rfl, Nat.zero_le _, fun r hr => ?_, hnew, by show rvs.map RV.pr ++ [(x, [] ++ [(i : Int)])] = _; rw [hnext, rdS_new hnew]; rfl, ?_⟩
          · rcases List.mem_append.1 hr with hr | hr
            · exact hrow r hr
            · obtain rfl : r = ⟨P, rg rs25 (j : Int), x, none, 0, []⟩ := by simpa using hr
              exact hrowj
          · have h9 := (St.tail hS9).nil 2
            show St w w9 (CkP 81 A47 (rvs ++ [(⟨P, rg rs25 (j : Int), x, none, 0, []⟩ : RV)]).length c47 ((rvs ++ [(⟨P, rg rs25 (j : Int), x, none, 0, []⟩ : RV)]).map (·.P)) :: CkM 114 g (prV Value.string Value.pointer (mpR (rvs ++ [(⟨P, rg rs25 (j : Int), x, none, 0, []⟩ : RV)]))) :: ((rvs ++ [(⟨P, rg rs25 (j : Int), x, none, 0, []⟩ : RV)]).flatMap RV.ck ++ Y))
            rw [← hput, List.length_append, List.map_append, List.flatMap_append, List.append_assoc]
            exact h9.perm ((List.Perm.swap _ _ _).trans (((List.Perm.swap _ _ _).cons _).cons _) |>.trans perm4)
        | some p =>
          obtain ⟨pre, r, post, rfl, hrx, hrP⟩ := getA_mp hg
          have hrm : r ∈ pre ++ r :: post := by simp
          obtain ⟨q, hq⟩ := List.mem_iff_getElem?.1 (show r.bx ∈ cksR A3 c3 g (pre ++ r :: post) Y from List.mem_cons_of_mem _ (List.mem_cons_of_mem _ (List.mem_append_left _ (List.mem_flatMap.2 ⟨r, hrm, by simp [RV.ck]⟩))))
          have hpn : p.isNone = false := by rw [← hrP]; exact Rd.some_of (hS5.rd q hq) (by show 0 < 2; omega)
          have hnp : (∀ a ∈ pre, a.x ≠ r.x) ∧ ∀ a ∈ post, a.x ≠ r.x := by
            rw [List.map_append, List.map_cons, List.nodup_append, List.nodup_cons] at hnd
            exact ⟨fun a ha h => hnd.2.2 a.x (List.mem_map.2 ⟨a, ha, rfl⟩) r.x (by simp) h, fun a ha h => hnd.2.1.1 (by rw [← h]; exact List.mem_map.2 ⟨a, ha, rfl⟩)⟩
          refine Cd.cond_f (by show Value.bool p.isNone = .bool false; rw [hpn]) ?_
          refine Cd.skip ?_
          refine thenQ_n ?_
          exact ⟨((A3, c3), pre, r, post), ⟨rfl, rfl, rfl, rfl, rfl, rfl, rfl, rfl, rfl, rfl, trivial⟩, hrx, hnsl r hrm, hrow, fun a ha => by rw [← hrx]; exact hnp.1 a ha, by show pre.map RV.pr ++ (x, r.ns ++ [(i : Int)]) :: post.map RV.pr = _; rw [hnext, ← hrx]; exact (rdS_at hnp.1 hnp.2).symm, hS5⟩
      clear hS5 hnsl hrvl hnd hnext hpr hrow
      rintro ⟨⟨A3, c3⟩, pre, r, post⟩ e w6 ⟨hrx, hnl, hrow, hpre, hpr, hS6⟩
      dsimp only at hrx hnl hrow hpre hpr hS6 ⊢
      have hget : getA (mpR (pre ++ r :: post)) (keyB x) = some r.P := by rw [← hrx]; exact getA_mp_at fun q hq => by rw [hrx]; exact hpre q hq
      have hB : St w w6 (r.bx :: r.fa :: CkM 114 g (prV Value.string Value.pointer (mpR (pre ++ r :: post))) :: CkP 81 A3 (pre ++ r :: post).length c3 ((pre ++ r :: post).map (·.P)) :: (pre.flatMap RV.ck ++ (post.flatMap RV.ck ++ Y))) := by
        refine hS6.perm ?_
        show (CkP _ _ _ _ _ :: CkM _ _ _ :: ((pre ++ r :: post).flatMap RV.ck ++ Y)).Perm _
        rw [List.flatMap_append, List.flatMap_cons, List.append_assoc, List.append_assoc]
        exact perm4.symm
      clear hS6
      skip
      refine Cd.drawN [11, 14] [.ex (.map (some g)), .ex (.string (keyB x)), .ex (.pointer (r.P)), .ex (.map (some g)), .ex (.string (keyB x)), .ex (.pointer (r.P)), .ex (.pointer (r.P)), .ex (.pointer (ptrAt r.P 1)), .ex (.slice (r.B) (r.ns.length) (r.c)), .ex (.int .i64 ((i : Int))), .pr (fun v w' => ∃ A9, v = .slice A9 1 1 ∧ RdI w' A9 1 [(i : Int)]), .pr (fun v w' => ∃ A5 c5, v = .slice A5 (r.ns.length + 1) c5 ∧ St w w' (r.bx :: CkI 2 A5 (r.ns.length + 1) c5 (r.ns ++ [(i : Int)]) :: CkM 114 g (prV Value.string Value.pointer (mpR (pre ++ r :: post))) :: CkP 81 A3 (pre ++ r :: post).length c3 ((pre ++ r :: post).map (·.P)) :: (pre.flatMap RV.ck ++ (post.flatMap RV.ck ++ Y)))), .ex (.pointer (r.P)), .ex (.pointer (ptrAt r.P 1)), .pr (fun _ w' => ∃ A5 c5, St w w' (Bx 83 2 r.P [.slice r.s.a r.s.n r.s.c, .slice A5 (r.ns.length + 1) c5] :: CkI 2 A5 (r.ns.length + 1) c5 (r.ns ++ [(i : Int)]) :: CkM 114 g (prV Value.string Value.pointer (mpR (pre ++ r :: post))) :: CkP 81 A3 (pre ++ r :: post).length c3 ((pre ++ r :: post).map (·.P)) :: (pre.flatMap RV.ck ++ (post.flatMap RV.ck ++ Y))))] (by kernel_rfl) (by kernel_rfl) (List.forall_mem_cons.2 ⟨Yd.lasts_ex _, (List.forall_mem_cons.2 ⟨Yd.lasts_ex _, (List.forall_mem_cons.2 ⟨Yd.lasts_ex _, (List.forall_mem_cons.2 ⟨Yd.lasts_ex _, (List.forall_mem_cons.2 ⟨Yd.lasts_ex _, (List.forall_mem_cons.2 ⟨Yd.lasts_ex _, (List.forall_mem_cons.2 ⟨Yd.lasts_ex _, (List.forall_mem_cons.2 ⟨Yd.lasts_ex _, (List.forall_mem_cons.2 ⟨Yd.lasts_ex _, (List.forall_mem_cons.2 ⟨Yd.lasts_ex _, (List.forall_mem_cons.2 ⟨Yd.lasts_pr (fun v w w' h hb => by obtain ⟨A9, hv, hT⟩ := h; exact ⟨A9, hv, hT.later hb⟩), (List.forall_mem_cons.2 ⟨Yd.lasts_pr (fun v w w' h hb => by obtain ⟨A5, c5, hv, hT⟩ := h; exact ⟨A5, c5, hv, hT.later hb⟩), (List.forall_mem_cons.2 ⟨Yd.lasts_ex _, (List.forall_mem_cons.2 ⟨Yd.lasts_ex _, (List.forall_mem_cons.2 ⟨Yd.lasts_pr (fun v w w' h hb => by obtain ⟨A5, c5, hT⟩ := h; exact ⟨A5, c5, hT.later hb⟩), (fun _ h => by cases h)⟩)⟩)⟩)⟩)⟩)⟩)⟩)⟩)⟩)⟩)⟩)⟩)⟩)⟩)⟩) ⟨?_, ?_, ?_, ?_, ?_, ?_, ?_, ?_, ?_, ?_, ?_, ?_, ?_, ?_, ?_, trivial⟩ ?_
      · intro e1 w1 cc hlo hhi hb0 hp hun hq
        show Ops _ _ _ _ _ _ _
        refine Ops.mv_map rfl rfl rfl ?_
        refine Ops.nil ?_
        exact AfterN.dn rfl (Below.refl _ _) (by exact rfl)
      · intro e1 w1 cc hlo hhi hb0 hp hun hq
        show Ops _ _ _ _ _ _ _
        refine Ops.mv_str rfl rfl rfl ?_
        refine Ops.nil ?_
        exact AfterN.dn rfl (Below.refl _ _) (by exact rfl)
      · intro e1 w1 cc hlo hhi hb0 hp hun hq
        show Ops _ _ _ _ _ _ _
        have hX : RdM w1 g (prV Value.string Value.pointer (mpR (pre ++ r :: post))) := by { have hhi := le_of_hi hhi (b := 1) (by kernel_rfl); rcases (show cc = 0 ∨ cc = 1 by omega) with h | h; { exact (hB.later (hb0 h)).rdM 2 rfl }; { subst h; obtain ⟨A5, c5, _, hT⟩ := hq 11 _ _ (by kernel_rfl) (by kernel_rfl) (by kernel_rfl) rfl rfl (by kernel_rfl); exact hT.rdM 2 rfl } }
        refine Ops.lookP' keyS (keyB x) hget hX rfl rfl rfl ?_
        refine Ops.nil ?_
        exact AfterN.dn rfl (Below.refl _ _) (by exact rfl)
      · intro e1 w1 cc hlo hhi hb0 hp hun hq
        show Ops _ _ _ _ _ _ _
        refine Ops.mv_map rfl rfl rfl ?_
        refine Ops.nil ?_
        exact AfterN.dn rfl (Below.refl _ _) (by exact rfl)
      · intro e1 w1 cc hlo hhi hb0 hp hun hq
        show Ops _ _ _ _ _ _ _
        refine Ops.mv_str rfl rfl rfl ?_
        refine Ops.nil ?_
        exact AfterN.dn rfl (Below.refl _ _) (by exact rfl)
      · intro e1 w1 cc hlo hhi hb0 hp hun hq
        show Ops _ _ _ _ _ _ _
        replace hlo := le_of_lo hlo (b := 0) (by kernel_rfl)
        replace hhi := le_of_hi hhi (b := 0) (by kernel_rfl)
        obtain rfl : cc = 0 := by omega
        have hb := hb0 rfl
        refine Ops.lookP' keyS (keyB x) hget ((hB.later hb).rdM 2 rfl) rfl rfl rfl ?_
        refine Ops.nil ?_
        exact AfterN.dn rfl (Below.refl _ _) (by exact rfl)
      · intro e1 w1 cc hlo hhi hb0 hp hun hq
        show Ops _ _ _ _ _ _ _
        replace hlo := le_of_lo hlo (b := 0) (by kernel_rfl)
        replace hhi := le_of_hi hhi (b := 0) (by kernel_rfl)
        obtain rfl : cc = 0 := by omega
        have hb := hb0 rfl
        refine Ops.nilp ((hB.later hb).rd 0 rfl) (Nat.succ_pos _) rfl rfl ?_
        refine Ops.nil ?_
        exact AfterN.dn rfl (Below.refl _ _) (by exact rfl)
      · intro e1 w1 cc hlo hhi hb0 hp hun hq
        show Ops _ _ _ _ _ _ _
        replace hlo := le_of_lo hlo (b := 0) (by kernel_rfl)
        replace hhi := le_of_hi hhi (b := 0) (by kernel_rfl)
        obtain rfl : cc = 0 := by omega
        have hb := hb0 rfl
        refine Ops.fld ((hB.later hb).rd 0 rfl) rfl rfl rfl rfl inferInstance ?_
        refine Ops.nil ?_
        exact AfterN.dn rfl (Below.refl _ _) (by exact rfl)
      · intro e1 w1 cc hlo hhi hb0 hp hun hq
        show Ops _ _ _ _ _ _ _
        replace hlo := le_of_lo hlo (b := 0) (by kernel_rfl)
        replace hhi := le_of_hi hhi (b := 0) (by kernel_rfl)
        obtain rfl : cc = 0 := by omega
        have hb := hb0 rfl
        refine Ops.ldf_s ((hB.later hb).rd 0 rfl) rfl rfl rfl rfl rfl ?_
        refine Ops.nil ?_
        exact AfterN.dn rfl (Below.refl _ _) (by exact rfl)
      · intro e1 w1 cc hlo hhi hb0 hp hun hq
        show Ops _ _ _ _ _ _ _
        refine Ops.mv_int rfl rfl rfl ?_
        refine Ops.nil ?_
        exact AfterN.dn rfl (Below.refl _ _) (by exact rfl)
      · intro e1 w1 cc hlo hhi hb0 hp hun hq
        show Ops _ _ _ _ _ _ _
        refine Ops.bs1I (St.refl _) rfl rfl rfl ?_
        intro A9 w9 hst
        refine Ops.nil ?_
        exact AfterN.dn rfl hst.below ⟨A9, rfl, hst.rdI 0 rfl⟩
      · intro e1 w1 cc hlo hhi hb0 hp hun hq
        show Ops _ _ _ _ _ _ _
        replace hlo := le_of_lo hlo (b := 0) (by kernel_rfl)
        replace hhi := le_of_hi hhi (b := 0) (by kernel_rfl)
        obtain rfl : cc = 0 := by omega
        have hb := hb0 rfl
        obtain ⟨A9, h58, hT2⟩ := (hp 10 _ _ (by kernel_rfl) rfl rfl (by kernel_rfl))
        refine Ops.appI 1 (hB.later hb) rfl hT2 rfl (by exact h58) rfl (by omega) (by omega) rfl ?_
        intro A5 c5 w10 hT10
        refine Ops.nil ?_
        exact AfterT.dn rfl ⟨A5, c5, rfl, hT10⟩
      · intro e1 w1 cc hlo hhi hb0 hp hun hq
        show Ops _ _ _ _ _ _ _
        replace hlo := le_of_lo hlo (b := 1) (by kernel_rfl)
        replace hhi := le_of_hi hhi (b := 1) (by kernel_rfl)
        obtain rfl : cc = 1 := by omega
        have hph := hp 11 _ _ (by kernel_rfl) rfl rfl (by kernel_rfl)
        obtain ⟨A5, c5, _, hT⟩ := hph
        refine Ops.nilp (hT.rd 0 rfl) (Nat.succ_pos _) rfl rfl ?_
        refine Ops.nil ?_
        exact AfterN.dn rfl (Below.refl _ _) (by exact rfl)
      · intro e1 w1 cc hlo hhi hb0 hp hun hq
        show Ops _ _ _ _ _ _ _
        replace hlo := le_of_lo hlo (b := 1) (by kernel_rfl)
        replace hhi := le_of_hi hhi (b := 1) (by kernel_rfl)
        obtain rfl : cc = 1 := by omega
        have hph := hp 11 _ _ (by kernel_rfl) rfl rfl (by kernel_rfl)
        obtain ⟨A5, c5, _, hT⟩ := hph
        refine Ops.fld (hT.rd 0 rfl) rfl rfl rfl rfl inferInstance ?_
        refine Ops.nil ?_
        exact AfterN.dn rfl (Below.refl _ _) (by exact rfl)
      · intro e1 w1 cc hlo hhi hb0 hp hun hq
        show Ops _ _ _ _ _ _ _
        replace hlo := le_of_lo hlo (b := 1) (by kernel_rfl)
        replace hhi := le_of_hi hhi (b := 1) (by kernel_rfl)
        obtain rfl : cc = 1 := by omega
        have hph := hp 11 _ _ (by kernel_rfl) rfl rfl (by kernel_rfl)
        obtain ⟨A5, c5, h59, hT⟩ := (hp 11 _ _ (by kernel_rfl) rfl rfl (by kernel_rfl))
        refine Ops.stf 0 hT rfl rfl (by exact h59) rfl rfl ?_
        intro w9 hS9
        refine Ops.nil ?_
        exact AfterT.st rfl ⟨A5, c5, hS9⟩
      intro u w7 _ hu
      obtain ⟨A5, c5, hT⟩ := hu 14 _ rfl (by kernel_rfl)
      have hln : (r.ns ++ [(i : Int)]).length = r.ns.length + 1 := by simp
      refine blockQ_n ?_
      refine thenQ_n ?_
      refine Cd.region ?_
      refine Ops.add rfl rfl rfl (by omega) ?_
      refine Ops.mv_int rfl rfl rfl ?_
      refine Ops.nil ?_
      refine thenQ_n ?_
      refine ⟨(j + 1, (A3, c3), pre ++ ⟨r.P, r.s, r.x, A5, c5, r.ns ++ [(i : Int)]⟩ :: post), by show N.length - (j + 1) < N.length - j; omega, ⟨by show Value.slice A3 (pre ++ r :: post).length c3 = .slice A3 (pre ++ _ :: post).length c3; simp, rfl, rfl, rfl, rfl, rfl, rfl, rfl, rfl, trivial⟩, by show j + 1 ≤ N.length; omega, ?_, fun q hq => ?_, ?_⟩
      · show (pre ++ _ :: post).map RV.pr = _
        rw [List.map_append, List.map_cons, ← hpr, ← hrx]; rfl
      · rcases List.mem_append.1 hq with hq | hq
        · exact hrow q (List.mem_append_left _ hq)
        · rcases List.mem_cons.1 hq with rfl | hq
          · exact hrow r (by simp)
          · exact hrow q (List.mem_append_right _ (List.mem_cons_of_mem _ hq))
      · have e1 : mpR (pre ++ r :: post) = mpR (pre ++ (⟨r.P, r.s, r.x, A5, c5, r.ns ++ [(i : Int)]⟩ : RV) :: post) := by simp [mpR]
        have e2 : (pre ++ r :: post).map (·.P) = (pre ++ (⟨r.P, r.s, r.x, A5, c5, r.ns ++ [(i : Int)]⟩ : RV) :: post).map (·.P) := by simp
        have e3 : (pre ++ r :: post).length = (pre ++ (⟨r.P, r.s, r.x, A5, c5, r.ns ++ [(i : Int)]⟩ : RV) :: post).length := by simp
        rw [e1, e2, e3, ← hln] at hT
        show St w w7 (CkP _ _ _ _ _ :: CkM _ _ _ :: ((pre ++ (⟨r.P, r.s, r.x, A5, c5, r.ns ++ [(i : Int)]⟩ : RV) :: post).flatMap RV.ck ++ Y))
        rw [List.flatMap_append, List.flatMap_cons, List.append_assoc, List.append_assoc]
        exact hT.perm perm4
    · have hje : j = N.length := by omega
      rw [hje, hjn] at hpr
      refine Cd.exit ?_
      refine thenQ_x ?_
      refine thenQ_x ?_
      refine blockQ_x ?_
      refine blockQ_n ?_
      refine thenQ_n ?_
      refine Cd.region ?_
      refine Ops.add rfl rfl rfl (by omega) ?_
      refine Ops.mv_int rfl rfl rfl ?_
      refine Ops.nil ?_
      refine thenQ_n ?_
      exact ⟨(i + 1, (A3, c3), rvs, Y), by show n - (i + 1) < n - i; omega, ⟨rfl, rfl, rfl, rfl, rfl, trivial⟩, by show i + 1 ≤ n; omega, hpr, hrow, hS⟩
  · have hin : i = F.length := by omega
    rw [hin] at hpr
    refine Cd.exit ?_
    refine thenQ_x ?_
    refine thenQ_x ?_
    refine blockQ_x ?_
    refine thenQ_n ?_
    refine Cd.seq ?_
    refine Cd.region ?_
    refine Ops.mv_sl rfl rfl rfl ?_
    refine Ops.mv_sl rfl rfl rfl ?_
    refine Ops.nil ?_
    refine thenQ_n ?_
    refine Cd.ret ?_
    refine ret1_s rfl ?_
    exact ⟨A3, c3, rvs, X, rfl, hpr, hrow, hS.sub (List.Sublist.cons_cons _ (List.sublist_cons_self _ _))⟩
end Go.Proofs.YtdedegbendjmbaaGreatDoor.Vc
/-
  Parts of a list and faces with so many elements, walked in the reference. Conditions: as each states them.
-/
namespace Go.Proofs.YtdedegbendjmbaaGreatDoor.Vc
open Go.RowKit

/-- an answer: lists in memory of their own -/
def AnsL (L : List (List Int)) (w : World) (v : Value) (w' : World) : Prop := ∃ A c rs, v = .slice A L.length c ∧ rs.length = L.length ∧ St w w' (mat 25 2 A L.length c rs L ++ [])
theorem rowsCk_put {t : TypeId} {rs : List SlV} {xss : List (List Int)} (hl : rs.length = xss.length) (s : SlV) {x : List Int} (hx : ¬ x ∈ xss) : (rowsCk t (putR rs xss s x) (putL xss x)).Perm (CkI t s.a s.n s.c x :: rowsCk t rs xss) := by
  unfold putR putL
  rw [if_neg hx, if_neg hx, rowsCk_append (by simp [hl])]
  have e : rowsCk t rs xss = rowsCk t (rs.take (atL x xss)) (xss.take (atL x xss)) ++ rowsCk t (rs.drop (atL x xss)) (xss.drop (atL x xss)) := by
    rw [← rowsCk_append (by simp [hl]), List.take_append_drop, List.take_append_drop]
  rw [e]
  exact List.perm_middle
theorem putR_len {rs : List SlV} {xss : List (List Int)} (hl : rs.length = xss.length) (s : SlV) (x : List Int) : (putR rs xss s x).length = (putL xss x).length := by
  unfold putR putL
  split
  · exact hl
  · simp [hl]
/-- lists with the parts of a list put in, each behind the same front -/
def prP (L : List (List Int)) (xs ch : List Int) (m a : Nat) : List (List Int) := ((ptsP (xs.drop a) m).map (ch ++ ·)).foldl putL L
theorem prP_zero (L : List (List Int)) (xs ch : List Int) (a : Nat) : prP L xs ch 0 a = putL L ch := by
  unfold prP
  have e0 : ptsP (xs.drop a) 0 = [[]] := by cases xs.drop a <;> rfl
  rw [e0]; simp
theorem prP_step {L : List (List Int)} {xs ch : List Int} {m i : Nat} (h : i < xs.length) : prP L xs ch (m + 1) i = prP (prP L xs (ch ++ [gi xs (i : Int)]) m (i + 1)) xs ch (m + 1) (i + 1) := by
  unfold prP
  rw [ptsP_step h, List.map_append, List.foldl_append, List.map_map]
  congr 2
  exact List.map_congr_left fun x _ => by simp
theorem prP_end {L : List (List Int)} {xs ch : List Int} {m i : Nat} (h : xs.length ≤ i) : prP L xs ch (m + 1) i = L := by
  unfold prP
  rw [ptsP_short (by rw [List.length_drop]; omega)]; rfl
theorem prP_SL {L : List (List Int)} (h : SL L) (xs ch : List Int) (m a : Nat) : SL (prP L xs ch m a) := (foldPut_SL _ h).1
theorem prP_len (L : List (List Int)) (xs ch : List Int) (m a : Nat) : (prP L xs ch m a).length ≤ L.length + (ptsP (xs.drop a) m).length := by
  have := foldPut_len ((ptsP (xs.drop a) m).map (ch ++ ·)) L
  rwa [List.length_map] at this

/-- an answer: lists in memory of their own, beside other memory of one's own -/
def AnsP (L : List (List Int)) (w0 : World) (ks : List Ck) (w : World) (v : Value) (w' : World) : Prop := ∃ A c rs, v = .slice A L.length c ∧ rs.length = L.length ∧ Below w.heap.size w w' ∧ St w0 w' (mat 25 2 A L.length c rs L ++ ks)

set_option maxHeartbeats 1000000 in
theorem l17Parts_c (xs : List Int) (Ax : Option Addr) (nx cx : Nat) (hnx : nx ≤ 1000000) : ∀ (m : Nat) (A : Option Addr) (c : Nat) (rs : List SlV) (L : List (List Int)) (B : Option Addr) (cB : Nat) (ch : List Int) (k a : Nat) (w0 w : World) (ks : List Ck), St w0 w (mat 25 2 A L.length c rs L ++ (CkI 2 B ch.length cB ch :: ks)) → rs.length = L.length → SL L → L.length + (ptsP (xs.drop a) m).length ≤ 100000000 → RdI w Ax nx xs → ch.length + m = k → a ≤ nx →
    k ≤ 1000000 → Ret Tryz.prog 100 [.slice A L.length c, .slice Ax nx cx, .int .i64 (k : Int), .slice B ch.length cB, .int .i64 (a : Int)] w (AnsP (prP L xs ch m a) w0 ks w) := by
  intro m
  induction m with
  | zero =>
    intro A c rs L B cB ch k a w0 w ks hS hrl hs hN hX hk ha hk2
    have hR : RowsI w A L.length rs L := St.rowsI hS rfl
    have hS2 : St w0 w (CkI 2 B ch.length cB ch :: (mat 25 2 A L.length c rs L ++ ks)) := hS.perm List.perm_middle
    have hcA : L.length ≤ c := (hS.cap 0 rfl).1
    refine Ret.of_cd Tryz.func100 rfl Tryz.ntmps100 rfl (post1 rfl) ?_
    refine Cd.seq ?_
    refine Cd.region ?_
    refine Ops.mv_sl rfl rfl rfl ?_
    refine Ops.nil ?_
    refine thenQ_n ?_
    refine Cd.seq ?_
    refine Cd.seq ?_
    refine Cd.region ?_
    refine Ops.mv_sl rfl rfl rfl ?_
    refine Ops.len rfl rfl ?_
    refine Ops.mv_int rfl rfl rfl ?_
    refine Ops.eql rfl rfl rfl ?_
    refine Ops.nil ?_
    refine thenQ_n ?_
    refine Cd.cond_p _ rfl (fun h1 => ?_) (fun h1 => absurd h1 (by omega))
    refine Cd.seq ?_
    refine Cd.region ?_
    refine Ops.mv_sl rfl rfl rfl ?_
    refine Ops.mv_sl rfl rfl rfl ?_
    refine Ops.call (l17Put_c A _ c rs L B _ cB ch _ hR hcA (hS2.rdI 0 rfl) (by omega) (by omega) hs) rfl rfl rfl ?_
    rintro _ w3 ⟨A5, c5, rfl, hc5, hb5, hor⟩
    rw [prP_zero]
    refine Ops.mv_sl rfl rfl rfl ?_
    refine Ops.nil ?_
    refine thenQ_n ?_
    refine Cd.ret ?_
    refine thenQ_r ?_
    refine ret1_s rfl ?_
    rcases hor with ⟨rfl, rfl, hx⟩ | ⟨hx, hst⟩
    · have e : putL L ch = L := by unfold putL; rw [if_pos hx]
      rw [e]
      exact ⟨A5, c5, rs, rfl, hrl, hb5, hS2.tail.later hb5⟩
    · refine ⟨A5, c5, putR rs L ⟨B, ch.length, cB⟩ ch, rfl, putR_len hrl _ _, hb5, ?_⟩
      have h1 : St w0 w3 (CkR 25 A5 (putL L ch).length c5 (putR rs L ⟨B, ch.length, cB⟩ ch) :: (CkI 2 B ch.length cB ch :: (rowsCk 2 rs L ++ ks))) := (hS2.call hst).sub (List.Sublist.cons_cons _ (List.Sublist.cons_cons _ (List.sublist_cons_self _ _)))
      exact h1.perm (List.Perm.cons _ ((rowsCk_put hrl ⟨B, ch.length, cB⟩ hx).symm.append_right ks))
  | succ m ih =>
    intro A c rs L B cB ch k a w0 w ks hS hrl hs hN hX hk ha hk2
    have hxl := hX.1
    refine Ret.of_cd Tryz.func100 rfl Tryz.ntmps100 rfl (post1 rfl) ?_
    refine Cd.seq ?_
    refine Cd.region ?_
    refine Ops.mv_sl rfl rfl rfl ?_
    refine Ops.nil ?_
    refine thenQ_n ?_
    refine Cd.seq ?_
    refine Cd.seq ?_
    refine Cd.region ?_
    refine Ops.mv_sl rfl rfl rfl ?_
    refine Ops.len rfl rfl ?_
    refine Ops.mv_int rfl rfl rfl ?_
    refine Ops.eql rfl rfl rfl ?_
    refine Ops.nil ?_
    refine thenQ_n ?_
    refine Cd.cond_pf rfl (by omega) ?_
    refine Cd.skip ?_
    refine thenQ_n ?_
    refine Cd.seq ?_
    refine Cd.seq ?_
    refine Cd.region ?_
    refine Ops.mv_int rfl rfl rfl ?_
    refine Ops.mv_int rfl rfl rfl ?_
    refine Ops.nil ?_
    refine thenQ_n ?_
    refine Cd.block ?_
    refine Cd.loop (α := Nat × (Option Addr × Nat) × List SlV × List (List Int)) (fun z => [(0, .slice z.2.1.1 z.2.2.2.length z.2.1.2), (1, .slice Ax nx cx), (2, .int .i64 (k : Int)), (3, .slice B ch.length cB), (11, .int .i64 (z.1 : Int))])
      (fun z w' => z.1 ≤ nx ∧ Below w.heap.size w w' ∧ St w0 w' (mat 25 2 z.2.1.1 z.2.2.2.length z.2.1.2 z.2.2.1 z.2.2.2 ++ (CkI 2 B ch.length cB ch :: ks)) ∧ z.2.2.1.length = z.2.2.2.length ∧ SL z.2.2.2 ∧ z.2.2.2.length + (ptsP (xs.drop z.1) (m + 1)).length ≤ 100000000 ∧ prP z.2.2.2 xs ch (m + 1) z.1 = prP L xs ch (m + 1) a) (fun z => nx - z.1) (a, (A, c), rs, L) ⟨rfl, rfl, rfl, rfl, rfl, trivial⟩ ⟨ha, Below.refl _ _, hS, hrl, hs, hN, rfl⟩ ?_
    rintro ⟨i, ⟨A1, c1⟩, rs1, L1⟩ e wB ⟨hi, hb1, hS1, hrl1, hs1, hN1, hP1⟩
    dsimp only at hi hb1 hS1 hrl1 hs1 hN1 hP1 ⊢
    refine Cd.seq ?_
    refine Cd.seq ?_
    refine Cd.region ?_
    refine Ops.mv_int rfl rfl rfl ?_
    refine Ops.mv_sl rfl rfl rfl ?_
    refine Ops.len rfl rfl ?_
    refine Ops.lss rfl rfl rfl ?_
    refine Ops.nil ?_
    refine thenQ_n ?_
    refine Cd.cond_p _ rfl (fun h2 => ?_) (fun h2 => ?_)
    · have hin : i < xs.length := by omega
      have hX1 := hX.later hb1
      have hB1 : RdI wB B ch.length ch := (hS1.perm List.perm_middle).rdI 0 rfl
      have hst := ptsP_step (k := m) hin
      have hsl : (ptsP (xs.drop i) (m + 1)).length = (ptsP (xs.drop (i + 1)) m).length + (ptsP (xs.drop (i + 1)) (m + 1)).length := by rw [hst, List.length_append, List.length_map]
      have hlen2 := prP_len L1 xs (ch ++ [gi xs (i : Int)]) m (i + 1)
      have hcl : (ch ++ [gi xs (i : Int)]).length = ch.length + 1 := by simp
      have hih : ∀ (A5 : Option Addr) (c5 : Nat) (w2 : World), St wB w2 [CkI 2 A5 (ch.length + 1) c5 (ch ++ [gi xs (i : Int)])] → Ret Tryz.prog 100 [.slice A1 L1.length c1, .slice Ax nx cx, .int .i64 (k : Int), .slice A5 (ch.length + 1) c5, .int .i64 ((i + 1 : Nat) : Int)] w2 (AnsP (prP L1 xs (ch ++ [gi xs (i : Int)]) m (i + 1)) w0 (CkI 2 B ch.length cB ch :: ks) w2) := fun A5 c5 w2 h1 => by
        have h2 : St w0 w2 (mat 25 2 A1 L1.length c1 rs1 L1 ++ (CkI 2 A5 (ch ++ [gi xs (i : Int)]).length c5 (ch ++ [gi xs (i : Int)]) :: (CkI 2 B ch.length cB ch :: ks))) := by
          rw [hcl]
          exact (show St w0 w2 (CkI 2 A5 (ch.length + 1) c5 (ch ++ [gi xs (i : Int)]) :: (mat 25 2 A1 L1.length c1 rs1 L1 ++ (CkI 2 B ch.length cB ch :: ks))) from hS1.call h1).perm List.perm_middle.symm
        have := ih A1 c1 rs1 L1 A5 c5 (ch ++ [gi xs (i : Int)]) k (i + 1) w0 w2 _ h2 hrl1 hs1 (by omega) (hX1.later h1.below) (by rw [hcl]; omega) (by omega) hk2
        rwa [hcl] at this
      rw [prP_step hin] at hP1
      generalize hL2 : prP L1 xs (ch ++ [gi xs (i : Int)]) m (i + 1) = L2 at *
      have hs2 : SL L2 := by rw [← hL2]; exact prP_SL hs1 _ _ _ _
      refine Cd.skip ?_
      refine thenQ_n ?_
      refine Cd.seq ?_
      refine Cd.block ?_
      refine Cd.drawN [10] [.ex (.slice (A1) (L1.length) (c1)), .ex (.slice (Ax) (nx) (cx)), .ex (.int .i64 ((k : Int))), .ex (.slice (B) (ch.length) (cB)), .pr (fun v w' => ∃ A4 c4, v = .slice A4 ch.length c4 ∧ St wB w' [CkI 2 A4 ch.length c4 ch]), .ex (.slice (Ax) (nx) (cx)), .ex (.int .i64 ((i : Int))), .ex (.pointer (ptrAt (Ax) ((i : Int)).toNat)), .ex (.int .i64 (gi (xs) ((i : Int)))), .pr (fun v w' => ∃ A9, v = .slice A9 1 1 ∧ RdI w' A9 1 [gi xs (i : Int)]), .pr (fun v w' => ∃ A5 c5, v = .slice A5 (ch.length + 1) c5 ∧ St wB w' [CkI 2 A5 (ch.length + 1) c5 (ch ++ [gi xs (i : Int)])]), .ex (.int .i64 ((i : Int))), .ex (.int .i64 (((i : Int)) + ((1 : Int)))), .pr (fun v w' => ∃ A6 c6 rs6, v = .slice A6 L2.length c6 ∧ rs6.length = L2.length ∧ Below wB.heap.size wB w' ∧ St w0 w' (mat 25 2 A6 L2.length c6 rs6 L2 ++ (CkI 2 B ch.length cB ch :: ks))), .pr (fun v w' => ∃ A6 c6 rs6, v = .slice A6 L2.length c6 ∧ rs6.length = L2.length ∧ Below wB.heap.size wB w' ∧ St w0 w' (mat 25 2 A6 L2.length c6 rs6 L2 ++ (CkI 2 B ch.length cB ch :: ks)))] (by kernel_rfl) (by kernel_rfl) (List.forall_mem_cons.2 ⟨Yd.lasts_ex _, (List.forall_mem_cons.2 ⟨Yd.lasts_ex _, (List.forall_mem_cons.2 ⟨Yd.lasts_ex _, (List.forall_mem_cons.2 ⟨Yd.lasts_ex _, (List.forall_mem_cons.2 ⟨Yd.lasts_pr (fun v w w' h hb => by obtain ⟨A4, c4, hv, hT⟩ := h; exact ⟨A4, c4, hv, hT.later hb⟩), (List.forall_mem_cons.2 ⟨Yd.lasts_ex _, (List.forall_mem_cons.2 ⟨Yd.lasts_ex _, (List.forall_mem_cons.2 ⟨Yd.lasts_ex _, (List.forall_mem_cons.2 ⟨Yd.lasts_ex _, (List.forall_mem_cons.2 ⟨Yd.lasts_pr (fun v w w' h hb => by obtain ⟨A9, hv, hT⟩ := h; exact ⟨A9, hv, hT.later hb⟩), (List.forall_mem_cons.2 ⟨Yd.lasts_pr (fun v w w' h hb => by obtain ⟨A5, c5, hv, hT⟩ := h; exact ⟨A5, c5, hv, hT.later hb⟩), (List.forall_mem_cons.2 ⟨Yd.lasts_ex _, (List.forall_mem_cons.2 ⟨Yd.lasts_ex _, (List.forall_mem_cons.2 ⟨Yd.lasts_pr (fun v w w' h hb => by obtain ⟨A6, c6, rs6, hv, hr6, hb6, hS6⟩ := h; exact ⟨A6, c6, rs6, hv, hr6, hb6.trans (hb.mono hb6.size), hS6.later hb⟩), (List.forall_mem_cons.2 ⟨Yd.lasts_pr (fun v w w' h hb => by obtain ⟨A6, c6, rs6, hv, hr6, hb6, hS6⟩ := h; exact ⟨A6, c6, rs6, hv, hr6, hb6.trans (hb.mono hb6.size), hS6.later hb⟩), (fun _ h => by cases h)⟩)⟩)⟩)⟩)⟩)⟩)⟩)⟩)⟩)⟩)⟩)⟩)⟩)⟩)⟩) ⟨?_, ?_, ?_, ?_, ?_, ?_, ?_, ?_, ?_, ?_, ?_, ?_, ?_, ?_, ?_, trivial⟩ ?_
      · intro e1 w1 cc hlo hhi hb0 hp hun hq
        show Ops _ _ _ _ _ _ _
        refine Ops.mv_sl rfl (by exact hun 14 _ rfl (by kernel_rfl)) rfl ?_
        refine Ops.nil ?_
        exact AfterN.dn rfl (Below.refl _ _) (by exact rfl)
      · intro e1 w1 cc hlo hhi hb0 hp hun hq
        show Ops _ _ _ _ _ _ _
        refine Ops.mv_sl rfl rfl rfl ?_
        refine Ops.nil ?_
        exact AfterN.dn rfl (Below.refl _ _) (by exact rfl)
      · intro e1 w1 cc hlo hhi hb0 hp hun hq
        show Ops _ _ _ _ _ _ _
        refine Ops.mv_int rfl rfl rfl ?_
        refine Ops.nil ?_
        exact AfterN.dn rfl (Below.refl _ _) (by exact rfl)
      · intro e1 w1 cc hlo hhi hb0 hp hun hq
        show Ops _ _ _ _ _ _ _
        refine Ops.mv_sl rfl rfl rfl ?_
        refine Ops.nil ?_
        exact AfterN.dn rfl (Below.refl _ _) (by exact rfl)
      · intro e1 w1 cc hlo hhi hb0 hp hun hq
        show Ops _ _ _ _ _ _ _
        replace hlo := le_of_lo hlo (b := 0) (by kernel_rfl)
        replace hhi := le_of_hi hhi (b := 0) (by kernel_rfl)
        obtain rfl : cc = 0 := by omega
        have hb := hb0 rfl
        refine Ops.call (l01Own_c B _ cB ch _ (hB1.later hb) (by omega)) rfl rfl rfl ?_
        rintro _ w2 ⟨A4, c4, rfl, hst⟩
        refine Ops.nil ?_
        exact AfterN.dn rfl hst.below ⟨A4, c4, rfl, ((St.refl wB).later hb).call hst⟩
      · intro e1 w1 cc hlo hhi hb0 hp hun hq
        show Ops _ _ _ _ _ _ _
        refine Ops.mv_sl rfl rfl rfl ?_
        refine Ops.nil ?_
        exact AfterN.dn rfl (Below.refl _ _) (by exact rfl)
      · intro e1 w1 cc hlo hhi hb0 hp hun hq
        show Ops _ _ _ _ _ _ _
        refine Ops.mv_int rfl rfl rfl ?_
        refine Ops.nil ?_
        exact AfterN.dn rfl (Below.refl _ _) (by exact rfl)
      · intro e1 w1 cc hlo hhi hb0 hp hun hq
        show Ops _ _ _ _ _ _ _
        replace hlo := le_of_lo hlo (b := 0) (by kernel_rfl)
        replace hhi := le_of_hi hhi (b := 0) (by kernel_rfl)
        obtain rfl : cc = 0 := by omega
        have hb := hb0 rfl
        refine Ops.idx (hX1.later hb).2 rfl rfl rfl (by omega) (by omega) ?_
        refine Ops.nil ?_
        exact AfterN.dn rfl (Below.refl _ _) (by exact rfl)
      · intro e1 w1 cc hlo hhi hb0 hp hun hq
        show Ops _ _ _ _ _ _ _
        replace hlo := le_of_lo hlo (b := 0) (by kernel_rfl)
        replace hhi := le_of_hi hhi (b := 0) (by kernel_rfl)
        obtain rfl : cc = 0 := by omega
        have hb := hb0 rfl
        refine Ops.ld_int (hX1.later hb) rfl (by omega) rfl rfl ?_
        refine Ops.nil ?_
        exact AfterN.dn rfl (Below.refl _ _) (by exact rfl)
      · intro e1 w1 cc hlo hhi hb0 hp hun hq
        show Ops _ _ _ _ _ _ _
        refine Ops.bs1I (St.refl _) rfl rfl rfl ?_
        intro A9 w9 hst
        refine Ops.nil ?_
        exact AfterN.dn rfl hst.below ⟨A9, rfl, hst.rdI 0 rfl⟩
      · intro e1 w1 cc hlo hhi hb0 hp hun hq
        show Ops _ _ _ _ _ _ _
        replace hlo := le_of_lo hlo (b := 0) (by kernel_rfl)
        replace hhi := le_of_hi hhi (b := 0) (by kernel_rfl)
        obtain rfl : cc = 0 := by omega
        have hb := hb0 rfl
        obtain ⟨A4, c4, h30, hT0⟩ := (hp 4 _ _ (by kernel_rfl) rfl rfl (by kernel_rfl))
        obtain ⟨A9, h35, hT2⟩ := (hp 9 _ _ (by kernel_rfl) rfl rfl (by kernel_rfl))
        refine Ops.appI 0 hT0 rfl hT2 (by exact h30) (by exact h35) rfl (by omega) (by omega) rfl ?_
        intro A5 c5 w10 hT10
        refine Ops.nil ?_
        exact AfterT.dn rfl ⟨A5, c5, rfl, hT10⟩
      · intro e1 w1 cc hlo hhi hb0 hp hun hq
        show Ops _ _ _ _ _ _ _
        refine Ops.mv_int rfl rfl rfl ?_
        refine Ops.nil ?_
        exact AfterN.dn rfl (Below.refl _ _) (by exact rfl)
      · intro e1 w1 cc hlo hhi hb0 hp hun hq
        show Ops _ _ _ _ _ _ _
        refine Ops.add rfl rfl rfl (by omega) ?_
        refine Ops.nil ?_
        exact AfterN.dn rfl (Below.refl _ _) (by exact rfl)
      · intro e1 w1 cc hlo hhi hb0 hp hun hq
        show Ops _ _ _ _ _ _ _
        replace hlo := le_of_lo hlo (b := 1) (by kernel_rfl)
        replace hhi := le_of_hi hhi (b := 1) (by kernel_rfl)
        obtain rfl : cc = 1 := by omega
        have hph := hp 10 _ _ (by kernel_rfl) rfl rfl (by kernel_rfl)
        obtain ⟨A5, c5, h36, hT⟩ := (hp 10 _ _ (by kernel_rfl) rfl rfl (by kernel_rfl))
        refine Ops.call (hih A5 c5 _ hT) rfl (by exact congrArg (fun v => [Value.slice A1 L1.length c1, .slice Ax nx cx, .int .i64 (k : Int), v, .int .i64 ((i : Int) + 1)]) h36) rfl ?_
        rintro _ w2 ⟨A6, c6, rs6, rfl, hr6, hb6, hS6⟩
        refine Ops.nil ?_
        exact AfterN.dn rfl hb6 ⟨A6, c6, rs6, rfl, hr6, hT.below.trans (hb6.mono hT.below.size), hS6⟩
      · intro e1 w1 cc hlo hhi hb0 hp hun hq
        show Ops _ _ _ _ _ _ _
        replace hlo := le_of_lo hlo (b := 1) (by kernel_rfl)
        replace hhi := le_of_hi hhi (b := 1) (by kernel_rfl)
        obtain rfl : cc = 1 := by omega
        have hph := hp 10 _ _ (by kernel_rfl) rfl rfl (by kernel_rfl)
        obtain ⟨A6, c6, rs6, h39, hr6, hb6, hS6⟩ := (hp 13 _ _ (by kernel_rfl) rfl rfl (by kernel_rfl))
        refine Ops.mv_sl rfl (by exact h39) rfl ?_
        refine Ops.nil ?_
        exact AfterN.dn rfl (Below.refl _ _) ⟨A6, c6, rs6, rfl, hr6, hb6, hS6⟩
      intro u w3 _ hu
      obtain ⟨A6, c6, rs6, hv, hr6, hb6, hS6⟩ := hu 14 _ rfl (by kernel_rfl)
      refine blockQ_n ?_
      refine thenQ_n ?_
      refine Cd.region ?_
      refine Ops.mv_int rfl rfl rfl ?_
      refine Ops.add rfl rfl rfl (by omega) ?_
      refine Ops.mv_int rfl rfl rfl ?_
      refine Ops.nil ?_
      refine thenQ_n ?_
      exact ⟨(i + 1, (A6, c6), rs6, L2), by show nx - (i + 1) < nx - i; omega, ⟨hv, rfl, rfl, rfl, rfl, trivial⟩, by show i + 1 ≤ nx; omega, hb1.trans (hb6.mono hb1.size), hS6, hr6, hs2, by show L2.length + (ptsP (xs.drop (i + 1)) (m + 1)).length ≤ _; omega, hP1⟩
    · rw [prP_end (by omega)] at hP1
      rw [← hP1]
      refine Cd.exit ?_
      refine thenQ_x ?_
      refine thenQ_x ?_
      refine blockQ_x ?_
      refine thenQ_n ?_
      refine Cd.seq ?_
      refine Cd.region ?_
      refine Ops.mv_sl rfl rfl rfl ?_
      refine Ops.mv_sl rfl rfl rfl ?_
      refine Ops.nil ?_
      refine thenQ_n ?_
      refine Cd.ret ?_
      refine ret1_s rfl ?_
      exact ⟨A1, c1, rs1, rfl, hrl1, hb1, hS1.sub ((List.Sublist.refl _).append (List.sublist_cons_self _ _))⟩

theorem faP_step {F : List (List Int)} {k i : Nat} (hk : k ≠ 0) (h : i < F.length) : (faL (F.take (i + 1)) k).foldl putL [] = prP ((faL (F.take i) k).foldl putL []) (gl F (i : Int)) [] k 0 := by
  unfold faL prP
  rw [if_neg hk, if_neg hk, take_succ_gl h, List.flatMap_append, List.foldl_append]
  simp

theorem l17Faces_c (V : Int) (A : Option Addr) (n c : Nat) (rs : List SlV) (F : List (List Int)) (k : Nat) (w : World) (hR : RowsI w A n rs F) (hn : n ≤ 1000) (h6 : ∀ f ∈ F, f.length ≤ 6) (hk : k ≤ 1000) :
    Ret Tryz.prog 77 [.agg #[.int .i64 V, .slice A n c], .int .i64 (k : Int)] w (AnsL (fcs F k) w) := by
  have hFl := hR.len
  refine Ret.of_cd Tryz.func77 rfl Tryz.ntmps77 rfl (post1 rfl) ?_
  refine Cd.seq ?_
  refine Cd.region ?_
  refine Ops.box2 (St.refl w) rfl rfl ?_
  intro Ab w1 hS1
  refine Ops.mv_sl rfl rfl rfl ?_
  refine Ops.nil ?_
  refine thenQ_n ?_
  refine Cd.seq ?_
  refine Cd.region ?_
  refine Ops.bs0 hS1 rfl ?_
  intro A5 w2 hS2
  have hS2 : St w w2 [CkR 25 A5 0 0 [], cxB Ab V A n c] := hS2
  refine Ops.mv_sl rfl rfl rfl ?_
  refine Ops.nil ?_
  refine thenQ_n ?_
  refine Cd.seq ?_
  refine Cd.seq ?_
  refine Cd.region ?_
  refine Ops.mv_int rfl rfl rfl ?_
  refine Ops.eql rfl rfl rfl ?_
  refine Ops.nil ?_
  refine thenQ_n ?_
  refine Cd.cond_p _ rfl (fun h1 => ?_) (fun h1 => ?_)
  · have hk0 : k = 0 := by omega
    subst hk0
    rw [fcs_zero]
    refine Cd.seq ?_
    refine Cd.region ?_
    refine Ops.bs0 hS2 rfl ?_
    intro A6 w3 hS3
    refine Ops.bs1R hS3 rfl rfl rfl ?_
    intro A7 w4 hS4
    have hS4 : St w w4 [CkR 25 A7 1 1 [⟨A6, 0, 0⟩], CkI 2 A6 0 0 [], CkR 25 A5 0 0 [], cxB Ab V A n c] := hS4
    refine Ops.mv_sl rfl rfl rfl ?_
    refine Ops.nil ?_
    refine thenQ_n ?_
    refine Cd.ret ?_
    refine thenQ_r ?_
    refine ret1_s rfl ?_
    exact ⟨A7, 1, [⟨A6, 0, 0⟩], rfl, rfl, hS4.sub (List.Sublist.cons_cons _ (List.Sublist.cons_cons _ (List.nil_sublist _)))⟩
  · have hk0 : k ≠ 0 := by omega
    have hB2 : Rd w2 Ab 2 (fun j => [Value.int .i64 V, .slice A n c].getD j undef) := hS2.rd 1 rfl
    refine Cd.skip ?_
    refine thenQ_n ?_
    refine Cd.seq ?_
    refine Cd.seq ?_
    refine Cd.region ?_
    refine Ops.mv_int rfl rfl rfl ?_
    refine Ops.nil ?_
    refine thenQ_n ?_
    refine Cd.block ?_
    refine Cd.loop (α := Nat × (Option Addr × Nat) × List SlV × List (List Int)) (fun z => [(1, .int .i64 (k : Int)), (2, .pointer Ab), (5, .slice z.2.1.1 z.2.2.2.length z.2.1.2), (6, .int .i64 (z.1 : Int))])
      (fun z w' => z.1 ≤ n ∧ St w w' (mat 25 2 z.2.1.1 z.2.2.2.length z.2.1.2 z.2.2.1 z.2.2.2 ++ [cxB Ab V A n c]) ∧ z.2.2.1.length = z.2.2.2.length ∧ SL z.2.2.2 ∧ z.2.2.2 = (faL (F.take z.1) k).foldl putL []) (fun z => n - z.1) (0, (A5, 0), [], []) ⟨rfl, rfl, rfl, rfl, trivial⟩ ⟨Nat.zero_le _, hS2, rfl, by simp [SL], by show [] = (faL (F.take 0) k).foldl putL []; unfold faL; rw [if_neg hk0]; rfl⟩ ?_
    rintro ⟨i, ⟨A1, c1⟩, rs1, L1⟩ e w3 ⟨hi, hS3, hrl1, hs1, hL1⟩
    dsimp only at hi hS3 hrl1 hs1 hL1 ⊢
    have hB3 := (hS3.perm List.perm_append_comm).rd 0 rfl
    refine Cd.seq ?_
    refine Cd.seq ?_
    refine Cd.region ?_
    refine Ops.mv_int rfl rfl rfl ?_
    refine Ops.fld hB3 rfl rfl rfl rfl inferInstance ?_
    refine Ops.ldf_s hB3 rfl rfl rfl rfl rfl ?_
    refine Ops.len rfl rfl ?_
    refine Ops.lss rfl rfl rfl ?_
    refine Ops.nil ?_
    refine thenQ_n ?_
    refine Cd.cond_p _ rfl (fun h3 => ?_) (fun h3 => ?_)
    · have hiF : i < F.length := by omega
      have hM := hS3.oldRows hR
      have hrow := hM.at_ (i := (i : Int)) (by omega) (by omega)
      have hrl := hrow.1
      have hfl := h6 (gl F (i : Int)) (by rw [gl_mem hiF]; exact List.getElem_mem _)
      have hstep := faP_step hk0 hiF
      rw [← hL1] at hstep
      have hpn := ptsP_small (l := (gl F (i : Int)).drop 0) k (by simpa using hfl)
      have hnum := faL_num (F := F.take i) k fun f hf => h6 f (List.mem_of_mem_take hf)
      have hfl2 := foldPut_len (faL (F.take i) k) []
      rw [← hL1] at hfl2
      have htl : (F.take i).length ≤ 1000 := by simp; omega
      have hl0 : ([] : List (List Int)).length = 0 := rfl
      refine Cd.skip ?_
      refine thenQ_n ?_
      refine Cd.seq ?_
      refine Cd.block ?_
      refine Cd.region ?_
      refine Ops.mv_sl rfl rfl rfl ?_
      refine Ops.fld hB3 rfl rfl rfl rfl inferInstance ?_
      refine Ops.ldf_s hB3 rfl rfl rfl rfl rfl ?_
      refine Ops.mv_int rfl rfl rfl ?_
      refine Ops.idx hM.top.2 rfl rfl rfl (by omega) (by omega) ?_
      refine Ops.ld_sl hM.top rfl (by omega) rfl rfl ?_
      refine Ops.mv_int rfl rfl rfl ?_
      refine Ops.bs0 (St.refl w3) rfl ?_
      intro A8 w4 hT4
      have hT4 : St w3 w4 [CkI 2 A8 ([] : List Int).length 0 []] := hT4
      have hS4 := (hS3.call hT4).perm (List.perm_middle (l₁ := mat 25 2 A1 L1.length c1 rs1 L1)).symm
      refine Ops.call (l17Parts_c (gl F (i : Int)) _ _ _ (by omega) k A1 c1 rs1 L1 A8 0 [] k 0 w w4 [cxB Ab V A n c] hS4 hrl1 hs1 (by omega) (hrow.later hT4.below) (by simp) (by omega) (by omega)) rfl rfl rfl ?_
      rintro _ w5 ⟨A6, c6, rs6, rfl, hr6, hb6, hS6⟩
      rw [← hstep] at hS6 hr6 ⊢
      refine Ops.mv_sl rfl rfl rfl ?_
      refine Ops.nil ?_
      refine blockQ_n ?_
      refine thenQ_n ?_
      refine Cd.region ?_
      refine Ops.mv_int rfl rfl rfl ?_
      refine Ops.add rfl rfl rfl (by omega) ?_
      refine Ops.mv_int rfl rfl rfl ?_
      refine Ops.nil ?_
      refine thenQ_n ?_
      exact ⟨(i + 1, (A6, c6), rs6, _), by show n - (i + 1) < n - i; omega, ⟨rfl, rfl, rfl, rfl, trivial⟩, by show i + 1 ≤ n; omega, hS6, hr6, (foldPut_SL _ (by simp [SL])).1, rfl⟩
    · rw [List.take_of_length_le (by omega)] at hL1
      have hL2 : L1 = fcs F k := hL1
      subst hL2
      refine Cd.exit ?_
      refine thenQ_x ?_
      refine thenQ_x ?_
      refine blockQ_x ?_
      refine thenQ_n ?_
      refine Cd.seq ?_
      refine Cd.region ?_
      refine Ops.mv_sl rfl rfl rfl ?_
      refine Ops.mv_sl rfl rfl rfl ?_
      refine Ops.nil ?_
      refine thenQ_n ?_
      refine Cd.ret ?_
      refine ret1_s rfl ?_
      exact ⟨A1, c1, rs1, rfl, hrl1, hS3.sub ((List.Sublist.refl _).append (List.nil_sublist _))⟩
end Go.Proofs.YtdedegbendjmbaaGreatDoor.Vc
/-
  A vertex left out of a complex, walked on both sides. Conditions: as each states them.
-/
namespace Go.Proofs.YtdedegbendjmbaaGreatDoor.Vc
open Go.RowKit

def dlV (V : Int) (F : List (List Int)) (v : Int) : Int := if Cplx V F ∧ 0 ≤ v ∧ v < V then cxV (delL F v) else 0
def dlL (V : Int) (F : List (List Int)) (v : Int) : List (List Int) := if Cplx V F ∧ 0 ≤ v ∧ v < V then cxL (delL F v) else []
def dlK (V : Int) (F : List (List Int)) (v : Int) : Int := if Cplx V F then (if 0 ≤ v ∧ v < V then cxK (delL F v) else 2) else 1
end Go.Proofs.YtdedegbendjmbaaGreatDoor.Vc
/-
  Skeletons of complexes, walked on both sides. Conditions: as each states them.
-/
namespace Go.Proofs.YtdedegbendjmbaaGreatDoor.Vc
open Go.RowKit

def skV (V : Int) (F : List (List Int)) (k : Int) : Int := if Cplx V F ∧ 0 ≤ k ∧ k ≤ 6 then cxV (sklL F k.toNat) else 0
def skL (V : Int) (F : List (List Int)) (k : Int) : List (List Int) := if Cplx V F ∧ 0 ≤ k ∧ k ≤ 6 then cxL (sklL F k.toNat) else []
def skK (V : Int) (F : List (List Int)) (k : Int) : Int := if Cplx V F then (if 0 ≤ k ∧ k ≤ 6 then cxK (sklL F k.toNat) else 2) else 1
/-- rows that are read below a base or are one's own -/
structure RowsS (w : World) (ks : List Ck) (n : Nat) (rs : List SlV) (xss : List (List Int)) : Prop where
  rl : rs.length = n
  len : xss.length = n
  at_ : ∀ j, j < n → (RdI w (rs.getD j slNil).a (rs.getD j slNil).n (xss.getD j []) ∧ (rs.getD j slNil).n ≤ (rs.getD j slNil).c ∧ (rs.getD j slNil).c ≤ maxLen) ∨ CkI 2 (rs.getD j slNil).a (rs.getD j slNil).n (rs.getD j slNil).c (xss.getD j []) ∈ ks
theorem RowsS.W {w w' : World} {ks ms : List Ck} {n : Nat} {rs : List SlV} {xss : List (List Int)} (h : RowsS w ks n rs xss) (hS : St w w' ms) (hsub : ∀ k ∈ ks, k ∈ ms) : RowsW w' n rs xss := by
  refine ⟨h.rl, h.len, fun j hj => ?_, fun j hj => ?_⟩
  · rcases h.at_ j hj with ⟨h1, _⟩ | h1
    · exact hS.oldI h1
    · obtain ⟨i, hi⟩ := List.mem_iff_getElem?.1 (hsub _ h1)
      exact hS.rdI i hi
  · rcases h.at_ j hj with ⟨_, h2⟩ | h1
    · exact h2
    · obtain ⟨i, hi⟩ := List.mem_iff_getElem?.1 (hsub _ h1)
      exact hS.cap i hi
end Go.Proofs.YtdedegbendjmbaaGreatDoor.Vc
/-
  The complex of any lists, walked on both sides. Conditions: as each states them.
-/
namespace Go.Proofs.YtdedegbendjmbaaGreatDoor.Vc
open Go.RowKit

def NegL (ls : List (List Int)) : Prop := ∃ l ∈ ls, ∃ x ∈ l, x < 0
instance (ls : List (List Int)) : Decidable (NegL ls) := by unfold NegL; exact inferInstance
def coV (ls : List (List Int)) : Int := if NegL ls then 0 else cxV (ls.map cs)
def coL (ls : List (List Int)) : List (List Int) := if NegL ls then [] else cxL (ls.map cs)
def coK (ls : List (List Int)) : Int := if NegL ls then 1 else cxK (ls.map cs)
end Go.Proofs.YtdedegbendjmbaaGreatDoor.Vc
/-
  Plain mathematics: polynomials told by their coefficients, and what becomes of numbers of faces. Conditions: as each states them. No program in sight.
-/
namespace Go.Proofs.YtdedegbendjmbaaGreatDoor.Vc

def sumN : Nat → (Nat → Int) → Int
  | 0, _ => 0
  | n + 1, g => sumN n g + g n
theorem sumN_congr {g h : Nat → Int} : ∀ {n : Nat}, (∀ i, i < n → g i = h i) → sumN n g = sumN n h
  | 0, _ => rfl
  | n + 1, H => by unfold sumN; rw [sumN_congr (n := n) fun i hi => H i (by omega), H n (by omega)]
theorem sumN_front (g : Nat → Int) : ∀ n : Nat, sumN (n + 1) g = g 0 + sumN n fun i => g (i + 1)
  | 0 => by simp [sumN]
  | n + 1 => by
    have := sumN_front g n
    rw [sumN, this, sumN]
    omega
theorem sumN_add (g h : Nat → Int) : ∀ n : Nat, sumN n (fun i => g i + h i) = sumN n g + sumN n h
  | 0 => rfl
  | n + 1 => by unfold sumN; rw [sumN_add g h n]; show _ + _ + (g n + h n) = _; omega
theorem sumN_mul (a : Int) (g : Nat → Int) : ∀ n : Nat, sumN n (fun i => a * g i) = a * sumN n g
  | 0 => by simp [sumN]
  | n + 1 => by unfold sumN; rw [sumN_mul a g n, Int.mul_add]
theorem sumN_zero : ∀ n : Nat, sumN n (fun _ => 0) = 0
  | 0 => rfl
  | n + 1 => by unfold sumN; rw [sumN_zero n]; rfl

def pX (p : Nat → Int) : Nat → Int
  | 0 => 0
  | n + 1 => p n
def pD (p : Nat → Int) : Nat → Int := fun n => p n - pX p n
def p1 : Nat → Int := fun n => if n = 0 then 1 else 0
def pDn : Nat → Nat → Int
  | 0 => p1
  | m + 1 => pD (pDn m)
def pW : List Int → Nat → Nat → Int
  | [], _ => fun _ => 0
  | a :: r, m => fun n => a * pDn m n + pX (pW r (m - 1)) n
theorem pX_D (p : Nat → Int) : pX (pD p) = pD (pX p) := by
  funext n
  match n with
  | 0 => rfl
  | 1 => show pD p 0 = pX p 1 - pX (pX p) 1; rfl
  | n + 2 => rfl
theorem pX_zero : pX (fun _ => 0) = fun _ => 0 := by funext n; cases n <;> rfl
theorem pW_D : ∀ {f : List Int} {m : Nat}, f.length ≤ m + 1 → pW f (m + 1) = pD (pW f m)
  | [], m, _ => by funext n; cases n <;> rfl
  | a :: r, m, h => by
    have e : pX (pW r m) = pD (pX (pW r (m - 1))) := by
      match r, m, h with
      | [], m, _ => funext n; match n with
        | 0 => rfl
        | 1 => rfl
        | n + 2 => rfl
      | b :: s, m + 1, h =>
        show pX (pW (b :: s) (m + 1)) = pD (pX (pW (b :: s) m))
        rw [pW_D (f := b :: s) (m := m) (by simpa using h), pX_D]
    funext n
    show a * pD (pDn m) n + pX (pW r m) n = (a * pDn m n + pX (pW r (m - 1)) n) - pX (fun n => a * pDn m n + pX (pW r (m - 1)) n) n
    rw [e]
    cases n with
    | zero => simp [pD, pX]
    | succ n => simp only [pD, pX, Int.mul_sub]; omega
theorem pDn_deg : ∀ {m n : Nat}, m < n → pDn m n = 0
  | 0, n, h => by simp [pDn, p1]; omega
  | m + 1, n + 1, h => by
    show pDn m (n + 1) - pDn m n = 0
    rw [pDn_deg (m := m) (by omega), pDn_deg (m := m) (by omega)]; rfl
def conv (p q : Nat → Int) (n : Nat) : Int := sumN (n + 1) fun i => p i * q (n - i)
theorem conv_add (p p' q : Nat → Int) (n : Nat) : conv (fun i => p i + p' i) q n = conv p q n + conv p' q n := by
  unfold conv
  rw [← sumN_add]
  exact sumN_congr fun i _ => Int.add_mul _ _ _
theorem conv_mul (a : Int) (p q : Nat → Int) (n : Nat) : conv (fun i => a * p i) q n = a * conv p q n := by
  unfold conv
  rw [← sumN_mul]
  exact sumN_congr fun i _ => Int.mul_assoc _ _ _
theorem conv_zero (q : Nat → Int) (n : Nat) : conv (fun _ => 0) q n = 0 := by
  unfold conv
  rw [sumN_congr (h := fun _ => 0) fun i _ => Int.zero_mul _]
  exact sumN_zero _
theorem conv_X (p q : Nat → Int) (n : Nat) : conv (pX p) q n = pX (conv p q) n := by
  cases n with
  | zero => simp [conv, sumN, pX]
  | succ n =>
    show sumN (n + 1 + 1) _ = sumN (n + 1) _
    rw [sumN_front]
    simp only [pX, Int.zero_mul, Int.zero_add]
    exact sumN_congr fun i hi => by rw [show n + 1 - (i + 1) = n - i by omega]
theorem conv_D (p q : Nat → Int) (n : Nat) : conv (pD p) q n = pD (conv p q) n := by
  have h : conv (pD p) q n + conv (pX p) q n = conv p q n := by
    rw [← conv_add]
    congr 1
    funext i
    show p i - pX p i + pX p i = p i
    omega
  rw [conv_X] at h
  show _ = conv p q n - pX (conv p q) n
  omega
theorem conv_one (q : Nat → Int) (n : Nat) : conv p1 q n = q n := by
  unfold conv
  rw [sumN_front, sumN_congr (h := fun _ => 0) (n := n) fun i _ => by simp [p1], sumN_zero]
  simp [p1]
theorem conv_Dn {g : List Int} {k : Nat} (hg : g.length ≤ k + 1) : ∀ m n : Nat, conv (pDn m) (pW g k) n = pW g (m + k) n
  | 0, n => by rw [Nat.zero_add]; exact conv_one _ n
  | m + 1, n => by
    show conv (pD (pDn m)) (pW g k) n = _
    rw [conv_D, show conv (pDn m) (pW g k) = pW g (m + k) from funext (conv_Dn hg m), show m + 1 + k = m + k + 1 by omega, pW_D (by omega)]

/-! lists of coefficients -/
def addL : List Int → List Int → List Int
  | [], g => g
  | f, [] => f
  | a :: f, b :: g => (a + b) :: addL f g
def cvl : List Int → List Int → List Int
  | [], _ => []
  | a :: r, g => addL (g.map (a * ·)) (0 :: cvl r g)
theorem addL_len : ∀ f g : List Int, (addL f g).length = max f.length g.length
  | [], g => by simp [addL]
  | a :: f, [] => by simp [addL]
  | a :: f, b :: g => by simp [addL, addL_len f g]
theorem addL_at : ∀ (f g : List Int) (n : Nat), (addL f g).getD n 0 = f.getD n 0 + g.getD n 0
  | [], g, n => by simp [addL]
  | a :: f, [], n => by simp [addL]
  | a :: f, b :: g, 0 => by simp [addL]
  | a :: f, b :: g, n + 1 => by simpa [addL] using addL_at f g n
theorem getD_map (a : Int) (g : List Int) (n : Nat) : (g.map (a * ·)).getD n 0 = a * g.getD n 0 := by
  simp only [List.getD_eq_getElem?_getD, List.getElem?_map]
  cases g[n]? <;> simp
theorem getD_cons0 (l : List Int) : (fun n => ((0 : Int) :: l).getD n 0) = pX fun n => l.getD n 0 := by
  funext n; cases n <;> rfl
theorem pW_add : ∀ (f g : List Int) (m n : Nat), pW (addL f g) m n = pW f m n + pW g m n
  | [], g, m, n => by show _ = 0 + _; simp [addL]
  | a :: f, [], m, n => by show _ = _ + 0; simp [addL]
  | a :: f, b :: g, m, n => by
    show (a + b) * pDn m n + pX (pW (addL f g) (m - 1)) n = (a * pDn m n + pX (pW f (m - 1)) n) + (b * pDn m n + pX (pW g (m - 1)) n)
    cases n with
    | zero => simp only [pX, Int.add_mul]; omega
    | succ n => simp only [pX, Int.add_mul, pW_add f g (m - 1) n]; omega
theorem pW_smul (a : Int) : ∀ (g : List Int) (m n : Nat), pW (g.map (a * ·)) m n = a * pW g m n
  | [], m, n => by show 0 = a * 0; simp
  | b :: g, m, n => by
    show (a * b) * pDn m n + pX (pW (g.map (a * ·)) (m - 1)) n = a * (b * pDn m n + pX (pW g (m - 1)) n)
    cases n with
    | zero => simp only [pX, Int.mul_add, Int.mul_assoc]; simp
    | succ n => simp only [pX, Int.mul_add, Int.mul_assoc, pW_smul a g (m - 1) n]
/-- the h-vector of an f-vector -/
def hP (f : List Int) : List Int := (List.range f.length).map (pW f (f.length - 1))
theorem sumN_X (p : Nat → Int) (n : Nat) : sumN (n + 1) (pX p) = sumN n p := by
  rw [sumN_front]
  show 0 + sumN n p = _
  omega
theorem sumN_D (p : Nat → Int) (n : Nat) : sumN (n + 1) (pD p) = p n := by
  induction n with
  | zero => simp [sumN, pD, pX]
  | succ n ih => rw [sumN, ih]; show p n + (p (n + 1) - p n) = _; omega
end Go.Proofs.YtdedegbendjmbaaGreatDoor.Vc
/-
  Plain mathematics of complexes: the join of two, and its numbers of faces. Conditions: as each states them. No program in sight.
-/
namespace Go.Proofs.YtdedegbendjmbaaGreatDoor.Vc

def jnL (V : Int) (F G : List (List Int)) : List (List Int) := F.flatMap fun a => G.map fun b => a ++ b.map (V + ·)
/-- the lists whose complex is the join -/
def jnS (V : Int) (F G : List (List Int)) : List (List Int) := if F = [] ∨ G = [] then F ++ G else jnL V F G
/-- the faces of a join, pair by pair -/
def jnF (V : Int) (F G : List (List Int)) (k : Nat) : List (List Int) := (List.range (k + 1)).flatMap fun i => (fcs F i).flatMap fun y => (fcs G (k - i)).map fun z => y ++ z.map (V + ·)
end Go.Proofs.YtdedegbendjmbaaGreatDoor.Vc
/-
  Joins of complexes, walked in the program. Conditions: as each states them.
-/
namespace Go.Proofs.YtdedegbendjmbaaGreatDoor.Vc
open Go.RowKit

def JnBig (F G : List (List Int)) : Prop := F ≠ [] ∧ G ≠ [] ∧ 400 < F.length * G.length
instance (F G : List (List Int)) : Decidable (JnBig F G) := by unfold JnBig; exact inferInstance
def jnV (V : Int) (F G : List (List Int)) : Int := if JnBig F G then 0 else cxV (jnS V F G)
def jnLs (V : Int) (F G : List (List Int)) : List (List Int) := if JnBig F G then [] else cxL (jnS V F G)
def jnK (V : Int) (F G : List (List Int)) : Int := if JnBig F G then 3 else cxK (jnS V F G)
/-- lists of a join, as they are met -/
def jnG (V : Int) (F G : List (List Int)) (i k : Nat) : List (List Int) := jnL V (F.take i) G ++ (G.take k).map fun b => gl F (i : Int) ++ b.map (V + ·)
end Go.Proofs.YtdedegbendjmbaaGreatDoor.Vc
/-
  Joins of complexes, walked in the reference; and joins on both sides. Conditions: as each states them.
-/
namespace Go.Proofs.YtdedegbendjmbaaGreatDoor.Vc
open Go.RowKit

end Go.Proofs.YtdedegbendjmbaaGreatDoor.Vc
/-
  Numbers of faces, vectors and characteristics of complexes, walked in the program. Conditions: as each states them.
-/
namespace Go.Proofs.YtdedegbendjmbaaGreatDoor.Vc
open Go.RowKit

theorem depth_c (Pc : Option Addr) (V : Int) (A : Option Addr) (n c : Nat) (rs : List SlV) (F : List (List Int)) (w : World) (hP : Rd w Pc 2 (fun j => [Value.int .i64 V, .slice A n c].getD j undef)) (hR : RowsI w A n rs F) (hn : n ≤ 1000) (h6 : ∀ f ∈ F, f.length ≤ 1000000) :
    Ret Tryz.prog 132 [.pointer Pc] w (fun v w' => v = .int .i64 (dpt F : Int) ∧ w' = w) := by
  have hFl := hR.len
  refine Ret.of_cd Tryz.func132 rfl Tryz.ntmps132 rfl (post1 rfl) ?_
  refine Cd.seq ?_
  refine Cd.region ?_
  refine Ops.mv_int rfl rfl rfl ?_
  refine Ops.nil ?_
  refine thenQ_n ?_
  refine Cd.seq ?_
  refine Cd.region ?_
  refine Ops.mv_int rfl rfl rfl ?_
  refine Ops.nil ?_
  refine thenQ_n ?_
  refine Cd.seq ?_
  refine Cd.seq ?_
  refine Cd.region ?_
  refine Ops.mv_ptr rfl rfl rfl ?_
  refine Ops.nilp hP (by omega) rfl rfl ?_
  skip
  refine Ops.fld hP rfl rfl rfl rfl inferInstance ?_
  skip
  refine Ops.ldf_s hP rfl rfl rfl rfl rfl ?_
  refine Ops.len rfl rfl ?_
  refine Ops.mv_int rfl rfl rfl ?_
  refine Ops.nil ?_
  refine thenQ_n ?_
  refine Cd.block ?_
  refine Cd.loop (α := Nat) (fun i => [(3, .int .i64 ((dpt (F.take i) : Nat) : Int)), (9, .slice A n c), (10, .int .i64 (n : Int)), (11, .int .i64 (i : Int))]) (fun i w' => w' = w ∧ i ≤ n) (fun i => n - i) 0 ⟨rfl, rfl, rfl, rfl, trivial⟩ ⟨rfl, Nat.zero_le _⟩ ?_
  rintro i e w ⟨rfl, hi⟩
  refine Cd.seq ?_
  refine Cd.region ?_
  refine Ops.lss rfl rfl rfl ?_
  refine Ops.nil ?_
  refine thenQ_n ?_
  refine Cd.seq ?_
  refine Cd.cond_p _ rfl (fun h3 => ?_) (fun h3 => ?_)
  · have hiF : i < F.length := by omega
    have hrow := hR.at_ (i := (i : Int)) (by omega) (by omega)
    have hrl0 := hrow.1
    refine Cd.skip ?_
    refine thenQ_n ?_
    refine Cd.seq ?_
    refine Cd.block ?_
    refine Cd.seq ?_
    refine Cd.region ?_
    refine Ops.idx hR.top.2 rfl rfl rfl (by omega) (by omega) ?_
    refine Ops.ld_sl hR.top rfl (by omega) rfl rfl ?_
    refine Ops.mv_sl rfl rfl rfl ?_
    refine Ops.nil ?_
    refine thenQ_n ?_
    refine Cd.region ?_
    refine Ops.mv_int rfl rfl rfl ?_
    refine Ops.mv_sl rfl rfl rfl ?_
    refine Ops.call (sizeI_c _ _ _ _) rfl rfl rfl ?_
    rintro _ _ ⟨rfl, rfl⟩
    refine Ops.maxI rfl rfl rfl ?_
    refine Ops.mv_int rfl rfl rfl ?_
    refine Ops.nil ?_
    refine blockQ_n ?_
    refine thenQ_n ?_
    refine Cd.region ?_
    refine Ops.add rfl rfl rfl (by omega) ?_
    refine Ops.mv_int rfl rfl rfl ?_
    refine Ops.nil ?_
    refine thenQ_n ?_
    exact ⟨i + 1, by show n - (i + 1) < n - i; omega, ⟨by show Value.int .i64 _ = .int .i64 _; rw [dpt_succ hiF]; congr 1; omega, rfl, rfl, rfl, trivial⟩, rfl, by omega⟩
  · refine Cd.exit ?_
    refine thenQ_x ?_
    refine thenQ_x ?_
    refine blockQ_x ?_
    refine thenQ_n ?_
    refine Cd.seq ?_
    refine Cd.region ?_
    refine Ops.mv_int rfl rfl rfl ?_
    refine Ops.mv_int rfl rfl rfl ?_
    refine Ops.nil ?_
    refine thenQ_n ?_
    refine Cd.ret ?_
    refine ret1_i rfl ?_
    have hin : i = F.length := by omega
    refine ⟨?_, rfl⟩
    rw [hin, List.take_length]

/-- the numbers of faces with fewer than so many elements -/
def fvG (F : List (List Int)) (k : Nat) : List Int := (List.range k).map fun j => ((fcs F j).length : Int)
end Go.Proofs.YtdedegbendjmbaaGreatDoor.Vc
/-
  Characteristics and h-vectors of complexes, walked in the program. Conditions: as each states them.
-/
namespace Go.Proofs.YtdedegbendjmbaaGreatDoor.Vc
open Go.RowKit

/-- the terms of an alternating sum -/
def altT (f : List Int) (i : Nat) : Int := if i % 2 = 0 then gi f (i : Int) else -gi f (i : Int)
def altS (f : List Int) : Int := sumN f.length (altT f)
/-- binomials as the program counts them -/
def chz (m : Nat) : Nat → Int
  | 0 => 1
  | i + 1 => chz m i * ((m : Int) - i) / ((i : Int) + 1)
/-! h-vectors, term by term -/
def hvE (f : List Int) (d k i p : Nat) : Int := pW (f.take k) d p + (if k ≤ p ∧ p - k < i then gi f (k : Int) * pDn (d - k) (p - k) else 0)
def hvL (f : List Int) (d k i : Nat) : List Int := (List.range (d + 1)).map (hvE f d k i)
theorem pDn_bd : ∀ (m n : Nat), -(2 ^ m : Int) ≤ pDn m n ∧ pDn m n ≤ 2 ^ m
  | 0, n => by unfold pDn p1; split <;> decide
  | m + 1, n => by
    have h1 := pDn_bd m n
    have e : (2 ^ (m + 1) : Int) = 2 ^ m + 2 ^ m := by rw [Int.pow_succ]; omega
    show -(2 ^ (m + 1) : Int) ≤ pDn m n - pX (pDn m) n ∧ pDn m n - pX (pDn m) n ≤ 2 ^ (m + 1)
    rw [e]
    have h0 : (0 : Int) ≤ 2 ^ m := Int.pow_nonneg (by decide)
    cases n with
    | zero => simp only [pX]; omega
    | succ n =>
      have h2 := pDn_bd m n
      simp only [pX]
      omega
theorem mul_bd {a b x y : Int} (ha : 0 ≤ a ∧ a ≤ b) (hx : -y ≤ x ∧ x ≤ y) : -(b * y) ≤ a * x ∧ a * x ≤ b * y := by
  have h1 : a * x ≤ a * y := Int.mul_le_mul_of_nonneg_left hx.2 ha.1
  have h2 : a * -y ≤ a * x := Int.mul_le_mul_of_nonneg_left hx.1 ha.1
  have h3 : a * y ≤ b * y := Int.mul_le_mul_of_nonneg_right ha.2 (by omega)
  rw [Int.mul_neg] at h2
  omega
theorem pow_le6 {m : Nat} (h : m ≤ 6) : (2 ^ m : Int) ≤ 64 := by
  have : ∀ m, m < 7 → (2 ^ m : Int) ≤ 64 := by decide
  exact this m (by omega)
def hvV (V : Int) (F : List (List Int)) : List Int := if Cplx V F then hP (fvP F) else []
def hvK (V : Int) (F : List (List Int)) : Int := if Cplx V F then 0 else 1
end Go.Proofs.YtdedegbendjmbaaGreatDoor.Vc
/-
  Joins of complexes and vectors, walked on both sides. Conditions: as each states them.
-/
namespace Go.Proofs.YtdedegbendjmbaaGreatDoor.Vc
open Go.RowKit

def jcV (V : Int) (F : List (List Int)) (W : Int) (G : List (List Int)) : Int := if Cplx V F ∧ Cplx W G then jnV V F G else 0
def jcL (V : Int) (F : List (List Int)) (W : Int) (G : List (List Int)) : List (List Int) := if Cplx V F ∧ Cplx W G then jnLs V F G else []
def jcK (V : Int) (F : List (List Int)) (W : Int) (G : List (List Int)) : Int := if Cplx V F ∧ Cplx W G then jnK V F G else 1
theorem l17Size_c (V : Int) (A : Option Addr) (n c : Nat) (rs : List SlV) (F : List (List Int)) (w : World) (hR : RowsI w A n rs F) (hn : n ≤ 1000) (h6 : ∀ f ∈ F, f.length ≤ 1000000) :
    Ret Tryz.prog 76 [.agg #[.int .i64 V, .slice A n c]] w (fun v w' => v = .int .i64 (dpt F : Int) ∧ St w w' []) := by
  have hFl := hR.len
  refine Ret.of_cd Tryz.func76 rfl Tryz.ntmps76 rfl (post1 rfl) ?_
  refine Cd.seq ?_
  refine Cd.region ?_
  refine Ops.box2 (St.refl w) rfl rfl ?_
  intro Ab w1 hS1
  have hS1 : St w w1 [cxB Ab V A n c] := hS1
  refine Ops.mv_int rfl rfl rfl ?_
  refine Ops.nil ?_
  refine thenQ_n ?_
  refine Cd.seq ?_
  refine Cd.region ?_
  refine Ops.mv_int rfl rfl rfl ?_
  refine Ops.nil ?_
  refine thenQ_n ?_
  refine Cd.seq ?_
  refine Cd.seq ?_
  refine Cd.region ?_
  refine Ops.mv_int rfl rfl rfl ?_
  refine Ops.nil ?_
  refine thenQ_n ?_
  refine Cd.block ?_
  refine Cd.loop (α := Nat) (fun i => [(1, .pointer Ab), (3, .int .i64 ((dpt (F.take i) : Nat) : Int)), (4, .int .i64 (i : Int))]) (fun i w' => St w w' [cxB Ab V A n c] ∧ i ≤ n) (fun i => n - i) 0 ⟨rfl, rfl, rfl, trivial⟩ ⟨hS1, Nat.zero_le _⟩ ?_
  rintro i e w2 ⟨hS, hi⟩
  refine Cd.seq ?_
  refine Cd.seq ?_
  refine Cd.region ?_
  refine Ops.mv_int rfl rfl rfl ?_
  refine Ops.fld (hS.rd 0 rfl) rfl rfl rfl rfl inferInstance ?_
  refine Ops.ldf_s (hS.rd 0 rfl) rfl rfl rfl rfl rfl ?_
  refine Ops.len rfl rfl ?_
  refine Ops.lss rfl rfl rfl ?_
  refine Ops.nil ?_
  refine thenQ_n ?_
  refine Cd.cond_p _ rfl (fun h3 => ?_) (fun h3 => ?_)
  · have hiF : i < F.length := by omega
    have hM := hS.oldRows hR
    have hrow := hM.at_ (i := (i : Int)) (by omega) (by omega)
    have hrl0 := hrow.1
    refine Cd.skip ?_
    refine thenQ_n ?_
    refine Cd.seq ?_
    refine Cd.block ?_
    refine Cd.region ?_
    refine Ops.mv_int rfl rfl rfl ?_
    refine Ops.fld (hS.rd 0 rfl) rfl rfl rfl rfl inferInstance ?_
    refine Ops.ldf_s (hS.rd 0 rfl) rfl rfl rfl rfl rfl ?_
    refine Ops.mv_int rfl rfl rfl ?_
    refine Ops.idx hM.top.2 rfl rfl rfl (by omega) (by omega) ?_
    refine Ops.ld_sl hM.top rfl (by omega) rfl rfl ?_
    refine Ops.len rfl rfl ?_
    refine Ops.maxI rfl rfl rfl ?_
    refine Ops.mv_int rfl rfl rfl ?_
    refine Ops.nil ?_
    refine blockQ_n ?_
    refine thenQ_n ?_
    refine Cd.region ?_
    refine Ops.mv_int rfl rfl rfl ?_
    refine Ops.add rfl rfl rfl (by omega) ?_
    refine Ops.mv_int rfl rfl rfl ?_
    refine Ops.nil ?_
    refine thenQ_n ?_
    exact ⟨i + 1, by show n - (i + 1) < n - i; omega, ⟨rfl, by show Value.int .i64 _ = .int .i64 _; rw [dpt_succ hiF]; congr 1; omega, rfl, trivial⟩, hS, by omega⟩
  · have hin : i = F.length := by omega
    refine Cd.exit ?_
    refine thenQ_x ?_
    refine thenQ_x ?_
    refine blockQ_x ?_
    refine thenQ_n ?_
    refine Cd.seq ?_
    refine Cd.region ?_
    refine Ops.mv_int rfl rfl rfl ?_
    refine Ops.mv_int rfl rfl rfl ?_
    refine Ops.nil ?_
    refine thenQ_n ?_
    refine Cd.ret ?_
    refine ret1_i rfl ?_
    refine ⟨?_, hS.none⟩
    rw [hin, List.take_length]

/-! the reference's polynomial -/
def plH (f : List Int) (k : Nat) : List Int := (List.range k).map fun i => pW (f.take k) (k - 1) (k - 1 - i)
def nxE (p : List Int) (i j : Nat) : Int := (if 1 ≤ j ∧ j ≤ i then gi p ((j - 1 : Nat) : Int) else 0) - (if j < i then gi p (j : Int) else 0)
def nxL (p : List Int) (i : Nat) : List Int := (List.range (p.length + 1)).map (nxE p i)
end Go.Proofs.YtdedegbendjmbaaGreatDoor.Vc
/-
  A statement whose order Go leaves open, by a property of what is done so far. Conditions: as the rule names them.
-/
namespace Go.Proofs.YtdedegbendjmbaaGreatDoor.Vc
open Go.RowKit

/-- the order of the text is one of the orders -/
def backB (l : List Oper) : Bool := l.zipIdx.all fun p => (aft p.1).all fun ed => Nat.blt ed.on p.2
theorem thenQ_ext {K : Env → World → Prop} {Q : Post} {e : Env} {w : World} {F : List (Nat × Value)} (hM : Mt e F) (h : thenQ K Q .normal (ext e F) w) : thenQ K Q .normal e w := by rwa [ext_of_mt hM] at h
section
variable {P : Program} {N : Nat} {e : Env} {w : World}
end
end Go.Proofs.YtdedegbendjmbaaGreatDoor.Vc
/-
  Boundaries of complexes, walked on both sides. Conditions: as each states them.
-/
namespace Go.Proofs.YtdedegbendjmbaaGreatDoor.Vc
open Go.RowKit

/-! pure complexes -/
theorem isPure1_c (A : Option Addr) (n c : Nat) (P3 : Option Addr) (d : Int) (w : World) (hP : Rd w P3 1 (fun _ => .int .i64 d)) :
    Ret Tryz.prog 133 [.slice A n c, .pointer P3] w (fun v w' => v = .bool (decide (¬ (n : Int) = d)) ∧ St w w' []) := by
  refine Ret.of_cd Tryz.func133 rfl Tryz.ntmps133 rfl (post1 rfl) ?_
  refine Cd.seq ?_
  refine Cd.region ?_
  refine Ops.mv_bool rfl rfl rfl ?_
  refine Ops.nil ?_
  refine thenQ_n ?_
  refine Cd.seq ?_
  refine Cd.draw [.ex (.slice (A) (n) (c)), .ex (.int .i64 (n : Int)), .ex (.int .i64 (d)), .ex (.bool (decide (¬ (n : Int) = (d)))), .ex (.bool (decide (¬ (n : Int) = (d))))] (by kernel_rfl) (by kernel_rfl) rfl (List.forall_mem_cons.2 ⟨Yd.lasts_ex _, (List.forall_mem_cons.2 ⟨Yd.lasts_ex _, (List.forall_mem_cons.2 ⟨Yd.lasts_ex _, (List.forall_mem_cons.2 ⟨Yd.lasts_ex _, (List.forall_mem_cons.2 ⟨Yd.lasts_ex _, (fun _ h => by cases h)⟩)⟩)⟩)⟩)⟩) ⟨?_, ?_, ?_, ?_, ?_, trivial⟩ ?_
  · intro e1 w1 hb hp hun
    refine Ops.mv_sl rfl rfl rfl ?_
    refine Ops.nil ?_
    exact After.dn (Below.refl _ _) (by exact rfl)
  · intro e1 w1 hb hp hun
    refine Ops.call (sizeI_c _ _ _ _) rfl rfl rfl ?_
    rintro _ w2 ⟨rfl, hst⟩
    subst hst
    refine Ops.nil ?_
    exact After.dn (Below.refl _ _) (by exact rfl)
  · intro e1 w1 hb hp hun
    refine Ops.ld (hP.below hb) (j := 0) (by exact congrArg Value.pointer (ptrAt_zero P3).symm) (by omega) rfl rfl rfl ?_
    refine Ops.nil ?_
    exact After.dn (Below.refl _ _) (by exact rfl)
  · intro e1 w1 hb hp hun
    refine Ops.neq rfl rfl rfl ?_
    refine Ops.nil ?_
    exact After.dn (Below.refl _ _) (by exact rfl)
  · intro e1 w1 hb hp hun
    refine Ops.mv_bool rfl rfl rfl ?_
    refine Ops.nil ?_
    exact After.dn (Below.refl _ _) (by exact rfl)
  intro u w2 hb _
  refine thenQ_n ?_
  refine Cd.ret ?_
  refine ret1_b rfl ?_
  exact ⟨rfl, (St.refl w).later hb⟩
theorem isPure_c (Pc : Option Addr) (V : Int) (A : Option Addr) (n c : Nat) (rs : List SlV) (F : List (List Int)) (w : World) (hP : Rd w Pc 2 (fun j => [Value.int .i64 V, .slice A n c].getD j undef)) (hR : RowsI w A n rs F) (hn : n ≤ 1000) (h6 : ∀ f ∈ F, f.length ≤ 1000000) :
    Ret Tryz.prog 83 [.pointer Pc] w (fun v w' => v = .bool (decide (Pure F)) ∧ St w w' []) := by
  have hFl := hR.len
  refine Ret.of_cd Tryz.func83 rfl Tryz.ntmps83 rfl (post1 rfl) ?_
  refine Cd.seq ?_
  refine Cd.region ?_
  refine Ops.mv_bool rfl rfl rfl ?_
  refine Ops.nil ?_
  refine thenQ_n ?_
  refine Cd.seq ?_
  refine Cd.region ?_
  refine Ops.mv_ptr rfl rfl rfl ?_
  refine Ops.call (depth_c Pc V A n c rs F w hP hR hn h6) rfl rfl rfl ?_
  rintro _ w ⟨rfl, rfl⟩
  refine Ops.new (z := .int .i64 0) (St.refl w) rfl rfl ?_
  intro P3 w1 hS1
  have hS1 : St w w1 [CkI 2 P3 1 1 [0]] := hS1
  refine Ops.st_int 0 (i := 0) hS1 rfl (by exact congrArg Value.pointer (ptrAt_zero P3).symm) rfl (by decide) ?_
  intro w2 hS2
  have hS2 : St w w2 [CkI 2 P3 1 1 [(dpt F : Int)]] := hS2
  have h3 : Rd w2 P3 1 (fun _ => Value.int .i64 (dpt F : Int)) := (hS2.rd 0 rfl).congr fun j hj => by obtain rfl : j = 0 := by { have : j < 1 := hj; omega }; rfl
  refine Ops.nil ?_
  refine thenQ_n ?_
  refine Cd.seq ?_
  refine Cd.region ?_
  refine Ops.mv_ptr rfl rfl rfl ?_
  refine Ops.nilp (hS2.old hP) (by omega) rfl rfl ?_
  skip
  refine Ops.fld (hS2.old hP) rfl rfl rfl rfl inferInstance ?_
  skip
  refine Ops.ldf_s (hS2.old hP) rfl rfl rfl rfl rfl ?_
  skip
  refine Ops.fn1 rfl rfl ?_
  skip
  have hM := hS2.oldRows hR
  refine Ops.call (containsRF_c A n c rs 133 [.pointer P3] (fun i => decide (¬ ((rg rs (i : Int)).n : Int) = (dpt F : Int))) w2 hM.top (by omega) (fun w' i hb hi => isPure1_c _ _ _ P3 _ w' (h3.below hb))) rfl rfl rfl ?_
  rintro _ w3 ⟨rfl, hst⟩
  first | refine Ops.not_p rfl rfl ?_ | refine Ops.not rfl rfl ?_
  refine Ops.mv_bool rfl rfl rfl ?_
  refine Ops.nil ?_
  refine thenQ_n ?_
  refine Cd.ret ?_
  refine ret1_b rfl ?_
  refine ⟨congrArg Value.bool (decide_eq_decide.2 ?_), hS2.none.later hst.below⟩
  constructor
  · intro h f hf
    obtain ⟨j, hj, rfl⟩ := List.mem_iff_getElem.1 hf
    have hr := (hR.at_ (i := (j : Int)) (by omega) (by omega)).1
    rw [gl_mem hj] at hr
    have : ¬ ¬ ((rg rs (j : Int)).n : Int) = (dpt F : Int) := fun h2 => h ⟨j, by omega, decide_eq_true h2⟩
    omega
  · rintro h ⟨j, hj, h2⟩
    have h2 := of_decide_eq_true h2
    have hr := (hR.at_ (i := (j : Int)) (by omega) (by omega)).1
    have := h (gl F (j : Int)) (by rw [gl_mem (by omega)]; exact List.getElem_mem _)
    omega

theorem l17Pure_c (V : Int) (A : Option Addr) (n c : Nat) (rs : List SlV) (F : List (List Int)) (w : World) (hR : RowsI w A n rs F) (hn : n ≤ 1000) :
    Ret Tryz.prog 81 [.agg #[.int .i64 V, .slice A n c]] w (fun v w' => v = .bool (decide (Pure F)) ∧ St w w' []) := by
  have hFl := hR.len
  refine Ret.of_cd Tryz.func81 rfl Tryz.ntmps81 rfl (post1 rfl) ?_
  refine Cd.seq ?_
  refine Cd.region ?_
  refine Ops.box2 (St.refl w) rfl rfl ?_
  intro Ab w1 hS1
  have hS1 : St w w1 [cxB Ab V A n c] := hS1
  refine Ops.mv_bool rfl rfl rfl ?_
  refine Ops.nil ?_
  refine thenQ_n ?_
  refine Cd.seq ?_
  refine Cd.seq ?_
  refine Cd.region ?_
  refine Ops.mv_int rfl rfl rfl ?_
  refine Ops.nil ?_
  refine thenQ_n ?_
  refine Cd.block ?_
  refine Cd.loop (α := Nat) (fun i => [(1, .pointer Ab), (3, .int .i64 (i : Int))]) (fun i w' => St w w' [cxB Ab V A n c] ∧ i ≤ n ∧ ∀ f ∈ F.take i, f.length = (gl F 0).length) (fun i => n - i) 0 ⟨rfl, rfl, trivial⟩ ⟨hS1, Nat.zero_le _, by simp⟩ ?_
  rintro i e w2 ⟨hS, hi, hall⟩
  have hB := hS.rd 0 rfl
  refine Cd.seq ?_
  refine Cd.seq ?_
  refine Cd.region ?_
  refine Ops.mv_int rfl rfl rfl ?_
  refine Ops.fld hB rfl rfl rfl rfl inferInstance ?_
  refine Ops.ldf_s hB rfl rfl rfl rfl rfl ?_
  refine Ops.len rfl rfl ?_
  refine Ops.lss rfl rfl rfl ?_
  refine Ops.nil ?_
  refine thenQ_n ?_
  refine Cd.cond_p _ rfl (fun h3 => ?_) (fun h3 => ?_)
  · have hiF : i < F.length := by omega
    have hM := hS.oldRows hR
    have hrow := hM.at_ (i := (i : Int)) (by omega) (by omega)
    have hrow0 := hM.at_ (i := 0) (by omega) (by omega)
    have hl1 := hrow.1
    have hl2 := hrow0.1
    refine Cd.skip ?_
    refine thenQ_n ?_
    refine Cd.seq ?_
    refine Cd.block ?_
    refine Cd.seq ?_
    refine Cd.draw [.ex (.pointer (ptrAt (Ab) 1)), .ex (.slice (A) (n) (c)), .ex (.int .i64 ((i : Int))), .ex (.pointer (ptrAt (A) ((i : Int)).toNat)), .ex (.slice ((rg (rs) ((i : Int))).a) ((rg (rs) ((i : Int))).n) ((rg (rs) ((i : Int))).c)), .ex (.int .i64 ((((rg (rs) ((i : Int))).n : Nat) : Int))), .ex (.pointer (ptrAt (Ab) 1)), .ex (.slice (A) (n) (c)), .ex (.pointer (ptrAt (A) ((0 : Int)).toNat)), .ex (.slice ((rg (rs) ((0 : Int))).a) ((rg (rs) ((0 : Int))).n) ((rg (rs) ((0 : Int))).c)), .ex (.int .i64 ((((rg (rs) ((0 : Int))).n : Nat) : Int))), .ex (.bool (decide (¬ ((((rg (rs) ((i : Int))).n : Nat) : Int)) = ((((rg (rs) ((0 : Int))).n : Nat) : Int)))))] (by kernel_rfl) (by kernel_rfl) rfl (List.forall_mem_cons.2 ⟨Yd.lasts_ex _, (List.forall_mem_cons.2 ⟨Yd.lasts_ex _, (List.forall_mem_cons.2 ⟨Yd.lasts_ex _, (List.forall_mem_cons.2 ⟨Yd.lasts_ex _, (List.forall_mem_cons.2 ⟨Yd.lasts_ex _, (List.forall_mem_cons.2 ⟨Yd.lasts_ex _, (List.forall_mem_cons.2 ⟨Yd.lasts_ex _, (List.forall_mem_cons.2 ⟨Yd.lasts_ex _, (List.forall_mem_cons.2 ⟨Yd.lasts_ex _, (List.forall_mem_cons.2 ⟨Yd.lasts_ex _, (List.forall_mem_cons.2 ⟨Yd.lasts_ex _, (List.forall_mem_cons.2 ⟨Yd.lasts_ex _, (fun _ h => by cases h)⟩)⟩)⟩)⟩)⟩)⟩)⟩)⟩)⟩)⟩)⟩)⟩) ⟨?_, ?_, ?_, ?_, ?_, ?_, ?_, ?_, ?_, ?_, ?_, ?_, trivial⟩ ?_
    · intro e1 w1 hb hp hun
      refine Ops.fld (hB.below hb) rfl rfl rfl rfl inferInstance ?_
      refine Ops.nil ?_
      exact After.dn (Below.refl _ _) (by exact rfl)
    · intro e1 w1 hb hp hun
      refine Ops.ldf_s (hB.below hb) rfl rfl rfl rfl rfl ?_
      refine Ops.nil ?_
      exact After.dn (Below.refl _ _) (by exact rfl)
    · intro e1 w1 hb hp hun
      refine Ops.mv_int rfl rfl rfl ?_
      refine Ops.nil ?_
      exact After.dn (Below.refl _ _) (by exact rfl)
    · intro e1 w1 hb hp hun
      refine Ops.idx (hM.top.later hb).2 rfl rfl rfl (by omega) (by omega) ?_
      refine Ops.nil ?_
      exact After.dn (Below.refl _ _) (by exact rfl)
    · intro e1 w1 hb hp hun
      refine Ops.ld_sl (hM.top.later hb) rfl (by omega) rfl rfl ?_
      refine Ops.nil ?_
      exact After.dn (Below.refl _ _) (by exact rfl)
    · intro e1 w1 hb hp hun
      refine Ops.len rfl rfl ?_
      refine Ops.nil ?_
      exact After.dn (Below.refl _ _) (by exact rfl)
    · intro e1 w1 hb hp hun
      refine Ops.fld (hB.below hb) rfl rfl rfl rfl inferInstance ?_
      refine Ops.nil ?_
      exact After.dn (Below.refl _ _) (by exact rfl)
    · intro e1 w1 hb hp hun
      refine Ops.ldf_s (hB.below hb) rfl rfl rfl rfl rfl ?_
      refine Ops.nil ?_
      exact After.dn (Below.refl _ _) (by exact rfl)
    · intro e1 w1 hb hp hun
      refine Ops.idx (hM.top.later hb).2 rfl rfl rfl (by omega) (by omega) ?_
      refine Ops.nil ?_
      exact After.dn (Below.refl _ _) (by exact rfl)
    · intro e1 w1 hb hp hun
      refine Ops.ld_sl (hM.top.later hb) rfl (by omega) rfl rfl ?_
      refine Ops.nil ?_
      exact After.dn (Below.refl _ _) (by exact rfl)
    · intro e1 w1 hb hp hun
      refine Ops.len rfl rfl ?_
      refine Ops.nil ?_
      exact After.dn (Below.refl _ _) (by exact rfl)
    · intro e1 w1 hb hp hun
      refine Ops.neq rfl rfl rfl ?_
      refine Ops.nil ?_
      exact After.dn (Below.refl _ _) (by exact rfl)
    intro u w3 hb _
    have hS3 := hS.later hb
    refine thenQ_n ?_
    refine Cd.cond_p _ rfl (fun h4 => ?_) (fun h4 => ?_)
    · refine Cd.seq ?_
      refine Cd.region ?_
      refine Ops.mv_bool rfl rfl rfl ?_
      refine Ops.nil ?_
      refine thenQ_n ?_
      refine Cd.ret ?_
      refine blockQ_r ?_
      refine thenQ_r ?_
      refine thenQ_r ?_
      refine blockQ_r ?_
      refine thenQ_r ?_
      refine ret1_b rfl ?_
      refine ⟨by rw [decide_eq_false (fun h => h4 (by have := Pure.first.1 h (gl F (i : Int)) (by rw [gl_mem hiF]; exact List.getElem_mem _); omega))], hS3.none⟩
    · refine Cd.skip ?_
      refine blockQ_n ?_
      refine thenQ_n ?_
      refine Cd.region ?_
      refine Ops.mv_int rfl rfl rfl ?_
      refine Ops.add rfl rfl rfl (by omega) ?_
      refine Ops.mv_int rfl rfl rfl ?_
      refine Ops.nil ?_
      refine thenQ_n ?_
      refine ⟨i + 1, by show n - (i + 1) < n - i; omega, ⟨rfl, rfl, trivial⟩, hS3, by omega, ?_⟩
      rw [take_succ_gl hiF]
      intro f hf
      rcases List.mem_append.1 hf with hf | hf
      · exact hall f hf
      · obtain rfl : f = gl F (i : Int) := by simpa using hf
        omega
  · rw [List.take_of_length_le (by omega)] at hall
    refine Cd.exit ?_
    refine thenQ_x ?_
    refine thenQ_x ?_
    refine blockQ_x ?_
    refine thenQ_n ?_
    refine Cd.seq ?_
    refine Cd.region ?_
    refine Ops.mv_bool rfl rfl rfl ?_
    refine Ops.nil ?_
    refine thenQ_n ?_
    refine Cd.ret ?_
    refine ret1_b rfl ?_
    exact ⟨by rw [decide_eq_true (Pure.first.2 hall)], hS.none⟩

/-! the reference's ridges -/
def cntI (F : List (List Int)) (x : List Int) (i : Nat) : Nat := ((List.range i).filter fun k : Nat => decide (Ins x (gl F (k : Int)))).length
theorem cntI_succ (F : List (List Int)) (x : List Int) (i : Nat) : cntI F x (i + 1) = if Ins x (gl F (i : Int)) then cntI F x i + 1 else cntI F x i := by
  unfold cntI
  rw [List.range_succ, List.filter_append, List.length_append]
  by_cases h : Ins x (gl F (i : Int)) <;> simp [h]
theorem cntI_le (F : List (List Int)) (x : List Int) (i : Nat) : cntI F x i ≤ i := by
  have := List.length_filter_le (fun k : Nat => decide (Ins x (gl F (k : Int)))) (List.range i)
  rwa [List.length_range] at this
theorem cntI_all (F : List (List Int)) (x : List Int) : cntI F x F.length = (hasI F x).length := by unfold cntI hasI; rw [List.length_map]
/-- counts of the first ridges, the next one's begun -/
def cnE (F D : List (List Int)) (r i q : Nat) : Int := if q < r then ((cntI F (gl D (q : Int)) F.length : Nat) : Int) else if q = r then ((cntI F (gl D (q : Int)) i : Nat) : Int) else 0
def cnL (F D : List (List Int)) (r i : Nat) : List Int := (List.range D.length).map (cnE F D r i)
theorem cnL_len (F D : List (List Int)) (r i : Nat) : (cnL F D r i).length = D.length := by simp [cnL]
theorem cnL_at {F D : List (List Int)} {r i q : Nat} (h : q < D.length) : gi (cnL F D r i) (q : Int) = cnE F D r i q := by
  rw [gi_mem (by rw [cnL_len]; exact h)]; simp [cnL]
theorem cnL_zero (F D : List (List Int)) : List.replicate D.length 0 = cnL F D 0 0 := by
  unfold cnL
  rw [List.map_congr_left (g := fun _ => (0 : Int)) fun q _ => by unfold cnE; rw [if_neg (by omega)]; split <;> rfl, List.map_const', List.length_range]
theorem cnL_next (F D : List (List Int)) (r : Nat) : cnL F D r F.length = cnL F D (r + 1) 0 := by
  refine List.map_congr_left fun q _ => ?_
  unfold cnE
  by_cases h1 : q < r
  · rw [if_pos h1, if_pos (by omega)]
  · rw [if_neg h1]
    by_cases h2 : q = r
    · rw [if_pos h2, if_pos (by omega)]
    · rw [if_neg h2, if_neg (by omega)]
      split <;> rfl
theorem cnL_same {F D : List (List Int)} {r i : Nat} (h : ¬ Ins (gl D (r : Int)) (gl F (i : Int))) : cnL F D r i = cnL F D r (i + 1) := by
  refine List.map_congr_left fun q _ => ?_
  unfold cnE
  by_cases h2 : q = r
  · subst h2; rw [cntI_succ, if_neg h]
  · rw [if_neg h2, if_neg h2]
theorem cnL_set {F D : List (List Int)} {r i : Nat} (h : Ins (gl D (r : Int)) (gl F (i : Int))) : (cnL F D r i).set r (cnE F D r i r + 1) = cnL F D r (i + 1) := by
  apply List.ext_getElem
  · rw [List.length_set, cnL_len, cnL_len]
  · intro q h1 h2
    rw [List.getElem_set]
    simp only [cnL, List.getElem_map, List.getElem_range]
    by_cases hq : r = q
    · subst hq
      rw [if_pos rfl]
      unfold cnE
      rw [if_neg (Nat.lt_irrefl _), if_pos rfl, if_neg (Nat.lt_irrefl _), if_pos rfl, cntI_succ, if_pos h]; rfl
    · rw [if_neg hq]
      unfold cnE
      have hq2 : ¬ q = r := fun e => hq e.symm
      rw [if_neg hq2, if_neg hq2]
theorem cnE_bd (F D : List (List Int)) {r i q : Nat} (hi : i ≤ F.length) : 0 ≤ cnE F D r i q ∧ cnE F D r i q ≤ F.length := by
  unfold cnE
  have h1 := cntI_le F (gl D (q : Int)) F.length
  have h2 := cntI_le F (gl D (q : Int)) i
  split
  · omega
  · split <;> omega

theorem ret2_sq {R : Value → World → Prop} {t u : Nat} {A A' : Option Addr} {n c n' c' : Nat} {e : Env} {w : World} (h : e t = .slice A n c) (h2 : e u = .slice A' n' c') (hR : R (.tuple #[.slice A n c, .slice A' n' c']) w) : ret2 t u R .ret e w := by show R (.tuple #[e t, e u]) w; rw [h, h2]; exact hR
/-- ridges and their counts, in memory of their own -/
def AnsRC (D : List (List Int)) (L : List Int) (w : World) (v : Value) (w' : World) : Prop := ∃ A c rs B d, v = .tuple #[.slice A D.length c, .slice B D.length d] ∧ rs.length = D.length ∧ St w w' (CkI 2 B D.length d L :: (mat 25 2 A D.length c rs D ++ []))
set_option maxHeartbeats 1000000 in
theorem l17Ridges_c (V : Int) (A : Option Addr) (n c : Nat) (rs : List SlV) (F : List (List Int)) (w : World) (hR : RowsI w A n rs F) (hn : n ≤ 1000) (h6 : ∀ f ∈ F, f.length ≤ 6) (hd : 1 ≤ dpt F) :
    Ret Tryz.prog 82 [.agg #[.int .i64 V, .slice A n c]] w (AnsRC (fcs F (dpt F - 1)) (cnL F (fcs F (dpt F - 1)) (fcs F (dpt F - 1)).length 0) w) := by
  have hFl := hR.len
  have hd6 := dpt_bd h6
  have hl6 : ∀ f ∈ F, f.length ≤ 1000000 := fun f hf => by have := h6 f hf; omega
  have hnum := fcs_num (dpt F - 1) h6
  have hfl : ∀ x ∈ fcs F (dpt F - 1), x.length ≤ 6 := fun x hx => by rw [fcs_len hx]; omega
  refine Ret.of_cd Tryz.func82 rfl Tryz.ntmps82 rfl (post2 rfl) ?_
  refine Cd.seq ?_
  refine Cd.region ?_
  refine Ops.box2 (St.refl w) rfl rfl ?_
  intro Ab wB hB
  have hB : St w wB [cxB Ab V A n c] := hB
  refine Ops.mv_sl rfl rfl rfl ?_
  refine Ops.mv_sl rfl rfl rfl ?_
  refine Ops.nil ?_
  refine thenQ_n ?_
  refine Cd.seq ?_
  refine Cd.drawN [] [.ex (.agg #[.int .i64 (V), .slice (A) (n) (c)]), .ex (.agg #[.int .i64 (V), .slice (A) (n) (c)]), .ex (.int .i64 (dpt F : Int)), .ex (.int .i64 ((dpt F : Int) - ((1 : Int)))), .pr (fun v w' => ∃ A2 c2 rs2, v = .slice A2 (fcs F (dpt F - 1)).length c2 ∧ rs2.length = (fcs F (dpt F - 1)).length ∧ St w w' (cxB Ab V A n c :: (mat 25 2 A2 (fcs F (dpt F - 1)).length c2 rs2 (fcs F (dpt F - 1)) ++ []))), .pr (fun v w' => ∃ A2 c2 rs2, v = .slice A2 (fcs F (dpt F - 1)).length c2 ∧ rs2.length = (fcs F (dpt F - 1)).length ∧ St w w' (cxB Ab V A n c :: (mat 25 2 A2 (fcs F (dpt F - 1)).length c2 rs2 (fcs F (dpt F - 1)) ++ [])))] (by kernel_rfl) (by kernel_rfl) (List.forall_mem_cons.2 ⟨Yd.lasts_ex _, (List.forall_mem_cons.2 ⟨Yd.lasts_ex _, (List.forall_mem_cons.2 ⟨Yd.lasts_ex _, (List.forall_mem_cons.2 ⟨Yd.lasts_ex _, (List.forall_mem_cons.2 ⟨Yd.lasts_pr (fun v w w' h hb => by obtain ⟨A2, c2, rs2, hv, hl, hT⟩ := h; exact ⟨A2, c2, rs2, hv, hl, hT.later hb⟩), (List.forall_mem_cons.2 ⟨Yd.lasts_pr (fun v w w' h hb => by obtain ⟨A2, c2, rs2, hv, hl, hT⟩ := h; exact ⟨A2, c2, rs2, hv, hl, hT.later hb⟩), (fun _ h => by cases h)⟩)⟩)⟩)⟩)⟩)⟩) ⟨?_, ?_, ?_, ?_, ?_, ?_, trivial⟩ ?_
  · intro e1 w1 cc hlo hhi hb0 hp hun hq
    show Ops _ _ _ _ _ _ _
    replace hlo := le_of_lo hlo (b := 0) (by kernel_rfl)
    replace hhi := le_of_hi hhi (b := 0) (by kernel_rfl)
    obtain rfl : cc = 0 := by omega
    have hb := hb0 rfl
    refine Ops.ld_agg 1 ((hB.rd 0 rfl).below hb) rfl rfl rfl ?_
    refine Ops.nil ?_
    exact AfterN.dn rfl (Below.refl _ _) (by exact rfl)
  · intro e1 w1 cc hlo hhi hb0 hp hun hq
    show Ops _ _ _ _ _ _ _
    replace hlo := le_of_lo hlo (b := 0) (by kernel_rfl)
    replace hhi := le_of_hi hhi (b := 0) (by kernel_rfl)
    obtain rfl : cc = 0 := by omega
    have hb := hb0 rfl
    refine Ops.ld_agg 1 ((hB.rd 0 rfl).below hb) rfl rfl rfl ?_
    refine Ops.nil ?_
    exact AfterN.dn rfl (Below.refl _ _) (by exact rfl)
  · intro e1 w1 cc hlo hhi hb0 hp hun hq
    show Ops _ _ _ _ _ _ _
    replace hlo := le_of_lo hlo (b := 0) (by kernel_rfl)
    replace hhi := le_of_hi hhi (b := 0) (by kernel_rfl)
    obtain rfl : cc = 0 := by omega
    have hb := hb0 rfl
    refine Ops.call (l17Size_c V A n c rs F _ ((hB.later hb).oldRows hR) hn hl6) rfl rfl rfl ?_
    rintro _ w2 ⟨rfl, hst⟩
    refine Ops.nil ?_
    exact AfterN.dn rfl hst.below (by exact rfl)
  · intro e1 w1 cc hlo hhi hb0 hp hun hq
    show Ops _ _ _ _ _ _ _
    refine Ops.sub rfl rfl rfl (by omega) ?_
    refine Ops.nil ?_
    exact AfterN.dn rfl (Below.refl _ _) (by exact rfl)
  · intro e1 w1 cc hlo hhi hb0 hp hun hq
    show Ops _ _ _ _ _ _ _
    replace hlo := le_of_lo hlo (b := 0) (by kernel_rfl)
    replace hhi := le_of_hi hhi (b := 0) (by kernel_rfl)
    obtain rfl : cc = 0 := by omega
    have hb := hb0 rfl
    refine Ops.call (l17Faces_c V A n c rs F (dpt F - 1) _ ((hB.later hb).oldRows hR) hn h6 (by omega)) rfl (by show [_, Value.int .i64 ((dpt F : Int) - 1)] = _; congr 3; omega) rfl ?_
    rintro _ w2 ⟨A2, c2, rs2, rfl, hrl2, hst⟩
    refine Ops.nil ?_
    exact AfterN.dn rfl hst.below ⟨A2, c2, rs2, rfl, hrl2, (hB.later hb).call2 hst⟩
  · intro e1 w1 cc hlo hhi hb0 hp hun hq
    show Ops _ _ _ _ _ _ _
    replace hlo := le_of_lo hlo (b := 0) (by kernel_rfl)
    replace hhi := le_of_hi hhi (b := 0) (by kernel_rfl)
    obtain rfl : cc = 0 := by omega
    have hb := hb0 rfl
    obtain ⟨A2, c2, rs2, h12, hl, hT⟩ := (hp 4 _ _ (by kernel_rfl) rfl rfl (by kernel_rfl))
    refine Ops.mv_sl rfl (by exact h12) rfl ?_
    refine Ops.nil ?_
    exact AfterN.dn rfl (Below.refl _ _) ⟨A2, c2, rs2, rfl, hl, hT⟩
  intro u w2 _ hu
  obtain ⟨A2, c2, rs2, h4, hrl2, hS2⟩ := hu 5 _ rfl (by kernel_rfl)
  generalize hD : fcs F (dpt F - 1) = D at *
  have hS2 : St w w2 (cxB Ab V A n c :: mat 25 2 A2 D.length c2 rs2 D) := by rw [List.append_nil] at hS2; exact hS2
  refine thenQ_ext (F := [(1, .pointer Ab), (4, .slice A2 D.length c2)]) ⟨rfl, h4, trivial⟩ ?_
  refine thenQ_n ?_
  refine Cd.seq ?_
  refine Cd.region ?_
  refine Ops.mv_sl rfl rfl rfl ?_
  refine Ops.len rfl rfl ?_
  refine Ops.mkI D.length hS2 rfl rfl (by omega) ?_
  intro A5 w3 hS3
  have hS3 : St w w3 (CkI 2 A5 D.length D.length (cnL F D 0 0) :: cxB Ab V A n c :: mat 25 2 A2 D.length c2 rs2 D) := by rw [← cnL_zero]; exact hS3
  refine Ops.mv_sl rfl rfl rfl ?_
  refine Ops.nil ?_
  refine thenQ_n ?_
  refine Cd.seq ?_
  refine Cd.seq ?_
  refine Cd.region ?_
  refine Ops.mv_int rfl rfl rfl ?_
  refine Ops.nil ?_
  refine thenQ_n ?_
  refine Cd.block ?_
  refine Cd.loop (α := Nat) (fun r => [(1, .pointer Ab), (4, .slice A2 D.length c2), (5, .slice A5 D.length D.length), (6, .int .i64 (r : Int))]) (fun r w' => r ≤ D.length ∧ St w w' (CkI 2 A5 D.length D.length (cnL F D r 0) :: cxB Ab V A n c :: mat 25 2 A2 D.length c2 rs2 D)) (fun r => D.length - r) 0 ⟨rfl, rfl, rfl, rfl, trivial⟩ ⟨Nat.zero_le _, hS3⟩ ?_
  clear hS3 hS2 hB
  rintro r e w4 ⟨hr, hS4⟩
  refine Cd.seq ?_
  refine Cd.seq ?_
  refine Cd.region ?_
  refine Ops.mv_int rfl rfl rfl ?_
  refine Ops.mv_sl rfl rfl rfl ?_
  refine Ops.len rfl rfl ?_
  refine Ops.lss rfl rfl rfl ?_
  refine Ops.nil ?_
  refine thenQ_n ?_
  refine Cd.cond_p _ rfl (fun h1 => ?_) (fun h1 => ?_)
  · have hrD : r < D.length := by omega
    refine Cd.skip ?_
    refine thenQ_n ?_
    refine Cd.seq ?_
    refine Cd.block ?_
    refine Cd.seq ?_
    refine Cd.region ?_
    refine Ops.mv_int rfl rfl rfl ?_
    refine Ops.nil ?_
    refine thenQ_n ?_
    refine Cd.block ?_
    refine Cd.loop (α := Nat) (fun i => [(1, .pointer Ab), (4, .slice A2 D.length c2), (5, .slice A5 D.length D.length), (6, .int .i64 (r : Int)), (7, .int .i64 (i : Int))]) (fun i w' => i ≤ n ∧ St w w' (CkI 2 A5 D.length D.length (cnL F D r i) :: cxB Ab V A n c :: mat 25 2 A2 D.length c2 rs2 D)) (fun i => n - i) 0 ⟨rfl, rfl, rfl, rfl, rfl, trivial⟩ ⟨Nat.zero_le _, hS4⟩ ?_
    clear hS4
    rintro i e w5 ⟨hi, hS5⟩
    have hB5 := hS5.rd 1 rfl
    refine Cd.seq ?_
    refine Cd.seq ?_
    refine Cd.region ?_
    refine Ops.mv_int rfl rfl rfl ?_
    refine Ops.fld hB5 rfl rfl rfl rfl inferInstance ?_
    refine Ops.ldf_s hB5 rfl rfl rfl rfl rfl ?_
    refine Ops.len rfl rfl ?_
    refine Ops.lss rfl rfl rfl ?_
    refine Ops.nil ?_
    refine thenQ_n ?_
    refine Cd.cond_p _ rfl (fun h2 => ?_) (fun h2 => ?_)
    · have hiF : i < F.length := by omega
      have hM := hS5.oldRows hR
      have hQ : RowsI w5 A2 D.length rs2 D := St.rowsI (ks := []) (by rw [List.append_nil]; exact hS5.tail.tail) rfl
      have hra := hQ.at_ (i := (r : Int)) (by omega) (by omega)
      have hrb := hM.at_ (i := (i : Int)) (by omega) (by omega)
      have hla := hra.1
      have hlb := hrb.1
      have hx6 := hfl (gl D (r : Int)) (by rw [gl_mem hrD]; exact List.getElem_mem _)
      have hf6 := h6 (gl F (i : Int)) (by rw [gl_mem hiF]; exact List.getElem_mem _)
      refine Cd.skip ?_
      refine thenQ_n ?_
      refine Cd.seq ?_
      refine Cd.block ?_
      refine Cd.seq ?_
      refine Cd.draw [.ex (.slice (A2) (D.length) (c2)), .ex (.int .i64 ((r : Int))), .ex (.pointer (ptrAt (A2) ((r : Int)).toNat)), .ex (.slice ((rg (rs2) ((r : Int))).a) ((rg (rs2) ((r : Int))).n) ((rg (rs2) ((r : Int))).c)), .ex (.pointer (ptrAt (Ab) 1)), .ex (.slice (A) (n) (c)), .ex (.int .i64 ((i : Int))), .ex (.pointer (ptrAt (A) ((i : Int)).toNat)), .ex (.slice ((rg (rs) ((i : Int))).a) ((rg (rs) ((i : Int))).n) ((rg (rs) ((i : Int))).c)), .ex (.bool (decide (Ins (gl D (r : Int)) (gl F (i : Int)))))] (by kernel_rfl) (by kernel_rfl) rfl (List.forall_mem_cons.2 ⟨Yd.lasts_ex _, (List.forall_mem_cons.2 ⟨Yd.lasts_ex _, (List.forall_mem_cons.2 ⟨Yd.lasts_ex _, (List.forall_mem_cons.2 ⟨Yd.lasts_ex _, (List.forall_mem_cons.2 ⟨Yd.lasts_ex _, (List.forall_mem_cons.2 ⟨Yd.lasts_ex _, (List.forall_mem_cons.2 ⟨Yd.lasts_ex _, (List.forall_mem_cons.2 ⟨Yd.lasts_ex _, (List.forall_mem_cons.2 ⟨Yd.lasts_ex _, (List.forall_mem_cons.2 ⟨Yd.lasts_ex _, (fun _ h => by cases h)⟩)⟩)⟩)⟩)⟩)⟩)⟩)⟩)⟩)⟩) ⟨?_, ?_, ?_, ?_, ?_, ?_, ?_, ?_, ?_, ?_, trivial⟩ ?_
      · intro e1 w1 hb hp hun
        refine Ops.mv_sl rfl rfl rfl ?_
        refine Ops.nil ?_
        exact After.dn (Below.refl _ _) (by exact rfl)
      · intro e1 w1 hb hp hun
        refine Ops.mv_int rfl rfl rfl ?_
        refine Ops.nil ?_
        exact After.dn (Below.refl _ _) (by exact rfl)
      · intro e1 w1 hb hp hun
        refine Ops.idx (hQ.top.later hb).2 rfl rfl rfl (by omega) (by omega) ?_
        refine Ops.nil ?_
        exact After.dn (Below.refl _ _) (by exact rfl)
      · intro e1 w1 hb hp hun
        refine Ops.ld_sl (hQ.top.later hb) rfl (by omega) rfl rfl ?_
        refine Ops.nil ?_
        exact After.dn (Below.refl _ _) (by exact rfl)
      · intro e1 w1 hb hp hun
        refine Ops.fld (hB5.below hb) rfl rfl rfl rfl inferInstance ?_
        refine Ops.nil ?_
        exact After.dn (Below.refl _ _) (by exact rfl)
      · intro e1 w1 hb hp hun
        refine Ops.ldf_s (hB5.below hb) rfl rfl rfl rfl rfl ?_
        refine Ops.nil ?_
        exact After.dn (Below.refl _ _) (by exact rfl)
      · intro e1 w1 hb hp hun
        refine Ops.mv_int rfl rfl rfl ?_
        refine Ops.nil ?_
        exact After.dn (Below.refl _ _) (by exact rfl)
      · intro e1 w1 hb hp hun
        refine Ops.idx (hM.top.later hb).2 rfl rfl rfl (by omega) (by omega) ?_
        refine Ops.nil ?_
        exact After.dn (Below.refl _ _) (by exact rfl)
      · intro e1 w1 hb hp hun
        refine Ops.ld_sl (hM.top.later hb) rfl (by omega) rfl rfl ?_
        refine Ops.nil ?_
        exact After.dn (Below.refl _ _) (by exact rfl)
      · intro e1 w1 hb hp hun
        refine Ops.call (l17Within_c _ _ _ _ _ _ _ _ _ (hra.later hb) (hrb.later hb) (by omega) (by omega)) rfl rfl rfl ?_
        rintro _ w2 ⟨rfl, hst⟩
        subst hst
        refine Ops.nil ?_
        exact After.dn (Below.refl _ _) (by exact rfl)
      intro u w6 hb _
      have hS6 := hS5.later hb
      have hO : RdI w6 A5 D.length (cnL F D r i) := hS6.rdI 0 rfl
      have hat := cnL_at (F := F) (D := D) (r := r) (i := i) hrD
      have hbd := cnE_bd F D (r := r) (i := i) (q := r) (by omega)
      have hcl := cnL_len F D r i
      refine thenQ_n ?_
      refine Cd.cond_p _ rfl (fun h3 => ?_) (fun h3 => ?_)
      · have hset := cnL_set h3
        refine Cd.region ?_
        refine Ops.mv_sl rfl rfl rfl ?_
        refine Ops.mv_int rfl rfl rfl ?_
        refine Ops.idx hO.2 rfl rfl rfl (by omega) (by omega) ?_
        refine Ops.ld_int hO rfl (by omega) rfl rfl ?_
        rw [hat]
        refine Ops.add rfl rfl rfl (by omega) ?_
        refine Ops.idx hO.2 rfl rfl rfl (by omega) (by omega) ?_
        refine Ops.st_int 0 hS6 rfl rfl rfl (by omega) ?_
        intro w7 hS7
        refine Ops.nil ?_
        refine blockQ_n ?_
        refine thenQ_n ?_
        refine Cd.region ?_
        refine Ops.mv_int rfl rfl rfl ?_
        refine Ops.add rfl rfl rfl (by omega) ?_
        refine Ops.mv_int rfl rfl rfl ?_
        refine Ops.nil ?_
        refine thenQ_n ?_
        exact ⟨i + 1, by show n - (i + 1) < n - i; omega, ⟨rfl, rfl, rfl, rfl, rfl, trivial⟩, by omega, by rw [← hset]; exact hS7⟩
      · rw [cnL_same h3] at hS6
        refine Cd.skip ?_
        refine blockQ_n ?_
        refine thenQ_n ?_
        refine Cd.region ?_
        refine Ops.mv_int rfl rfl rfl ?_
        refine Ops.add rfl rfl rfl (by omega) ?_
        refine Ops.mv_int rfl rfl rfl ?_
        refine Ops.nil ?_
        refine thenQ_n ?_
        exact ⟨i + 1, by show n - (i + 1) < n - i; omega, ⟨rfl, rfl, rfl, rfl, rfl, trivial⟩, by omega, hS6⟩
    · have hie : i = F.length := by omega
      rw [hie, cnL_next] at hS5
      refine Cd.exit ?_
      refine thenQ_x ?_
      refine thenQ_x ?_
      refine blockQ_x ?_
      refine blockQ_n ?_
      refine thenQ_n ?_
      refine Cd.region ?_
      refine Ops.mv_int rfl rfl rfl ?_
      refine Ops.add rfl rfl rfl (by omega) ?_
      refine Ops.mv_int rfl rfl rfl ?_
      refine Ops.nil ?_
      refine thenQ_n ?_
      exact ⟨r + 1, by show D.length - (r + 1) < D.length - r; omega, ⟨rfl, rfl, rfl, rfl, trivial⟩, by omega, hS5⟩
  · have hre : r = D.length := by omega
    subst hre
    refine Cd.exit ?_
    refine thenQ_x ?_
    refine thenQ_x ?_
    refine blockQ_x ?_
    refine thenQ_n ?_
    refine Cd.seq ?_
    refine Cd.region ?_
    refine Ops.mv_sl rfl rfl rfl ?_
    refine Ops.mv_sl rfl rfl rfl ?_
    refine Ops.mv_sl rfl rfl rfl ?_
    refine Ops.mv_sl rfl rfl rfl ?_
    refine Ops.nil ?_
    refine thenQ_n ?_
    refine Cd.ret ?_
    refine ret2_sq rfl rfl ?_
    exact ⟨A2, c2, rs2, A5, D.length, rfl, hrl2, hS4.sub (List.Sublist.cons_cons _ (by rw [List.append_nil]; exact List.sublist_cons_self _ _))⟩
end Go.Proofs.YtdedegbendjmbaaGreatDoor.Vc
