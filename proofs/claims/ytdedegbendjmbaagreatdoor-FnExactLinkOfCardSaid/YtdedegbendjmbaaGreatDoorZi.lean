/-
  The texts Co16, E9, Gi2, Co17, Cx1 in one. Conditions: as each part states them.
-/
import Derived.Test.YtdedegbendjmbaaGreatDoorZh
import Derived.Test.YtdedegbendjmbaaGreatDoorZf
import Derived.Test.YtdedegbendjmbaaGreatDoorZg
import Derived.Test.YtdedegbendjmbaaGreatDoorZc
/-
  The reference's complex of some lists, walked. Conditions: as each states them.
-/
namespace Go.Proofs.YtdedegbendjmbaaGreatDoor.Vc
open Go.RowKit
section
variable {P : Program} {N : Nat} {ops : Array Oper} {K : Env → World → Prop} {rest : List Oper} {e : Env} {w0 w w' : World} {ks : List Ck} {d : Nat} {ty : TypeId} {pos : String} {af : Array Edge}
theorem Ops.bldF2 {t : TypeId} {f0 f1 : Field} {z0 z1 y0 y1 : Value} {b b0 b1 : Nat} [Und P t (.struct #[f0, f1])] [Inf P t (.agg #[z0, z1]) 2 b] {x0 : Operand} {v0 : Value} (hI0 : Inf P f0.type y0 1 b0) (hI1 : Inf P f1.type y1 1 b1) (ho : f0.offset = 0) (ho1 : f1.offset = 1) (h0 : ev e x0 = v0) (c0 : v0.oneCell' = true) (hb : Nat.blt d N = true)
    (hK : Ops P N ops K rest (upd e d (.agg #[v0, z1])) w) : Ops P N ops K (⟨some d, .build t #[(0, x0)], ty, pos, af, none⟩ :: rest) e w := by
  obtain ⟨inf, hi, hz0, hs, hby⟩ := Inf.get P t
  obtain ⟨inf0, hi0, _, hs0, _⟩ := hI0.get P f0.type
  obtain ⟨inf1, hi1, _, hs1, _⟩ := hI1.get P f1.type
  have e0 : v0.cells = #[v0] := by cases v0 <;> simp [Value.oneCell'] at c0 <;> rfl
  have ez : (Value.agg #[z0, z1]).cells = #[z0, z1] := rfl
  refine .val (w' := w) ?_ hb hK
  simp [execOp, Instr.build, run_underlying (Und.out (P := P) (t := t)), sizeOf, typeInfo, zeroValue, hi, hz0, hi0, hs0, hi1, hs1, ho, ho1, h0, e0, ez, Instr.fill]
end

theorem putL_len (l : List (List Int)) (x : List Int) : (putL l x).length ≤ l.length + 1 := by
  have := atL_le x l
  unfold putL
  split
  · omega
  · simp; omega
theorem foldPut_len : ∀ (ls l : List (List Int)), (ls.foldl putL l).length ≤ l.length + ls.length
  | [], l => by simp
  | a :: r, l => by
    have h1 := foldPut_len r (putL l a)
    have h2 := putL_len l a
    rw [List.foldl_cons]
    simp only [List.length_cons]
    omega
theorem putS_len (ls : List (List Int)) : (putS ls).length ≤ ls.length := by
  have h1 := foldPut_len (ls.filter fun l => decide (l ≠ [])) []
  have h2 := List.length_filter_le (fun l => decide (l ≠ [])) ls
  unfold putS
  simp only [List.length_nil] at h1
  omega
theorem putS_succ {ls : List (List Int)} {i : Nat} (h : i < ls.length) : putS (ls.take (i + 1)) = if gl ls (i : Int) ≠ [] then putL (putS (ls.take i)) (gl ls (i : Int)) else putS (ls.take i) := by
  unfold putS
  rw [take_succ_gl h, List.filter_append, List.foldl_append]
  by_cases e : gl ls (i : Int) = [] <;> simp [e]
def topT (x : List Int) (T : List (List Int)) : Prop := ∀ y ∈ T, Ins x y → y = x
instance (x : List Int) (T : List (List Int)) : Decidable (topT x T) := by unfold topT; exact inferInstance
def topB (S : List (List Int)) (x : List Int) : Bool := decide (∀ y ∈ S, Ins x y → y = x)
def faS (S : List (List Int)) (i : Nat) : List (List Int) := (S.take i).filter (topB S)
theorem faS_succ {S : List (List Int)} {i : Nat} (h : i < S.length) : faS S (i + 1) = if topB S (gl S (i : Int)) = true then faS S i ++ [gl S (i : Int)] else faS S i := by
  unfold faS
  rw [take_succ_gl h, List.filter_append]
  by_cases e : topB S (gl S (i : Int)) = true <;> simp [e]
theorem faS_len (S : List (List Int)) (i : Nat) : (faS S i).length ≤ S.length := by
  have h1 := List.length_filter_le (topB S) (S.take i)
  unfold faS
  have : (S.take i).length ≤ S.length := by simp; omega
  omega
theorem faS_all (S : List (List Int)) : faS S S.length = S.filter (topB S) := by unfold faS; rw [List.take_length]
theorem RowsW.snoc {w : World} {n : Nat} {rs : List SlV} {xss : List (List Int)} (h : RowsW w n rs xss) {s : SlV} {x : List Int} (hs : RdI w s.a s.n x) (hc : s.n ≤ s.c ∧ s.c ≤ maxLen) : RowsW w (n + 1) (rs ++ [s]) (xss ++ [x]) := by
  have hrl := h.rl
  have hxl := h.len
  have get : ∀ j, j < n + 1 → (rs ++ [s]).getD j slNil = (if j = n then s else rs.getD j slNil) ∧ (xss ++ [x]).getD j [] = if j = n then x else xss.getD j [] := fun j hj => by
    simp only [List.getD_eq_getElem?_getD, List.getElem?_append, hrl, hxl]
    by_cases e : j = n
    · subst e; simp
    · have : j < n := by omega
      simp [e, this]
  refine ⟨by simp; omega, by simp; omega, fun j hj => ?_, fun j hj => ?_⟩
  · rw [(get j hj).1, (get j hj).2]
    by_cases e : j = n
    · rw [if_pos e, if_pos e]; exact hs
    · rw [if_neg e, if_neg e]; exact h.row j (by omega)
  · rw [(get j hj).1]
    by_cases e : j = n
    · rw [if_pos e]; exact hc
    · rw [if_neg e]; exact h.cap j (by omega)
theorem cs_sub {l l' : List Int} (h : ∀ x ∈ l, x ∈ l') : (cs l).length ≤ l'.length :=
  Nat.le_trans (Ins.len (cs_SA l) (cs_SA l') fun x hx => (cs_mem _ _).2 (h x ((cs_mem _ _).1 hx))) (cs_len l')
abbrev cxZ (Ab : Option Addr) : Ck := Bx 27 2 Ab [.int .i64 0, .slice none 0 0]

set_option maxHeartbeats 2000000 in
theorem l17Make_c (A : Option Addr) (n c : Nat) (rs : List SlV) (ls : List (List Int)) (w : World) (hR : RowsI w A n rs ls) (hn : n ≤ 1000000) (hfl : ls.flatten.length ≤ 1000000) (hsa : ∀ l ∈ ls, SA l) :
    Ret Tryz.prog 65 [.slice A n c] w (AnsC (cxV ls) (cxL ls) (cxK ls) w) := by
  have hll : ls.length = n := hR.len
  refine Ret.of_cd Tryz.func65 rfl Tryz.ntmps65 rfl (postc2 rfl rfl) ?_
  refine Cd.seq ?_
  refine Cd.region ?_
  refine Ops.new2 (St.refl w) rfl ?_
  intro A2 w1 hS1
  refine Ops.mv_int rfl rfl rfl ?_
  refine Ops.nil ?_
  refine thenQ_n ?_
  refine Cd.seq ?_
  refine Cd.region ?_
  refine Ops.bs0 hS1 rfl ?_
  intro A4 w2 hS2
  have hS2 : St w w2 [CkR 25 A4 (putS (ls.take 0)).length 0 [], cxZ A2] := hS2
  refine Ops.mv_sl rfl rfl rfl ?_
  refine Ops.nil ?_
  refine thenQ_n ?_
  refine Cd.seq ?_
  refine Cd.seq ?_
  refine Cd.region ?_
  refine Ops.mv_int rfl rfl rfl ?_
  refine Ops.nil ?_
  refine thenQ_n ?_
  refine Cd.block ?_
  refine Cd.loop (α := Nat × (Option Addr × Nat) × List SlV) (fun z => [(0, .slice A n c), (2, .pointer A2), (4, .slice z.2.1.1 (putS (ls.take z.1)).length z.2.1.2), (5, .int .i64 (z.1 : Int))])
    (fun z w' => z.1 ≤ n ∧ RowsW w (putS (ls.take z.1)).length z.2.2 (putS (ls.take z.1)) ∧ St w w' [CkR 25 z.2.1.1 (putS (ls.take z.1)).length z.2.1.2 z.2.2, cxZ A2]) (fun z => n - z.1) (0, (A4, 0), []) ⟨rfl, rfl, rfl, rfl, trivial⟩ ⟨Nat.zero_le _, ⟨rfl, rfl, fun i hi => absurd hi (by simp [putS]), fun i hi => absurd hi (by simp [putS])⟩, hS2⟩ ?_
  clear hS2 hS1
  rintro ⟨i, ⟨A4, c4⟩, rs4⟩ e w2 ⟨hi, hW, hS2⟩
  dsimp only at hi hW hS2 ⊢
  refine Cd.seq ?_
  refine Cd.seq ?_
  refine Cd.region ?_
  refine Ops.mv_int rfl rfl rfl ?_
  refine Ops.mv_sl rfl rfl rfl ?_
  refine Ops.len rfl rfl ?_
  refine Ops.lss rfl rfl rfl ?_
  refine Ops.nil ?_
  refine thenQ_n ?_
  refine Cd.cond_p _ rfl (fun h1 => ?_) (fun h1 => ?_)
  · have hin : i < ls.length := by omega
    have hM := hS2.oldRows hR
    have hrow0 := hR.at_ (i := (i : Int)) (by omega) (by omega)
    have hrow := hM.at_ (i := (i : Int)) (by omega) (by omega)
    have hcap := hM.cap_ (i := (i : Int)) (by omega) (by omega)
    have hrl := hrow.1
    have hss := putS_succ hin
    have hlen := putS_len (ls.take i)
    have htl : (ls.take i).length = i := by simp; omega
    refine Cd.skip ?_
    refine thenQ_n ?_
    refine Cd.seq ?_
    refine Cd.block ?_
    refine Cd.seq ?_
    refine Cd.region ?_
    refine Ops.mv_sl rfl rfl rfl ?_
    refine Ops.mv_int rfl rfl rfl ?_
    refine Ops.idx hM.top.2 rfl rfl rfl (by omega) (by omega) ?_
    refine Ops.ld_sl hM.top rfl (by omega) rfl rfl ?_
    refine Ops.len rfl rfl ?_
    refine Ops.gtr rfl rfl rfl ?_
    refine Ops.nil ?_
    refine thenQ_n ?_
    refine Cd.cond_p _ rfl (fun h2 => ?_) (fun h2 => ?_)
    · have hne : gl ls (i : Int) ≠ [] := fun e => by rw [e] at hrl; simp at hrl; omega
      rw [if_pos hne] at hss
      have hcap4 := hS2.cap 0 rfl
      refine Cd.region ?_
      refine Ops.mv_sl rfl rfl rfl ?_
      refine Ops.mv_sl rfl rfl rfl ?_
      refine Ops.mv_int rfl rfl rfl ?_
      refine Ops.idx hM.top.2 rfl rfl rfl (by omega) (by omega) ?_
      refine Ops.ld_sl hM.top rfl (by omega) rfl rfl ?_
      refine Ops.call (l17Put_c A4 _ c4 rs4 (putS (ls.take i)) _ _ _ (gl ls (i : Int)) _ ((hW.later hS2.below).I (hS2.rdR 0 rfl)) hcap4.1 hrow (by omega) (by omega) (putS_SL _)) rfl rfl rfl ?_
      rintro _ w3 ⟨A5, c5, rfl, hc5, hb5, hor⟩
      have hnew : ∃ rs5, RowsW w (putL (putS (ls.take i)) (gl ls (i : Int))).length rs5 (putL (putS (ls.take i)) (gl ls (i : Int))) ∧ St w w3 [CkR 25 A5 (putL (putS (ls.take i)) (gl ls (i : Int))).length c5 rs5, cxZ A2] := by
        rcases hor with ⟨rfl, rfl, hx⟩ | ⟨hx, hst⟩
        · have e : putL (putS (ls.take i)) (gl ls (i : Int)) = putS (ls.take i) := by unfold putL; rw [if_pos hx]
          rw [e]
          exact ⟨rs4, hW, hS2.later hb5⟩
        · exact ⟨_, hW.putL hrow0 hcap, (hS2.call hst).sub (List.Sublist.cons_cons _ (List.sublist_cons_self _ _))⟩
      obtain ⟨rs5, hW5, hS5⟩ := hnew
      rw [← hss] at hW5 hS5 ⊢
      refine Ops.mv_sl rfl rfl rfl ?_
      refine Ops.nil ?_
      refine blockQ_n ?_
      refine thenQ_n ?_
      refine Cd.region ?_
      refine Ops.mv_int rfl rfl rfl ?_
      refine Ops.add rfl rfl rfl (by omega) ?_
      refine Ops.mv_int rfl rfl rfl ?_
      refine Ops.nil ?_
      refine thenQ_n ?_
      exact ⟨(i + 1, (A5, c5), rs5), by show n - (i + 1) < n - i; omega, ⟨rfl, rfl, rfl, rfl, trivial⟩, by show i + 1 ≤ n; omega, hW5, hS5⟩
    · have he : gl ls (i : Int) = [] := List.eq_nil_of_length_eq_zero (by omega)
      rw [if_neg (fun h => h he)] at hss
      rw [← hss] at hW hS2 ⊢
      refine Cd.skip ?_
      refine blockQ_n ?_
      refine thenQ_n ?_
      refine Cd.region ?_
      refine Ops.mv_int rfl rfl rfl ?_
      refine Ops.add rfl rfl rfl (by omega) ?_
      refine Ops.mv_int rfl rfl rfl ?_
      refine Ops.nil ?_
      refine thenQ_n ?_
      exact ⟨(i + 1, (A4, c4), rs4), by show n - (i + 1) < n - i; omega, ⟨rfl, rfl, rfl, rfl, trivial⟩, by show i + 1 ≤ n; omega, hW, hS2⟩
  have hin : i = ls.length := by omega
  rw [hin, List.take_length] at hW hS2 ⊢
  clear hi h1 hin
  have hSL := putS_SL ls
  have hSln := putS_len ls
  have hSm := fun x => putS_mem ls x
  have hfac : facP ls = (putS ls).filter (topB (putS ls)) := rfl
  have hcv := cv_fac hsa
  have hlong := long_fac hsa
  generalize putS ls = S at *
  have hSa : ∀ l ∈ S, SA l := fun l hl => hsa l ((hSm l).1 hl).1
  have hSne : ∀ l ∈ S, l ≠ [] := fun l hl => ((hSm l).1 hl).2
  have hvl : ∀ l : List Int, (∀ x ∈ l, ∃ s ∈ S, x ∈ s) → (cs l).length ≤ 1000000 := fun l h => Nat.le_trans (cs_sub (l' := ls.flatten) fun x hx => by
    obtain ⟨s, hs, hxs⟩ := h x hx
    exact List.mem_flatten.2 ⟨s, ((hSm s).1 hs).1, hxs⟩) hfl
  refine Cd.exit ?_
  refine thenQ_x ?_
  refine thenQ_x ?_
  refine blockQ_x ?_
  refine thenQ_n ?_
  refine Cd.seq ?_
  refine Cd.region ?_
  refine Ops.bs0 hS2 rfl ?_
  intro A6 w3 hS3
  refine Ops.bs0 hS3 rfl ?_
  intro A7 w4 hS4
  have hc0 : cs (faS S 0).flatten = [] := cs_nil
  have hS4 : St w w4 [CkI 2 A7 (cs (faS S 0).flatten).length 0 (cs (faS S 0).flatten), CkR 25 A6 (faS S 0).length 0 [], CkR 25 A4 S.length c4 rs4, cxZ A2] := by rw [hc0]; exact hS4
  refine Ops.mv_sl rfl rfl rfl ?_
  refine Ops.mv_sl rfl rfl rfl ?_
  refine Ops.nil ?_
  refine thenQ_n ?_
  refine Cd.seq ?_
  refine Cd.seq ?_
  refine Cd.region ?_
  refine Ops.mv_int rfl rfl rfl ?_
  refine Ops.nil ?_
  refine thenQ_n ?_
  refine Cd.block ?_
  refine Cd.loop (α := Nat × (Option Addr × Nat) × List SlV × (Option Addr × Nat)) (fun z => [(2, .pointer A2), (4, .slice A4 S.length c4), (6, .slice z.2.1.1 (faS S z.1).length z.2.1.2), (7, .slice z.2.2.2.1 (cs (faS S z.1).flatten).length z.2.2.2.2), (8, .int .i64 (z.1 : Int))])
    (fun z w' => z.1 ≤ S.length ∧ RowsW w (faS S z.1).length z.2.2.1 (faS S z.1) ∧ St w w' [CkI 2 z.2.2.2.1 (cs (faS S z.1).flatten).length z.2.2.2.2 (cs (faS S z.1).flatten), CkR 25 z.2.1.1 (faS S z.1).length z.2.1.2 z.2.2.1, CkR 25 A4 S.length c4 rs4, cxZ A2]) (fun z => S.length - z.1) (0, (A6, 0), [], (A7, 0)) ⟨rfl, rfl, rfl, by show Value.slice A7 0 0 = .slice A7 (cs (faS S 0).flatten).length 0; rw [hc0]; rfl, rfl, trivial⟩ ⟨Nat.zero_le _, ⟨rfl, rfl, fun i hi => absurd hi (by simp [faS]), fun i hi => absurd hi (by simp [faS])⟩, hS4⟩ ?_
  clear hS4 hS3 hS2
  rintro ⟨i, ⟨A6, c6⟩, rs6, A7, c7⟩ e w4 ⟨hi, hW6, hS4⟩
  dsimp only at hi hW6 hS4 ⊢
  refine Cd.seq ?_
  refine Cd.seq ?_
  refine Cd.region ?_
  refine Ops.mv_int rfl rfl rfl ?_
  refine Ops.mv_sl rfl rfl rfl ?_
  refine Ops.len rfl rfl ?_
  refine Ops.lss rfl rfl rfl ?_
  refine Ops.nil ?_
  refine thenQ_n ?_
  refine Cd.cond_p _ rfl (fun h1 => ?_) (fun h1 => ?_)
  · have hiS : i < S.length := by omega
    have hgS : gl S (i : Int) ∈ S := by rw [gl_mem hiS]; exact List.getElem_mem _
    have hsucc := faS_succ hiS
    have hfln := faS_len S i
    refine Cd.skip ?_
    refine thenQ_n ?_
    refine Cd.seq ?_
    refine Cd.block ?_
    refine Cd.seq ?_
    refine Cd.region ?_
    refine Ops.mv_bool rfl rfl rfl ?_
    refine Ops.nil ?_
    refine thenQ_n ?_
    refine Cd.seq ?_
    refine Cd.seq ?_
    refine Cd.region ?_
    refine Ops.mv_int rfl rfl rfl ?_
    refine Ops.nil ?_
    refine thenQ_n ?_
    refine Cd.block ?_
    refine Cd.loop (α := Nat × Bool) (fun z => [(2, .pointer A2), (4, .slice A4 S.length c4), (6, .slice A6 (faS S i).length c6), (7, .slice A7 (cs (faS S i).flatten).length c7), (8, .int .i64 (i : Int)), (9, .bool z.2), (10, .int .i64 (z.1 : Int))])
      (fun z w' => z.1 ≤ S.length ∧ z.2 = decide (topT (gl S (i : Int)) (S.take z.1)) ∧ St w w' [CkI 2 A7 (cs (faS S i).flatten).length c7 (cs (faS S i).flatten), CkR 25 A6 (faS S i).length c6 rs6, CkR 25 A4 S.length c4 rs4, cxZ A2]) (fun z => S.length - z.1) (0, true) ⟨rfl, rfl, rfl, rfl, rfl, rfl, rfl, trivial⟩ ⟨Nat.zero_le _, (decide_eq_true (by simp [topT])).symm, hS4⟩ ?_
    rintro ⟨k, b⟩ e w5 ⟨hk, hb, hS5⟩
    dsimp only at hk hb hS5 ⊢
    have hS45 : RowsI w5 A4 S.length rs4 S := (hW.later hS5.below).I (hS5.rdR 2 rfl)
    have hri := hS45.at_ (i := (i : Int)) (by omega) (by omega)
    have hci := hS45.cap_ (i := (i : Int)) (by omega) (by omega)
    have hri0 := hW.row i hiS
    have hci0 := hW.cap i hiS
    have hril := hri.1
    refine Cd.seq ?_
    refine Cd.seq ?_
    refine Cd.region ?_
    refine Ops.mv_int rfl rfl rfl ?_
    refine Ops.mv_sl rfl rfl rfl ?_
    refine Ops.len rfl rfl ?_
    refine Ops.lss rfl rfl rfl ?_
    refine Ops.mv_bool rfl rfl rfl ?_
    refine Ops.split_p 47 rfl (fun h2 => ?_) (fun h2 => ?_)
    · refine Ops.rung rfl rfl rfl ?_
      refine Ops.mv_bool rfl rfl rfl ?_
      refine Ops.pick_t rfl rfl rfl ?_
      refine Ops.nil ?_
      refine thenQ_n ?_
      cases hbe : b
      · --dup 2
        skip
        refine Cd.cond_f rfl ?_
        refine Cd.exit ?_
        refine thenQ_x ?_
        refine thenQ_x ?_
        refine blockQ_x ?_
        refine thenQ_n ?_
        refine Cd.seq ?_
        refine Cd.region ?_
        refine Ops.mv_bool rfl rfl rfl ?_
        refine Ops.nil ?_
        refine thenQ_n ?_
        subst hbe
        have hnt : ¬ topB S (gl S (i : Int)) = true := fun h => by
          have h3 : ∀ y ∈ S, Ins (gl S (i : Int)) y → y = gl S (i : Int) := of_decide_eq_true h
          have := of_decide_eq_false hb.symm
          exact this fun y hy => h3 y (List.mem_of_mem_take hy)
        rw [if_neg hnt] at hsucc
        rw [← hsucc] at hW6 hS5 ⊢
        refine Cd.cond_f rfl ?_
        refine Cd.skip ?_
        refine blockQ_n ?_
        refine thenQ_n ?_
        refine Cd.region ?_
        refine Ops.mv_int rfl rfl rfl ?_
        refine Ops.add rfl rfl rfl (by omega) ?_
        refine Ops.mv_int rfl rfl rfl ?_
        refine Ops.nil ?_
        refine thenQ_n ?_
        exact ⟨(i + 1, (A6, c6), rs6, (A7, c7)), by show S.length - (i + 1) < S.length - i; omega, ⟨rfl, rfl, rfl, rfl, rfl, trivial⟩, by show i + 1 ≤ S.length; omega, hW6, hS5⟩
      · subst hbe
        have hall := of_decide_eq_true hb.symm
        have hkS : k < S.length := by omega
        have hrk := hS45.at_ (i := (k : Int)) (by omega) (by omega)
        have hck := hS45.cap_ (i := (k : Int)) (by omega) (by omega)
        have hnext : decide ((i : Int) = (k : Int) ∨ ¬ Ins (gl S (i : Int)) (gl S (k : Int))) = decide (topT (gl S (i : Int)) (S.take (k + 1))) := decide_eq_decide.2 (by
          unfold topT
          rw [take_succ_gl hkS]
          constructor
          · intro h y hy hyi
            rcases List.mem_append.1 hy with hy | hy
            · exact hall y hy hyi
            · obtain rfl : y = gl S (k : Int) := by simpa using hy
              rcases h with h | h
              · rw [h]
              · exact absurd hyi h
          · intro h
            by_cases hin : Ins (gl S (i : Int)) (gl S (k : Int))
            · left
              have h3 := h _ (List.mem_append.2 (.inr (by simp))) hin
              rw [gl_mem hiS, gl_mem hkS] at h3
              rw [(List.getElem_inj hSL.nodup).1 h3]
            · exact .inr hin)
        skip
        refine Cd.cond_t rfl ?_
        refine Cd.skip ?_
        refine thenQ_n ?_
        refine Cd.seq ?_
        refine Cd.block ?_
        by_cases h3 : (i : Int) = (k : Int)
        · --dup 2
          refine Cd.draw [.ex (.int .i64 ((i : Int))), .ex (.int .i64 ((k : Int))), .ex (.bool (decide (((i : Int)) = ((k : Int))))), .ex (.bool (true)), .ex (undef), .ex (undef), .ex (undef), .ex (undef), .ex (undef), .ex (undef), .ex (undef), .ex (undef), .ex (undef), .ex (undef), .ex (.bool (true)), .ex (.bool (true))] (by kernel_rfl) (by kernel_rfl) rfl (List.forall_mem_cons.2 ⟨Yd.lasts_ex _, (List.forall_mem_cons.2 ⟨Yd.lasts_ex _, (List.forall_mem_cons.2 ⟨Yd.lasts_ex _, (List.forall_mem_cons.2 ⟨Yd.lasts_ex _, (List.forall_mem_cons.2 ⟨Yd.lasts_ex _, (List.forall_mem_cons.2 ⟨Yd.lasts_ex _, (List.forall_mem_cons.2 ⟨Yd.lasts_ex _, (List.forall_mem_cons.2 ⟨Yd.lasts_ex _, (List.forall_mem_cons.2 ⟨Yd.lasts_ex _, (List.forall_mem_cons.2 ⟨Yd.lasts_ex _, (List.forall_mem_cons.2 ⟨Yd.lasts_ex _, (List.forall_mem_cons.2 ⟨Yd.lasts_ex _, (List.forall_mem_cons.2 ⟨Yd.lasts_ex _, (List.forall_mem_cons.2 ⟨Yd.lasts_ex _, (List.forall_mem_cons.2 ⟨Yd.lasts_ex _, (List.forall_mem_cons.2 ⟨Yd.lasts_ex _, (fun _ h => by cases h)⟩)⟩)⟩)⟩)⟩)⟩)⟩)⟩)⟩)⟩)⟩)⟩)⟩)⟩)⟩)⟩) ⟨?_, ?_, ?_, ?_, ?_, ?_, ?_, ?_, ?_, ?_, ?_, ?_, ?_, ?_, ?_, ?_, trivial⟩ ?_
          · intro e1 w1 hb hp hun
            refine Ops.mv_int rfl rfl rfl ?_
            refine Ops.nil ?_
            exact After.dn (Below.refl _ _) (by exact rfl)
          · intro e1 w1 hb hp hun
            refine Ops.mv_int rfl rfl rfl ?_
            refine Ops.nil ?_
            exact After.dn (Below.refl _ _) (by exact rfl)
          · intro e1 w1 hb hp hun
            refine Ops.eql rfl rfl rfl ?_
            refine Ops.nil ?_
            exact After.dn (Below.refl _ _) (by exact rfl)
          · intro e1 w1 hb hp hun
            refine Ops.mv_bool rfl rfl rfl ?_
            refine Ops.nil ?_
            exact After.dn (Below.refl _ _) (by exact congrArg Value.bool (decide_eq_true h3))
          · intro e1 w1 hb hp hun
            refine Ops.skipg rfl rfl rfl rfl rfl ?_
            refine Ops.nil ?_
            exact After.dn (Below.refl _ _) (by exact rfl)
          · intro e1 w1 hb hp hun
            refine Ops.skipg rfl rfl rfl rfl rfl ?_
            refine Ops.nil ?_
            exact After.dn (Below.refl _ _) (by exact rfl)
          · intro e1 w1 hb hp hun
            refine Ops.skipg rfl rfl rfl rfl rfl ?_
            refine Ops.nil ?_
            exact After.dn (Below.refl _ _) (by exact rfl)
          · intro e1 w1 hb hp hun
            refine Ops.skipg rfl rfl rfl rfl rfl ?_
            refine Ops.nil ?_
            exact After.dn (Below.refl _ _) (by exact rfl)
          · intro e1 w1 hb hp hun
            refine Ops.skipg rfl rfl rfl rfl rfl ?_
            refine Ops.nil ?_
            exact After.dn (Below.refl _ _) (by exact rfl)
          · intro e1 w1 hb hp hun
            refine Ops.skipg rfl rfl rfl rfl rfl ?_
            refine Ops.nil ?_
            exact After.dn (Below.refl _ _) (by exact rfl)
          · intro e1 w1 hb hp hun
            refine Ops.skipg rfl rfl rfl rfl rfl ?_
            refine Ops.nil ?_
            exact After.dn (Below.refl _ _) (by exact rfl)
          · intro e1 w1 hb hp hun
            refine Ops.skipg rfl rfl rfl rfl rfl ?_
            refine Ops.nil ?_
            exact After.dn (Below.refl _ _) (by exact rfl)
          · intro e1 w1 hb hp hun
            refine Ops.skipg rfl rfl rfl rfl rfl ?_
            refine Ops.nil ?_
            exact After.dn (Below.refl _ _) (by exact rfl)
          · intro e1 w1 hb hp hun
            refine Ops.skipg rfl rfl rfl rfl rfl ?_
            refine Ops.nil ?_
            exact After.dn (Below.refl _ _) (by exact rfl)
          · intro e1 w1 hb hp hun
            refine Ops.pick_t rfl rfl rfl ?_
            refine Ops.nil ?_
            exact After.dn (Below.refl _ _) (by exact rfl)
          · intro e1 w1 hb hp hun
            refine Ops.mv_bool rfl rfl rfl ?_
            refine Ops.nil ?_
            exact After.dn (Below.refl _ _) (by exact rfl)
          intro u w6 hb6 _
          refine blockQ_n ?_
          refine thenQ_n ?_
          refine Cd.region ?_
          refine Ops.mv_int rfl rfl rfl ?_
          refine Ops.add rfl rfl rfl (by omega) ?_
          refine Ops.mv_int rfl rfl rfl ?_
          refine Ops.nil ?_
          refine thenQ_n ?_
          exact ⟨(k + 1, true), by show S.length - (k + 1) < S.length - k; omega, ⟨rfl, rfl, rfl, rfl, rfl, rfl, rfl, trivial⟩, by show k + 1 ≤ S.length; omega, by rw [← hnext, decide_eq_true (.inl h3)], hS5.later hb6⟩
        · refine Cd.draw [.ex (.int .i64 ((i : Int))), .ex (.int .i64 ((k : Int))), .ex (.bool (decide (((i : Int)) = ((k : Int))))), .ex (.bool (false)), .ex (.slice (A4) (S.length) (c4)), .ex (.int .i64 ((i : Int))), .ex (.pointer (ptrAt (A4) ((i : Int)).toNat)), .ex (.slice ((rg (rs4) ((i : Int))).a) ((rg (rs4) ((i : Int))).n) ((rg (rs4) ((i : Int))).c)), .ex (.slice (A4) (S.length) (c4)), .ex (.int .i64 ((k : Int))), .ex (.pointer (ptrAt (A4) ((k : Int)).toNat)), .ex (.slice ((rg (rs4) ((k : Int))).a) ((rg (rs4) ((k : Int))).n) ((rg (rs4) ((k : Int))).c)), .ex (.bool (decide (Ins (gl S (i : Int)) (gl S (k : Int))))), .ex (.bool (decide (¬ (Ins (gl S (i : Int)) (gl S (k : Int)))))), .ex (.bool (decide (¬ (Ins (gl S (i : Int)) (gl S (k : Int)))))), .ex (.bool (decide (¬ (Ins (gl S (i : Int)) (gl S (k : Int))))))] (by kernel_rfl) (by kernel_rfl) rfl (List.forall_mem_cons.2 ⟨Yd.lasts_ex _, (List.forall_mem_cons.2 ⟨Yd.lasts_ex _, (List.forall_mem_cons.2 ⟨Yd.lasts_ex _, (List.forall_mem_cons.2 ⟨Yd.lasts_ex _, (List.forall_mem_cons.2 ⟨Yd.lasts_ex _, (List.forall_mem_cons.2 ⟨Yd.lasts_ex _, (List.forall_mem_cons.2 ⟨Yd.lasts_ex _, (List.forall_mem_cons.2 ⟨Yd.lasts_ex _, (List.forall_mem_cons.2 ⟨Yd.lasts_ex _, (List.forall_mem_cons.2 ⟨Yd.lasts_ex _, (List.forall_mem_cons.2 ⟨Yd.lasts_ex _, (List.forall_mem_cons.2 ⟨Yd.lasts_ex _, (List.forall_mem_cons.2 ⟨Yd.lasts_ex _, (List.forall_mem_cons.2 ⟨Yd.lasts_ex _, (List.forall_mem_cons.2 ⟨Yd.lasts_ex _, (List.forall_mem_cons.2 ⟨Yd.lasts_ex _, (fun _ h => by cases h)⟩)⟩)⟩)⟩)⟩)⟩)⟩)⟩)⟩)⟩)⟩)⟩)⟩)⟩)⟩)⟩) ⟨?_, ?_, ?_, ?_, ?_, ?_, ?_, ?_, ?_, ?_, ?_, ?_, ?_, ?_, ?_, ?_, trivial⟩ ?_
          · intro e1 w1 hb hp hun
            refine Ops.mv_int rfl rfl rfl ?_
            refine Ops.nil ?_
            exact After.dn (Below.refl _ _) (by exact rfl)
          · intro e1 w1 hb hp hun
            refine Ops.mv_int rfl rfl rfl ?_
            refine Ops.nil ?_
            exact After.dn (Below.refl _ _) (by exact rfl)
          · intro e1 w1 hb hp hun
            refine Ops.eql rfl rfl rfl ?_
            refine Ops.nil ?_
            exact After.dn (Below.refl _ _) (by exact rfl)
          · intro e1 w1 hb hp hun
            refine Ops.mv_bool rfl rfl rfl ?_
            refine Ops.nil ?_
            exact After.dn (Below.refl _ _) (by exact congrArg Value.bool (decide_eq_false h3))
          · intro e1 w1 hb hp hun
            refine Ops.rung rfl rfl rfl ?_
            refine Ops.mv_sl rfl rfl rfl ?_
            refine Ops.nil ?_
            exact After.dn (Below.refl _ _) (by exact rfl)
          · intro e1 w1 hb hp hun
            refine Ops.rung rfl rfl rfl ?_
            refine Ops.mv_int rfl rfl rfl ?_
            refine Ops.nil ?_
            exact After.dn (Below.refl _ _) (by exact rfl)
          · intro e1 w1 hb hp hun
            refine Ops.rung rfl rfl rfl ?_
            refine Ops.idx (hS45.top.later hb).2 rfl rfl rfl (by omega) (by omega) ?_
            refine Ops.nil ?_
            exact After.dn (Below.refl _ _) (by exact rfl)
          · intro e1 w1 hb hp hun
            refine Ops.rung rfl rfl rfl ?_
            refine Ops.ld_sl (hS45.top.later hb) rfl (by omega) rfl rfl ?_
            refine Ops.nil ?_
            exact After.dn (Below.refl _ _) (by exact rfl)
          · intro e1 w1 hb hp hun
            refine Ops.rung rfl rfl rfl ?_
            refine Ops.mv_sl rfl rfl rfl ?_
            refine Ops.nil ?_
            exact After.dn (Below.refl _ _) (by exact rfl)
          · intro e1 w1 hb hp hun
            refine Ops.rung rfl rfl rfl ?_
            refine Ops.mv_int rfl rfl rfl ?_
            refine Ops.nil ?_
            exact After.dn (Below.refl _ _) (by exact rfl)
          · intro e1 w1 hb hp hun
            refine Ops.rung rfl rfl rfl ?_
            refine Ops.idx (hS45.top.later hb).2 rfl rfl rfl (by omega) (by omega) ?_
            refine Ops.nil ?_
            exact After.dn (Below.refl _ _) (by exact rfl)
          · intro e1 w1 hb hp hun
            refine Ops.rung rfl rfl rfl ?_
            refine Ops.ld_sl (hS45.top.later hb) rfl (by omega) rfl rfl ?_
            refine Ops.nil ?_
            exact After.dn (Below.refl _ _) (by exact rfl)
          · intro e1 w1 hb hp hun
            refine Ops.rung rfl rfl rfl ?_
            refine Ops.call (l17Within_c _ _ _ _ _ _ _ _ _ (hri.later hb) (hrk.later hb) (by omega) (by omega)) rfl rfl rfl ?_
            rintro _ w2 ⟨rfl, hst⟩
            subst hst
            refine Ops.nil ?_
            exact After.dn (Below.refl _ _) (by exact rfl)
          · intro e1 w1 hb hp hun
            refine Ops.rung rfl rfl rfl ?_
            refine Ops.not_p rfl rfl ?_
            refine Ops.nil ?_
            exact After.dn (Below.refl _ _) (by exact rfl)
          · intro e1 w1 hb hp hun
            refine Ops.pick_f rfl rfl rfl ?_
            refine Ops.nil ?_
            exact After.dn (Below.refl _ _) (by exact rfl)
          · intro e1 w1 hb hp hun
            refine Ops.mv_bool rfl rfl rfl ?_
            refine Ops.nil ?_
            exact After.dn (Below.refl _ _) (by exact rfl)
          intro u w6 hb6 _
          refine blockQ_n ?_
          refine thenQ_n ?_
          refine Cd.region ?_
          refine Ops.mv_int rfl rfl rfl ?_
          refine Ops.add rfl rfl rfl (by omega) ?_
          refine Ops.mv_int rfl rfl rfl ?_
          refine Ops.nil ?_
          refine thenQ_n ?_
          exact ⟨(k + 1, decide (¬ Ins (gl S (i : Int)) (gl S (k : Int)))), by show S.length - (k + 1) < S.length - k; omega, ⟨rfl, rfl, rfl, rfl, rfl, rfl, rfl, trivial⟩, by show k + 1 ≤ S.length; omega, by rw [← hnext]; exact decide_eq_decide.2 ⟨.inr, fun h => h.resolve_left h3⟩, hS5.later hb6⟩
    · have hkS : k = S.length := by omega
      rw [hkS, List.take_length] at hb
      have hb : b = topB S (gl S (i : Int)) := hb
      refine Ops.skipg rfl rfl rfl rfl rfl ?_
      refine Ops.pick_f rfl rfl rfl ?_
      refine Ops.nil ?_
      refine thenQ_n ?_
      refine Cd.cond_f rfl ?_
      refine Cd.exit ?_
      refine thenQ_x ?_
      refine thenQ_x ?_
      refine blockQ_x ?_
      refine thenQ_n ?_
      refine Cd.seq ?_
      refine Cd.region ?_
      refine Ops.mv_bool rfl rfl rfl ?_
      refine Ops.nil ?_
      refine thenQ_n ?_
      refine Cd.cond rfl (fun h3 => ?_) (fun h3 => ?_)
      · rw [← hb, if_pos h3] at hsucc
        refine Cd.seq ?_
        refine Cd.region ?_
        refine Ops.mv_sl rfl rfl rfl ?_
        refine Ops.mv_sl rfl rfl rfl ?_
        refine Ops.mv_int rfl rfl rfl ?_
        refine Ops.idx hS45.top.2 rfl rfl rfl (by omega) (by omega) ?_
        refine Ops.ld_sl hS45.top rfl (by omega) rfl rfl ?_
        refine Ops.bs1R hS5 rfl rfl rfl ?_
        intro A9 w6 hS6
        refine Ops.appR 2 hS6 rfl (hS6.rdR 0 rfl) rfl rfl rfl (by omega) (by omega) rfl ?_
        intro A10 c10 w7 hS7
        have hS7 : St w w7 [CkI 2 A7 (cs (faS S i).flatten).length c7 (cs (faS S i).flatten), CkR 25 A10 ((faS S i).length + 1) c10 (rs6 ++ [rg rs4 (i : Int)]), CkR 25 A4 S.length c4 rs4, cxZ A2] := hS7.tail
        have hW7 := hW6.snoc (s := rg rs4 (i : Int)) (x := gl S (i : Int)) hri0 hci0
        have hl1 : (faS S (i + 1)).length = (faS S i).length + 1 := by rw [hsucc]; simp
        refine Ops.mv_sl rfl rfl rfl ?_
        refine Ops.nil ?_
        refine thenQ_n ?_
        refine Cd.seq ?_
        refine Cd.region ?_
        refine Ops.mv_int rfl rfl rfl ?_
        refine Ops.nil ?_
        refine thenQ_n ?_
        refine Cd.block ?_
        refine Cd.loop (α := Nat × (Option Addr × Nat)) (fun z => [(2, .pointer A2), (4, .slice A4 S.length c4), (6, .slice A10 ((faS S i).length + 1) c10), (7, .slice z.2.1 (cs ((faS S i).flatten ++ (gl S (i : Int)).take z.1)).length z.2.2), (8, .int .i64 (i : Int)), (11, .int .i64 (z.1 : Int))])
          (fun z w' => z.1 ≤ (gl S (i : Int)).length ∧ St w w' [CkI 2 z.2.1 (cs ((faS S i).flatten ++ (gl S (i : Int)).take z.1)).length z.2.2 (cs ((faS S i).flatten ++ (gl S (i : Int)).take z.1)), CkR 25 A10 ((faS S i).length + 1) c10 (rs6 ++ [rg rs4 (i : Int)]), CkR 25 A4 S.length c4 rs4, cxZ A2]) (fun z => (gl S (i : Int)).length - z.1) (0, (A7, c7)) ⟨rfl, rfl, rfl, by show Value.slice A7 (cs (faS S i).flatten).length c7 = .slice A7 (cs ((faS S i).flatten ++ (gl S (i : Int)).take 0)).length c7; rw [List.take_zero, List.append_nil], rfl, rfl, trivial⟩ ⟨Nat.zero_le _, by simpa using hS7⟩ ?_
        rintro ⟨j, A11, c11⟩ e w8 ⟨hj, hS8⟩
        dsimp only at hj hS8 ⊢
        have hS48 : RowsI w8 A4 S.length rs4 S := (hW.later hS8.below).I (hS8.rdR 2 rfl)
        have hri8 := hS48.at_ (i := (i : Int)) (by omega) (by omega)
        refine Cd.seq ?_
        refine Cd.seq ?_
        refine Cd.region ?_
        refine Ops.mv_int rfl rfl rfl ?_
        refine Ops.mv_sl rfl rfl rfl ?_
        refine Ops.mv_int rfl rfl rfl ?_
        refine Ops.idx hS48.top.2 rfl rfl rfl (by omega) (by omega) ?_
        refine Ops.ld_sl hS48.top rfl (by omega) rfl rfl ?_
        refine Ops.len rfl rfl ?_
        refine Ops.lss rfl rfl rfl ?_
        refine Ops.nil ?_
        refine thenQ_n ?_
        refine Cd.cond_p _ rfl (fun h4 => ?_) (fun h4 => ?_)
        · have hjl : j < (gl S (i : Int)).length := by omega
          have hfe : cs (cs ((faS S i).flatten ++ (gl S (i : Int)).take j) ++ [gi (gl S (i : Int)) (j : Int)]) = cs ((faS S i).flatten ++ (gl S (i : Int)).take (j + 1)) := by rw [cs_cs, take_succ_gi hjl, List.append_assoc]
          have hcap11 := hS8.cap 0 rfl
          have hvl8 := hvl ((faS S i).flatten ++ (gl S (i : Int)).take j) (fun x hx => by
            rcases List.mem_append.1 hx with hx | hx
            · obtain ⟨l, hl, hxl⟩ := List.mem_flatten.1 hx
              exact ⟨l, List.mem_of_mem_take (List.mem_filter.1 hl).1, hxl⟩
            · exact ⟨_, hgS, List.mem_of_mem_take hx⟩)
          refine Cd.skip ?_
          refine thenQ_n ?_
          refine Cd.seq ?_
          refine Cd.block ?_
          refine Cd.region ?_
          refine Ops.mv_sl rfl rfl rfl ?_
          refine Ops.mv_sl rfl rfl rfl ?_
          refine Ops.mv_int rfl rfl rfl ?_
          refine Ops.idx hS48.top.2 rfl rfl rfl (by omega) (by omega) ?_
          refine Ops.ld_sl hS48.top rfl (by omega) rfl rfl ?_
          refine Ops.mv_int rfl rfl rfl ?_
          refine Ops.idx hri8.2 rfl rfl rfl (by omega) (by omega) ?_
          refine Ops.ld_int hri8 rfl (by omega) rfl rfl ?_
          refine Ops.call (l17Insert_c A11 _ c11 _ (gi (gl S (i : Int)) (j : Int)) _ (hS8.rdI 0 rfl) hcap11.1 hvl8 (cs_SA _)) rfl rfl rfl ?_
          rintro _ w9 ⟨A12, c12, rfl, hbl, hor⟩
          have hS9 := hS8.insRow (i := 0) rfl hbl hor
          rw [hfe] at hS9 ⊢
          refine Ops.mv_sl rfl rfl rfl ?_
          refine Ops.nil ?_
          refine blockQ_n ?_
          refine thenQ_n ?_
          refine Cd.region ?_
          refine Ops.mv_int rfl rfl rfl ?_
          refine Ops.add rfl rfl rfl (by omega) ?_
          refine Ops.mv_int rfl rfl rfl ?_
          refine Ops.nil ?_
          refine thenQ_n ?_
          exact ⟨(j + 1, (A12, c12)), by show (gl S (i : Int)).length - (j + 1) < (gl S (i : Int)).length - j; omega, ⟨rfl, rfl, rfl, rfl, rfl, rfl, trivial⟩, by show j + 1 ≤ _; omega, hS9⟩
        · rw [show (gl S (i : Int)).take j = gl S (i : Int) from List.take_of_length_le (by omega)] at hS8 ⊢
          have hfe : (faS S i).flatten ++ gl S (i : Int) = (faS S (i + 1)).flatten := by rw [hsucc]; simp
          rw [hfe, ← hl1] at hS8
          rw [← hsucc, ← hl1] at hW7
          rw [hfe, ← hl1]
          refine Cd.exit ?_
          refine thenQ_x ?_
          refine thenQ_x ?_
          refine blockQ_x ?_
          refine blockQ_n ?_
          refine thenQ_n ?_
          refine Cd.region ?_
          refine Ops.mv_int rfl rfl rfl ?_
          refine Ops.add rfl rfl rfl (by omega) ?_
          refine Ops.mv_int rfl rfl rfl ?_
          refine Ops.nil ?_
          refine thenQ_n ?_
          exact ⟨(i + 1, (A10, c10), rs6 ++ [rg rs4 (i : Int)], (A11, c11)), by show S.length - (i + 1) < S.length - i; omega, ⟨rfl, rfl, rfl, rfl, rfl, trivial⟩, by show i + 1 ≤ S.length; omega, hW7, hS8⟩
      · rw [← hb, if_neg (by rw [h3]; decide)] at hsucc
        rw [← hsucc] at hW6 hS5 ⊢
        refine Cd.skip ?_
        refine blockQ_n ?_
        refine thenQ_n ?_
        refine Cd.region ?_
        refine Ops.mv_int rfl rfl rfl ?_
        refine Ops.add rfl rfl rfl (by omega) ?_
        refine Ops.mv_int rfl rfl rfl ?_
        refine Ops.nil ?_
        refine thenQ_n ?_
        exact ⟨(i + 1, (A6, c6), rs6, (A7, c7)), by show S.length - (i + 1) < S.length - i; omega, ⟨rfl, rfl, rfl, rfl, rfl, trivial⟩, by show i + 1 ≤ S.length; omega, hW6, hS5⟩
  have hiS : i = S.length := by omega
  rw [hiS, faS_all, ← hfac, hcv] at hS4 ⊢
  rw [hiS, faS_all, ← hfac] at hW6
  clear h1 hi hiS hSm
  have hFl : (facP ls).length ≤ 1000000 := by rw [hfac]; exact Nat.le_trans (List.length_filter_le _ _) (by omega)
  have hFin : ∀ l ∈ facP ls, Ins l (cvP ls) := fun l hl => cvP_ins (facP_mem.1 hl).1
  have hFr : ∀ l ∈ facP ls, l.length ≤ 1000000 := fun l hl => by
    have h1 := hsa l (facP_mem.1 hl).1
    have h2 := Ins.len h1 (cs_SA ls.flatten) (hFin l hl)
    have h3 := cs_len ls.flatten
    omega
  have hVl : (cvP ls).length ≤ 1000000 := Nat.le_trans (cs_len _) hfl
  have hVS : SA (cvP ls) := cs_SA _
  generalize hFe : facP ls = F at *
  have hcxF : cxF ls = F.map (List.map (ix (cvP ls))) := by unfold cxF; rw [hFe]
  generalize hVe : cvP ls = Vs at *
  have hbad : CxBad ls ↔ ((∃ l ∈ F, 6 < l.length) ∨ 60 < Vs.length ∨ 400 < F.length) := by unfold CxBad; rw [hFe, hVe, hlong]
  refine Cd.exit ?_
  refine thenQ_x ?_
  refine thenQ_x ?_
  refine blockQ_x ?_
  refine thenQ_n ?_
  refine Cd.seq ?_
  refine Cd.region ?_
  refine Ops.mv_sl rfl rfl rfl ?_
  refine Ops.len rfl rfl ?_
  refine Ops.bldF2 (by exact inferInstance) (by exact inferInstance) rfl rfl rfl rfl rfl ?_
  refine Ops.new2 hS4 rfl ?_
  intro A12 w5 hS5
  refine Ops.st_agg 2 0 hS5 rfl rfl rfl rfl rfl rfl rfl ?_
  intro w6 hS6
  have hS6 : St w w6 ([Bx 27 2 A12 [.int .i64 (Vs.length : Int), .slice none 0 0], CkI 2 A7 Vs.length c7 Vs, CkR 25 A6 F.length c6 rs6, cxZ A2, CkR 25 none 0 0 []] ++ rowsCk 2 [] (((F.take 0)).map (List.map (ix Vs)))) := by
    have h := (hS6.sub (List.Sublist.cons_cons _ (List.Sublist.cons_cons _ (List.Sublist.cons_cons _ (List.sublist_cons_self _ _))))).nil 25
    refine h.perm ?_
    exact List.perm_append_comm (l₁ := [CkR 25 none 0 0 []]) (l₂ := [_, _, _, _])
  refine Ops.nil ?_
  refine thenQ_n ?_
  refine Cd.seq ?_
  refine Cd.seq ?_
  refine Cd.region ?_
  refine Ops.mv_int rfl rfl rfl ?_
  refine Ops.nil ?_
  refine thenQ_n ?_
  refine Cd.block ?_
  refine Cd.loop (α := Nat × (Option Addr × Nat) × List SlV) (fun z => [(2, .pointer A2), (6, .slice A6 F.length c6), (7, .slice A7 Vs.length c7), (12, .pointer A12), (13, .int .i64 (z.1 : Int))])
    (fun z w' => z.1 ≤ F.length ∧ (∀ l ∈ F.take z.1, l.length ≤ 6) ∧ z.2.2.length = z.1 ∧ St w w' ([Bx 27 2 A12 [.int .i64 (Vs.length : Int), .slice z.2.1.1 z.1 z.2.1.2], CkI 2 A7 Vs.length c7 Vs, CkR 25 A6 F.length c6 rs6, cxZ A2, CkR 25 z.2.1.1 z.1 z.2.1.2 z.2.2] ++ rowsCk 2 z.2.2 ((F.take z.1).map (List.map (ix Vs))))) (fun z => F.length - z.1) (0, (none, 0), []) ⟨rfl, rfl, rfl, rfl, rfl, trivial⟩ ⟨Nat.zero_le _, by simp, rfl, hS6⟩ ?_
  clear hS6 hS5 hS4
  rintro ⟨k, ⟨A13, c13⟩, rs13⟩ e w6 ⟨hk, h6, hrl13, hS6⟩
  dsimp only at hk h6 hrl13 hS6 ⊢
  refine Cd.seq ?_
  refine Cd.seq ?_
  refine Cd.region ?_
  refine Ops.mv_int rfl rfl rfl ?_
  refine Ops.mv_sl rfl rfl rfl ?_
  refine Ops.len rfl rfl ?_
  refine Ops.lss rfl rfl rfl ?_
  refine Ops.nil ?_
  refine thenQ_n ?_
  refine Cd.cond_p _ rfl (fun h1 => ?_) (fun h1 => ?_)
  · have hkF : k < F.length := by omega
    have hgF : gl F (k : Int) ∈ F := by rw [gl_mem hkF]; exact List.getElem_mem _
    have hgl := hFr _ hgF
    have hgv := hFin _ hgF
    refine Cd.skip ?_
    refine thenQ_n ?_
    refine Cd.seq ?_
    refine Cd.block ?_
    refine Cd.seq ?_
    refine Cd.region ?_
    refine Ops.bs0 hS6 rfl ?_
    intro A14 w7 hS7
    have hS7 : St w w7 (CkI 2 A14 0 0 [] :: ([Bx 27 2 A12 [.int .i64 (Vs.length : Int), .slice A13 k c13], CkI 2 A7 Vs.length c7 Vs, CkR 25 A6 F.length c6 rs6, cxZ A2, CkR 25 A13 k c13 rs13] ++ rowsCk 2 rs13 ((F.take k).map (List.map (ix Vs))))) := hS7
    refine Ops.mv_sl rfl rfl rfl ?_
    refine Ops.nil ?_
    refine thenQ_n ?_
    refine Cd.seq ?_
    refine Cd.seq ?_
    refine Cd.region ?_
    refine Ops.mv_int rfl rfl rfl ?_
    refine Ops.nil ?_
    refine thenQ_n ?_
    refine Cd.block ?_
    refine Cd.loop (α := Nat × (Option Addr × Nat)) (fun z => [(2, .pointer A2), (6, .slice A6 F.length c6), (7, .slice A7 Vs.length c7), (12, .pointer A12), (13, .int .i64 (k : Int)), (14, .slice z.2.1 z.1 z.2.2), (15, .int .i64 (z.1 : Int))])
      (fun z w' => z.1 ≤ (gl F (k : Int)).length ∧ St w w' (CkI 2 z.2.1 z.1 z.2.2 (((gl F (k : Int)).take z.1).map (ix Vs)) :: ([Bx 27 2 A12 [.int .i64 (Vs.length : Int), .slice A13 k c13], CkI 2 A7 Vs.length c7 Vs, CkR 25 A6 F.length c6 rs6, cxZ A2, CkR 25 A13 k c13 rs13] ++ rowsCk 2 rs13 ((F.take k).map (List.map (ix Vs)))))) (fun z => (gl F (k : Int)).length - z.1) (0, (A14, 0)) ⟨rfl, rfl, rfl, rfl, rfl, rfl, rfl, trivial⟩ ⟨Nat.zero_le _, hS7⟩ ?_
    clear hS7
    rintro ⟨j, A14, c14⟩ e w7 ⟨hj, hS7⟩
    dsimp only at hj hS7 ⊢
    have hF7 : RowsI w7 A6 F.length rs6 F := (hW6.later hS7.below).I (hS7.rdR 3 rfl)
    have hrk := hF7.at_ (i := (k : Int)) (by omega) (by omega)
    have hrkl := hrk.1
    refine Cd.seq ?_
    refine Cd.seq ?_
    refine Cd.region ?_
    refine Ops.mv_int rfl rfl rfl ?_
    refine Ops.mv_sl rfl rfl rfl ?_
    refine Ops.mv_int rfl rfl rfl ?_
    refine Ops.idx hF7.top.2 rfl rfl rfl (by omega) (by omega) ?_
    refine Ops.ld_sl hF7.top rfl (by omega) rfl rfl ?_
    refine Ops.len rfl rfl ?_
    refine Ops.lss rfl rfl rfl ?_
    refine Ops.nil ?_
    refine thenQ_n ?_
    refine Cd.cond_p _ rfl (fun h2 => ?_) (fun h2 => ?_)
    · have hjl : j < (gl F (k : Int)).length := by omega
      have hxv : gi (gl F (k : Int)) (j : Int) ∈ Vs := hgv _ (by rw [gi_mem hjl]; exact List.getElem_mem _)
      refine Cd.skip ?_
      refine thenQ_n ?_
      refine Cd.seq ?_
      refine Cd.block ?_
      refine Cd.region ?_
      refine Ops.mv_sl rfl rfl rfl ?_
      refine Ops.mv_sl rfl rfl rfl ?_
      refine Ops.mv_sl rfl rfl rfl ?_
      refine Ops.mv_int rfl rfl rfl ?_
      refine Ops.idx hF7.top.2 rfl rfl rfl (by omega) (by omega) ?_
      refine Ops.ld_sl hF7.top rfl (by omega) rfl rfl ?_
      refine Ops.mv_int rfl rfl rfl ?_
      refine Ops.idx hrk.2 rfl rfl rfl (by omega) (by omega) ?_
      refine Ops.ld_int hrk rfl (by omega) rfl rfl ?_
      refine Ops.call (l01IndexX_c A7 Vs.length c7 Vs _ _ (hS7.rdI 2 rfl) (by omega) hVS hxv) rfl rfl rfl ?_
      rintro _ _ ⟨rfl, rfl⟩
      refine Ops.bs1I hS7 rfl rfl rfl ?_
      intro A15 w8 hS8
      refine Ops.appI 1 hS8 rfl (hS8.rdI 0 rfl) rfl rfl rfl (by omega) (by omega) rfl ?_
      intro A16 c16 w9 hS9
      have hS9 := hS9.tail
      refine Ops.mv_sl rfl rfl rfl ?_
      refine Ops.nil ?_
      refine blockQ_n ?_
      refine thenQ_n ?_
      refine Cd.region ?_
      refine Ops.mv_int rfl rfl rfl ?_
      refine Ops.add rfl rfl rfl (by omega) ?_
      refine Ops.mv_int rfl rfl rfl ?_
      refine Ops.nil ?_
      refine thenQ_n ?_
      refine ⟨(j + 1, (A16, c16)), by show (gl F (k : Int)).length - (j + 1) < (gl F (k : Int)).length - j; omega, ⟨rfl, rfl, rfl, rfl, rfl, rfl, rfl, trivial⟩, by show j + 1 ≤ _; omega, ?_⟩
      show St w w9 (CkI 2 A16 (j + 1) c16 (((gl F (k : Int)).take (j + 1)).map (ix Vs)) :: _)
      rw [take_succ_gi hjl, List.map_append]
      exact hS9
    · have hjl : j = (gl F (k : Int)).length := by omega
      rw [hjl, List.take_length] at hS7
      rw [hjl]
      refine Cd.exit ?_
      refine thenQ_x ?_
      refine thenQ_x ?_
      refine blockQ_x ?_
      refine thenQ_n ?_
      refine Cd.seq ?_
      refine Cd.seq ?_
      refine Cd.region ?_
      refine Ops.mv_sl rfl rfl rfl ?_
      refine Ops.len rfl rfl ?_
      refine Ops.gtr rfl rfl rfl ?_
      refine Ops.nil ?_
      refine thenQ_n ?_
      refine Cd.cond_p _ rfl (fun h3 => ?_) (fun h3 => ?_)
      · have hb : CxBad ls := hbad.2 (.inl ⟨_, hgF, by omega⟩)
        unfold cxV cxL cxK
        rw [if_pos hb, if_pos hb, if_pos hb]
        refine Cd.seq ?_
        refine Cd.region ?_
        refine Ops.bldZ2 (by exact inferInstance) (by exact inferInstance) rfl rfl rfl ?_
        refine Ops.st_agg 2 4 hS7 rfl rfl rfl rfl rfl rfl rfl ?_
        intro w8 hS8
        refine Ops.mv_int rfl rfl rfl ?_
        refine Ops.nil ?_
        refine thenQ_n ?_
        refine Cd.ret ?_
        refine thenQ_r ?_
        refine blockQ_r ?_
        refine thenQ_r ?_
        refine thenQ_r ?_
        refine blockQ_r ?_
        refine thenQ_r ?_
        skip
        refine retc2_r rfl (hS8.rd 4 rfl) rfl ?_
        exact AnsC.none hS8
      · refine Cd.skip ?_
        refine thenQ_n ?_
        refine Cd.region ?_
        refine Ops.fld (hS7.rd 1 rfl) rfl rfl rfl rfl inferInstance ?_
        refine Ops.ldf_s (hS7.rd 1 rfl) rfl rfl rfl rfl rfl ?_
        refine Ops.mv_sl rfl rfl rfl ?_
        refine Ops.bs1R hS7 rfl rfl rfl ?_
        intro A15 w8 hS8
        refine Ops.appR 6 hS8 rfl (hS8.rdR 0 rfl) rfl rfl rfl (by omega) (by omega) rfl ?_
        intro A16 c16 w9 hS9
        have hS9 : St w w9 (CkI 2 A14 (gl F (k : Int)).length c14 ((gl F (k : Int)).map (ix Vs)) :: ([Bx 27 2 A12 [.int .i64 (Vs.length : Int), .slice A13 k c13], CkI 2 A7 Vs.length c7 Vs, CkR 25 A6 F.length c6 rs6, cxZ A2, CkR 25 A16 (k + 1) c16 (rs13 ++ [⟨A14, (gl F (k : Int)).length, c14⟩])] ++ rowsCk 2 rs13 ((F.take k).map (List.map (ix Vs))))) := hS9.tail
        skip
        refine Ops.fld (hS9.rd 1 rfl) rfl rfl rfl rfl inferInstance ?_
        refine Ops.stf 1 hS9 rfl rfl rfl rfl rfl ?_
        intro w10 hS10
        have hS10 : St w w10 (CkI 2 A14 (gl F (k : Int)).length c14 ((gl F (k : Int)).map (ix Vs)) :: ([Bx 27 2 A12 [.int .i64 (Vs.length : Int), .slice A16 (k + 1) c16], CkI 2 A7 Vs.length c7 Vs, CkR 25 A6 F.length c6 rs6, cxZ A2, CkR 25 A16 (k + 1) c16 (rs13 ++ [⟨A14, (gl F (k : Int)).length, c14⟩])] ++ rowsCk 2 rs13 ((F.take k).map (List.map (ix Vs))))) := hS10
        refine Ops.nil ?_
        refine blockQ_n ?_
        refine thenQ_n ?_
        refine Cd.region ?_
        refine Ops.mv_int rfl rfl rfl ?_
        refine Ops.add rfl rfl rfl (by omega) ?_
        refine Ops.mv_int rfl rfl rfl ?_
        refine Ops.nil ?_
        refine thenQ_n ?_
        refine ⟨(k + 1, (A16, c16), rs13 ++ [⟨A14, (gl F (k : Int)).length, c14⟩]), by show F.length - (k + 1) < F.length - k; omega, ⟨rfl, rfl, rfl, rfl, rfl, trivial⟩, by show k + 1 ≤ F.length; omega, ?_, by show (rs13 ++ [_]).length = k + 1; simp; omega, ?_⟩
        · show ∀ l ∈ F.take (k + 1), l.length ≤ 6
          rw [take_succ_gl hkF]
          intro l hl
          rcases List.mem_append.1 hl with hl | hl
          · exact h6 l hl
          · obtain rfl : l = gl F (k : Int) := by simpa using hl
            omega
        · show St w w10 ([Bx 27 2 A12 [.int .i64 (Vs.length : Int), .slice A16 (k + 1) c16], CkI 2 A7 Vs.length c7 Vs, CkR 25 A6 F.length c6 rs6, cxZ A2, CkR 25 A16 (k + 1) c16 (rs13 ++ [⟨A14, (gl F (k : Int)).length, c14⟩])] ++ rowsCk 2 (rs13 ++ [⟨A14, (gl F (k : Int)).length, c14⟩]) ((F.take (k + 1)).map (List.map (ix Vs))))
          rw [take_succ_gl hkF, List.map_append, rowsCk_append (by rw [hrl13]; simp; omega), ← List.append_assoc]
          exact hS10.perm (List.perm_append_comm (l₁ := [CkI 2 A14 (gl F (k : Int)).length c14 ((gl F (k : Int)).map (ix Vs))]))
  · have hkF : k = F.length := by omega
    subst hkF
    rw [List.take_length] at hS6 h6
    refine Cd.exit ?_
    refine thenQ_x ?_
    refine thenQ_x ?_
    refine blockQ_x ?_
    refine thenQ_n ?_
    refine Cd.seq ?_
    refine Cd.seq ?_
    refine Cd.region ?_
    refine Ops.mv_sl rfl rfl rfl ?_
    refine Ops.len rfl rfl ?_
    refine Ops.gtr rfl rfl rfl ?_
    refine Ops.mv_bool rfl rfl rfl ?_
    refine Ops.split_p 137 rfl (fun h2 => ?_) (fun h2 => ?_)
    · have hb : CxBad ls := hbad.2 (.inr (.inl (by omega)))
      unfold cxV cxL cxK
      rw [if_pos hb, if_pos hb, if_pos hb]
      refine Ops.skipg rfl rfl rfl rfl rfl ?_
      refine Ops.skipg rfl rfl rfl rfl rfl ?_
      refine Ops.skipg rfl rfl rfl rfl rfl ?_
      refine Ops.pick_t rfl rfl rfl ?_
      refine Ops.nil ?_
      refine thenQ_n ?_
      refine Cd.cond_t rfl ?_
      refine Cd.seq ?_
      refine Cd.region ?_
      refine Ops.bldZ2 (by exact inferInstance) (by exact inferInstance) rfl rfl rfl ?_
      refine Ops.st_agg 2 3 hS6 rfl rfl rfl rfl rfl rfl rfl ?_
      intro w8 hS8
      refine Ops.mv_int rfl rfl rfl ?_
      refine Ops.nil ?_
      refine thenQ_n ?_
      refine Cd.ret ?_
      refine thenQ_r ?_
      skip
      refine retc2_r rfl (hS8.rd 3 rfl) rfl ?_
      exact AnsC.none hS8
    · refine Ops.rung rfl rfl rfl ?_
      refine Ops.mv_sl rfl rfl rfl ?_
      refine Ops.rung rfl rfl rfl ?_
      refine Ops.len rfl rfl ?_
      refine Ops.rung rfl rfl rfl ?_
      refine Ops.gtr rfl rfl rfl ?_
      refine Ops.pick_f rfl rfl rfl ?_
      refine Ops.nil ?_
      refine thenQ_n ?_
      refine Cd.cond_p _ rfl (fun h3 => ?_) (fun h3 => ?_)
      · have hb : CxBad ls := hbad.2 (.inr (.inr (by omega)))
        unfold cxV cxL cxK
        rw [if_pos hb, if_pos hb, if_pos hb]
        refine Cd.seq ?_
        refine Cd.region ?_
        refine Ops.bldZ2 (by exact inferInstance) (by exact inferInstance) rfl rfl rfl ?_
        refine Ops.st_agg 2 3 hS6 rfl rfl rfl rfl rfl rfl rfl ?_
        intro w8 hS8
        refine Ops.mv_int rfl rfl rfl ?_
        refine Ops.nil ?_
        refine thenQ_n ?_
        refine Cd.ret ?_
        refine thenQ_r ?_
        skip
        refine retc2_r rfl (hS8.rd 3 rfl) rfl ?_
        exact AnsC.none hS8
      · have hok : ¬ CxBad ls := fun h => by
          rcases hbad.1 h with ⟨l, hl, h⟩ | h | h
          · have := h6 l hl; omega
          · omega
          · omega
        unfold cxV cxL cxK
        rw [if_neg hok, if_neg hok, if_neg hok, hcxF, hVe]
        refine Cd.skip ?_
        refine thenQ_n ?_
        refine Cd.seq ?_
        refine Cd.region ?_
        refine Ops.ld_agg 1 (hS6.rd 0 rfl) rfl rfl rfl ?_
        refine Ops.st_agg 2 3 hS6 rfl rfl rfl rfl rfl rfl rfl ?_
        intro w8 hS8
        have hS9 : St w w8 (mat 25 2 A13 (F.map (List.map (ix Vs))).length c13 rs13 (F.map (List.map (ix Vs))) ++ []) := by
          rw [List.append_nil, List.length_map]
          exact hS8.sub (List.Sublist.cons _ (List.Sublist.cons _ (List.Sublist.cons _ (List.sublist_cons_self _ _))))
        refine Ops.mv_int rfl rfl rfl ?_
        refine Ops.nil ?_
        refine thenQ_n ?_
        refine Cd.ret ?_
        skip
        refine retc2_r rfl (hS8.rd 3 rfl) rfl ?_
        exact ⟨A13, c13, rs13, by rw [List.length_map]; rfl, by rw [List.length_map]; exact hrl13, hS9⟩
end Go.Proofs.YtdedegbendjmbaaGreatDoor.Vc
/-
  The walk of the law FnExactPartsOf: it returns true. Conditions: as it states them.
-/
namespace Go.Proofs.YtdedegbendjmbaaGreatDoor.Vc
open Go.RowKit

end Go.Proofs.YtdedegbendjmbaaGreatDoor.Vc
/-
  GirthOf on both sides, and the walk of its law. Conditions: the library's table of powers of ten holds what the program's text lays there.
-/
namespace Go.Proofs.YtdedegbendjmbaaGreatDoor.Vc
open Go.RowKit

theorem l17Without_c (A : Option Addr) (n c : Nat) (a : List Int) (A' : Option Addr) (n' c' : Nat) (b : List Int) (w : World) (hA : RdI w A n a) (hB : RdI w A' n' b) (hn : n ≤ 1000000000) (hn' : n' ≤ 9223372036854775807) :
    Ret Tryz.prog 96 [.slice A n c, .slice A' n' c'] w (fun v w' => ∃ A2 c2, v = .slice A2 (lessL a b).length c2 ∧ St w w' [CkI 2 A2 (lessL a b).length c2 (lessL a b)]) := by
  have hal := hA.1
  refine Ret.of_cd Tryz.func96 rfl Tryz.ntmps96 rfl (post1 rfl) ?_
  refine Cd.seq ?_
  refine Cd.region ?_
  refine Ops.mv_sl rfl rfl rfl ?_
  refine Ops.nil ?_
  refine thenQ_n ?_
  refine Cd.seq ?_
  refine Cd.region ?_
  refine Ops.bs0 (St.refl w) rfl ?_
  intro A7 w1 hS1
  have hS1 : St w w1 [CkI 2 A7 (lessL (a.take 0) b).length 0 (lessL (a.take 0) b)] := hS1
  refine Ops.mv_sl rfl rfl rfl ?_
  refine Ops.nil ?_
  refine thenQ_n ?_
  refine Cd.seq ?_
  refine Cd.seq ?_
  refine Cd.region ?_
  refine Ops.mv_int rfl rfl rfl ?_
  refine Ops.nil ?_
  refine thenQ_n ?_
  refine Cd.block ?_
  refine Cd.loop (α := Nat × Option Addr × Nat) (fun s => [(0, .slice A n c), (1, .slice A' n' c'), (5, .slice s.2.1 (lessL (a.take s.1) b).length s.2.2), (6, .int .i64 (s.1 : Int))]) (fun s w' => St w w' [CkI 2 s.2.1 (lessL (a.take s.1) b).length s.2.2 (lessL (a.take s.1) b)] ∧ s.1 ≤ n) (fun s => n - s.1) (0, A7, 0) ⟨rfl, rfl, rfl, rfl, trivial⟩ ⟨hS1, Nat.zero_le _⟩ ?_
  rintro ⟨i, A3, c3⟩ e w2 ⟨hS2, hi⟩
  dsimp only at hS2 hi ⊢
  refine Cd.seq ?_
  refine Cd.seq ?_
  refine Cd.region ?_
  refine Ops.mv_int rfl rfl rfl ?_
  refine Ops.mv_sl rfl rfl rfl ?_
  refine Ops.len rfl rfl ?_
  refine Ops.lss rfl rfl rfl ?_
  refine Ops.nil ?_
  refine thenQ_n ?_
  refine Cd.cond_p _ rfl (fun h1 => ?_) (fun h1 => ?_)
  · have hi' : i < a.length := by omega
    have hR2 := hS2.oldI hA
    have hll : (lessL (a.take i) b).length ≤ i := by
      have := List.length_filter_le (fun x => !decide (x ∈ b)) (a.take i)
      rw [List.length_take] at this
      unfold lessL
      omega
    have htk : lessL (a.take (i + 1)) b = lessL (a.take i) b ++ (if gi a (i : Int) ∈ b then [] else [gi a (i : Int)]) := by
      unfold lessL
      rw [take_succ_gi hi', List.filter_append]
      congr 1
      by_cases h : gi a (i : Int) ∈ b <;> simp [h]
    refine Cd.skip ?_
    refine thenQ_n ?_
    refine Cd.seq ?_
    refine Cd.block ?_
    refine Cd.seq ?_
    refine Cd.region ?_
    refine Ops.mv_sl rfl rfl rfl ?_
    refine Ops.mv_sl rfl rfl rfl ?_
    refine Ops.mv_int rfl rfl rfl ?_
    refine Ops.idx hR2.2 rfl rfl rfl (by omega) (by omega) ?_
    refine Ops.ld_int hR2 rfl (by omega) rfl rfl ?_
    refine Ops.call (l01Has_c A' n' c' b _ _ (hS2.oldI hB) hn') rfl rfl rfl ?_
    rintro _ w2 ⟨rfl, rfl⟩
    first | refine Ops.not_p rfl rfl ?_ | refine Ops.not rfl rfl ?_
    refine Ops.nil ?_
    refine thenQ_n ?_
    refine Cd.cond_p _ rfl (fun h2 => ?_) (fun h2 => ?_)
    · refine Cd.region ?_
      refine Ops.mv_sl rfl rfl rfl ?_
      refine Ops.mv_sl rfl rfl rfl ?_
      refine Ops.mv_int rfl rfl rfl ?_
      refine Ops.idx hR2.2 rfl rfl rfl (by omega) (by omega) ?_
      refine Ops.ld_int hR2 rfl (by omega) rfl rfl ?_
      refine Ops.bs1I hS2 rfl rfl rfl ?_
      intro A8 w3 hS3
      refine Ops.appI 1 hS3 rfl (hS3.rdI 0 rfl) rfl rfl rfl (by omega) (by omega) rfl ?_
      intro A9 c9 w4 hS4
      rw [if_neg h2] at htk
      have e1 : (lessL (a.take i) b ++ [gi a (i : Int)]).length = (lessL (a.take i) b).length + 1 := by simp
      refine Ops.mv_sl rfl rfl rfl ?_
      refine Ops.nil ?_
      refine blockQ_n ?_
      refine thenQ_n ?_
      refine Cd.region ?_
      refine Ops.mv_int rfl rfl rfl ?_
      refine Ops.add rfl rfl rfl (by omega) ?_
      refine Ops.mv_int rfl rfl rfl ?_
      refine Ops.nil ?_
      refine thenQ_n ?_
      refine ⟨(i + 1, A9, c9), by show n - (i + 1) < n - i; omega, ⟨rfl, rfl, by show Value.slice _ _ _ = .slice _ _ _; rw [htk, e1], rfl, trivial⟩, ?_, by show i + 1 ≤ n; omega⟩
      show St w w4 [CkI _ A9 (lessL (a.take (i + 1)) b).length c9 (lessL (a.take (i + 1)) b)]
      rw [htk, e1]
      exact hS4.tail
    · rw [if_pos (Classical.not_not.1 h2), List.append_nil] at htk
      refine Cd.skip ?_
      refine blockQ_n ?_
      refine thenQ_n ?_
      refine Cd.region ?_
      refine Ops.mv_int rfl rfl rfl ?_
      refine Ops.add rfl rfl rfl (by omega) ?_
      refine Ops.mv_int rfl rfl rfl ?_
      refine Ops.nil ?_
      refine thenQ_n ?_
      refine ⟨(i + 1, A3, c3), by show n - (i + 1) < n - i; omega, ⟨rfl, rfl, by show Value.slice _ _ _ = .slice _ _ _; rw [htk], rfl, trivial⟩, ?_, by show i + 1 ≤ n; omega⟩
      show St w w2 [CkI _ A3 (lessL (a.take (i + 1)) b).length c3 (lessL (a.take (i + 1)) b)]
      rw [htk]
      exact hS2
  · have hie : a.take i = a := List.take_of_length_le (by omega)
    rw [hie] at hS2
    refine Cd.exit ?_
    refine thenQ_x ?_
    refine thenQ_x ?_
    refine blockQ_x ?_
    refine thenQ_n ?_
    refine Cd.seq ?_
    refine Cd.region ?_
    refine Ops.mv_sl rfl rfl rfl ?_
    refine Ops.mv_sl rfl rfl rfl ?_
    refine Ops.nil ?_
    refine thenQ_n ?_
    refine Cd.ret ?_
    refine ret1_s rfl ?_
    rw [hie]
    exact ⟨A3, c3, rfl, hS2⟩

def encS (g : Int) : Int := if g = 0 then -1 else g
end Go.Proofs.YtdedegbendjmbaaGreatDoor.Vc
/-
  The link of a face on both sides, walked. Conditions: as each states them.
-/
namespace Go.Proofs.YtdedegbendjmbaaGreatDoor.Vc
open Go.RowKit

def Fce (F : List (List Int)) (face : List Int) : Prop := SA face ∧ (face = [] ∨ ∃ f ∈ F, Ins face f)
instance (F : List (List Int)) (face : List Int) : Decidable (Fce F face) := by unfold Fce; exact inferInstance
def lnkL (F : List (List Int)) (face : List Int) : List (List Int) := (F.filter fun f => decide (Ins face f)).map fun f => lessL f face
def lkV (V : Int) (F : List (List Int)) (face : List Int) : Int := if Cplx V F ∧ Fce F face then cxV (lnkL F face) else 0
def lkL (V : Int) (F : List (List Int)) (face : List Int) : List (List Int) := if Cplx V F ∧ Fce F face then cxL (lnkL F face) else []
def lkK (V : Int) (F : List (List Int)) (face : List Int) : Int := if Cplx V F then (if Fce F face then cxK (lnkL F face) else 2) else 1
theorem lnkL_succ {F : List (List Int)} {face : List Int} {i : Nat} (h : i < F.length) : lnkL (F.take (i + 1)) face = if Ins face (gl F (i : Int)) then lnkL (F.take i) face ++ [lessL (gl F (i : Int)) face] else lnkL (F.take i) face := by
  unfold lnkL
  rw [take_succ_gl h, List.filter_append, List.map_append]
  by_cases e : Ins face (gl F (i : Int)) <;> simp [e]
theorem lessL_SA {l b : List Int} (h : SA l) : SA (lessL l b) := List.Pairwise.filter _ h
theorem lessL_len (l b : List Int) : (lessL l b).length ≤ l.length := List.length_filter_le _ _
theorem lnkL_mem {F : List (List Int)} {face x : List Int} (h : x ∈ lnkL F face) : ∃ f ∈ F, x = lessL f face := by
  obtain ⟨f, hf, rfl⟩ := List.mem_map.1 h
  exact ⟨f, (List.mem_filter.1 hf).1, rfl⟩
theorem lnkL_len (F : List (List Int)) (face : List Int) : (lnkL F face).length ≤ F.length := by
  unfold lnkL; rw [List.length_map]; exact List.length_filter_le _ _
theorem flat_le2 {ss : List (List Int)} {b : Nat} (h : ∀ l ∈ ss, l.length ≤ b) : ss.flatten.length ≤ b * ss.length := by
  induction ss with
  | nil => simp
  | cons a r ih =>
    have h1 := h a (by simp)
    have h2 := ih fun l hl => h l (by simp [hl])
    simp only [List.flatten_cons, List.length_append, List.length_cons, Nat.mul_add, Nat.mul_one]
    omega
theorem Cplx.lnk {V : Int} {F : List (List Int)} (h : Cplx V F) (face : List Int) : (lnkL F face).length ≤ 400 ∧ (∀ l ∈ lnkL F face, SA l ∧ l.length ≤ 6) ∧ (lnkL F face).flatten.length ≤ 2400 := by
  have h1 : (lnkL F face).length ≤ 400 := Nat.le_trans (lnkL_len F face) h.f
  have h2 : ∀ l ∈ lnkL F face, SA l ∧ l.length ≤ 6 := fun l hl => by
    obtain ⟨f, hf, rfl⟩ := lnkL_mem hl
    exact ⟨lessL_SA (h.row f hf).2.1, Nat.le_trans (lessL_len _ _) (h.row f hf).1.2⟩
  refine ⟨h1, h2, ?_⟩
  have := flat_le2 (b := 6) fun l hl => (h2 l hl).2
  omega
theorem map_cs_id {L : List (List Int)} (h : ∀ l ∈ L, SA l) : L.map cs = L := by
  induction L with
  | nil => rfl
  | cons a r ih => rw [List.map_cons, ih fun l hl => h l (by simp [hl]), ← cs_eq (h a (by simp)) fun _ => Iff.rfl]

theorem indexRF_c (A : Option Addr) (n c : Nat) (rs : List SlV) (G : FuncId) [hF : Fnc Tryz.prog G] (cv : List Value) (pd : Nat → Bool) (w : World) (hR : RdR w A n rs) (hn : n ≤ 4000000000000)
    (hcall : ∀ (w' : World) (i : Nat), Below w.heap.size w w' → i < n → Ret Tryz.prog G (.slice (rg rs (i : Int)).a (rg rs (i : Int)).n (rg rs (i : Int)).c :: cv) w' (fun v w'' => v = .bool (pd i) ∧ St w' w'' [])) :
    Ret Tryz.prog 154 [.slice A n c, .func (.func G) #[] cv.toArray] w (fun v w' => (∃ i : Int, v = .int .i64 i ∧ (0 ≤ i ↔ ∃ j, j < n ∧ pd j = true)) ∧ St w w' []) := by
  have hxl := hR.1
  refine Ret.of_cd Tryz.func154 rfl Tryz.ntmps154 rfl (post1 rfl) ?_
  refine Cd.seq ?_
  refine Cd.region ?_
  refine Ops.mv_int rfl rfl rfl ?_
  refine Ops.nil ?_
  refine thenQ_n ?_
  refine Cd.seq ?_
  refine Cd.seq ?_
  refine Cd.region ?_
  refine Ops.mv_sl rfl rfl rfl ?_
  refine Ops.len rfl rfl ?_
  refine Ops.mv_int rfl rfl rfl ?_
  refine Ops.nil ?_
  refine thenQ_n ?_
  refine Cd.block ?_
  refine Cd.loop (α := Nat) (fun k => [(0, .slice A n c), (1, .func (.func G) #[] cv.toArray), (7, .int .i64 (n : Int)), (8, .int .i64 (k : Int))]) (fun k w' => St w w' [] ∧ k ≤ n ∧ ∀ j, j < k → pd j = false) (fun k => n - k) 0 ⟨rfl, rfl, rfl, rfl, trivial⟩ ⟨St.refl w, Nat.zero_le _, fun j hj => by omega⟩ ?_
  rintro k e w1 ⟨hS, hk, hK⟩
  refine Cd.seq ?_
  refine Cd.region ?_
  refine Ops.lss rfl rfl rfl ?_
  refine Ops.nil ?_
  refine thenQ_n ?_
  refine Cd.seq ?_
  refine Cd.cond_p _ rfl (fun h3 => ?_) (fun h3 => ?_)
  · have hR1 := hS.oldR hR
    refine Cd.skip ?_
    refine thenQ_n ?_
    refine Cd.seq ?_
    refine Cd.block ?_
    refine Cd.seq ?_
    refine Cd.region ?_
    refine Ops.mv_int rfl rfl rfl ?_
    refine Ops.mv_int rfl rfl rfl ?_
    refine Ops.nil ?_
    refine thenQ_n ?_
    refine Cd.seq ?_
    refine Cd.region ?_
    refine Ops.mv_fn rfl rfl rfl ?_
    refine Ops.mv_sl rfl rfl rfl ?_
    refine Ops.mv_int rfl rfl rfl ?_
    refine Ops.idx hR1.2 rfl rfl rfl (by omega) (by omega) ?_
    refine Ops.ld_sl hR1 rfl (by omega) rfl rfl ?_
    refine Ops.call (hcall w1 k hS.below (by omega)) rfl rfl rfl ?_
    rintro _ w2 ⟨rfl, hst⟩
    refine Ops.nil ?_
    refine thenQ_n ?_
    refine Cd.cond rfl (fun h4 => ?_) (fun h4 => ?_)
    · refine Cd.seq ?_
      refine Cd.region ?_
      refine Ops.mv_int rfl rfl rfl ?_
      refine Ops.mv_int rfl rfl rfl ?_
      refine Ops.nil ?_
      refine thenQ_n ?_
      refine Cd.ret ?_
      refine blockQ_r ?_
      refine thenQ_r ?_
      refine thenQ_r ?_
      refine blockQ_r ?_
      refine thenQ_r ?_
      refine ret1_i rfl ?_
      exact ⟨⟨(k : Int), rfl, ⟨fun _ => ⟨k, by omega, h4⟩, fun _ => by omega⟩⟩, hS.later hst.below⟩
    · refine Cd.skip ?_
      refine blockQ_n ?_
      refine thenQ_n ?_
      refine Cd.region ?_
      refine Ops.add rfl rfl rfl (by omega) ?_
      refine Ops.mv_int rfl rfl rfl ?_
      refine Ops.nil ?_
      refine thenQ_n ?_
      refine ⟨k + 1, by show n - (k + 1) < n - k; omega, ⟨rfl, rfl, rfl, rfl, trivial⟩, hS.later hst.below, by omega, fun j hj => ?_⟩
      by_cases ej : j = k
      · subst ej; exact h4
      · exact hK j (by omega)
  · refine Cd.exit ?_
    refine thenQ_x ?_
    refine thenQ_x ?_
    refine blockQ_x ?_
    refine thenQ_n ?_
    refine Cd.seq ?_
    refine Cd.region ?_
    refine Ops.mv_int rfl rfl rfl ?_
    refine Ops.nil ?_
    refine thenQ_n ?_
    refine Cd.ret ?_
    refine ret1_i rfl ?_
    refine ⟨⟨-1, rfl, ⟨fun h => absurd h (by decide), fun ⟨j, hj, hp⟩ => ?_⟩⟩, hS⟩
    rw [hK j (by omega)] at hp
    cases hp
theorem containsRF_c (A : Option Addr) (n c : Nat) (rs : List SlV) (G : FuncId) [hF : Fnc Tryz.prog G] (cv : List Value) (pd : Nat → Bool) (w : World) (hR : RdR w A n rs) (hn : n ≤ 4000000000000)
    (hcall : ∀ (w' : World) (i : Nat), Below w.heap.size w w' → i < n → Ret Tryz.prog G (.slice (rg rs (i : Int)).a (rg rs (i : Int)).n (rg rs (i : Int)).c :: cv) w' (fun v w'' => v = .bool (pd i) ∧ St w' w'' [])) :
    Ret Tryz.prog 120 [.slice A n c, .func (.func G) #[] cv.toArray] w (fun v w' => v = .bool (decide (∃ j, j < n ∧ pd j = true)) ∧ St w w' []) := by
  refine Ret.of_cd Tryz.func120 rfl Tryz.ntmps120 rfl (post1 rfl) ?_
  refine Cd.seq ?_
  refine Cd.region ?_
  refine Ops.mv_bool rfl rfl rfl ?_
  refine Ops.nil ?_
  refine thenQ_n ?_
  refine Cd.seq ?_
  refine Cd.region ?_
  refine Ops.mv_sl rfl rfl rfl ?_
  refine Ops.mv_fn rfl rfl rfl ?_
  refine Ops.call (indexRF_c A n c rs G cv pd w hR hn hcall) rfl rfl rfl ?_
  rintro _ w2 ⟨⟨i, rfl, hi⟩, hS2⟩
  refine Ops.geq rfl rfl rfl ?_
  refine Ops.mv_bool rfl rfl rfl ?_
  refine Ops.nil ?_
  refine thenQ_n ?_
  refine Cd.ret ?_
  refine ret1_b rfl ?_
  exact ⟨congrArg Value.bool (decide_eq_decide.2 hi), hS2⟩
theorem hasFace1_c (A : Option Addr) (n c : Nat) (f : List Int) (P3 B : Option Addr) (m d : Nat) (face : List Int) (w : World) (hP : Rd w P3 1 (fun _ => .slice B m d)) (hB : RdI w B m face) (hR : RdI w A n f) (hm : m ≤ 1000000000) (hn : n ≤ 9223372036854775807) :
    Ret Tryz.prog 121 [.slice A n c, .pointer P3] w (fun v w' => v = .bool (decide (Ins face f)) ∧ St w w' []) := by
  refine Ret.of_cd Tryz.func121 rfl Tryz.ntmps121 rfl (post1 rfl) ?_
  refine Cd.seq ?_
  refine Cd.region ?_
  refine Ops.mv_bool rfl rfl rfl ?_
  refine Ops.nil ?_
  refine thenQ_n ?_
  refine Cd.seq ?_
  refine Cd.region ?_
  refine Ops.ld hP (j := 0) (by exact congrArg Value.pointer (ptrAt_zero P3).symm) (by omega) rfl rfl rfl ?_
  refine Ops.mv_sl rfl rfl rfl ?_
  refine Ops.call (isPart_c B m d face A n c f _ hB hR hm hn) rfl rfl rfl ?_
  rintro _ w2 ⟨rfl, hst⟩
  refine Ops.mv_bool rfl rfl rfl ?_
  refine Ops.nil ?_
  refine thenQ_n ?_
  refine Cd.ret ?_
  refine ret1_b rfl ?_
  exact ⟨rfl, hst⟩
theorem hasFace_c (Pc : Option Addr) (V : Int) (A : Option Addr) (n c : Nat) (rs : List SlV) (F : List (List Int)) (B : Option Addr) (m d : Nat) (face : List Int) (w : World) (hP : Rd w Pc 2 (fun j => [Value.int .i64 V, .slice A n c].getD j undef)) (hR : RowsI w A n rs F) (hB : RdI w B m face) (hn : n ≤ 1000000) (hm : m ≤ 1000000000) :
    Ret Tryz.prog 69 [.pointer Pc, .slice B m d] w (fun v w' => v = .bool (decide (Fce F face)) ∧ St w w' []) := by
  have hbl := hB.1
  have hFl := hR.len
  refine Ret.of_cd Tryz.func69 rfl Tryz.ntmps69 rfl (post1 rfl) ?_
  refine Cd.seq ?_
  refine Cd.region ?_
  refine Ops.box (v := .slice B m d) (St.refl w) rfl rfl (by show (1 : Nat) ≤ maxLen; simp [maxLen]) ?_
  intro P3 w1 hS1
  have hS1 : St w w1 [⟨P3, 1, 1, 25, [.slice B m d]⟩] := hS1
  refine Ops.mv_bool rfl rfl rfl ?_
  refine Ops.nil ?_
  refine thenQ_n ?_
  refine Cd.seq ?_
  refine Cd.seq ?_
  refine Cd.region ?_
  refine Ops.mv_int rfl rfl rfl ?_
  refine Ops.nil ?_
  refine thenQ_n ?_
  refine Cd.block ?_
  refine Cd.loop (α := Nat) (fun k => [(0, .pointer Pc), (3, .pointer P3), (5, .int .i64 (k : Int))]) (fun k w' => 1 ≤ k ∧ SA (face.take k) ∧ k ≤ m + 1 ∧ St w w' [⟨P3, 1, 1, 25, [.slice B m d]⟩]) (fun k => m + 1 - k) 1 ⟨rfl, rfl, rfl, trivial⟩ ⟨Nat.le_refl _, by cases face <;> simp [SA], by omega, hS1⟩ ?_
  rintro k e w2 ⟨hk1, hA, hk, hS2⟩
  have h3 : Rd w2 P3 1 (fun _ => Value.slice B m d) := (hS2.rd 0 rfl).congr fun j hj => by obtain rfl : j = 0 := by { have : j < 1 := hj; omega }; rfl
  have hB2 := hS2.oldI hB
  refine Cd.seq ?_
  refine Cd.seq ?_
  refine Cd.region ?_
  refine Ops.mv_int rfl rfl rfl ?_
  refine Ops.ld h3 (j := 0) (by exact congrArg Value.pointer (ptrAt_zero P3).symm) (by omega) rfl rfl rfl ?_
  refine Ops.len rfl rfl ?_
  refine Ops.lss rfl rfl rfl ?_
  refine Ops.nil ?_
  refine thenQ_n ?_
  refine Cd.cond_p _ rfl (fun h1 => ?_) (fun h1 => ?_)
  · have hkl : k < face.length := by omega
    refine Cd.skip ?_
    refine thenQ_n ?_
    refine Cd.seq ?_
    refine Cd.block ?_
    refine Cd.seq ?_
    by_cases h2 : gi face (k : Int) ≤ gi face ((k : Int) - 1)
    · --dup 2
      refine Cd.draw [.ex (.slice (B) (m) (d)), .ex (.int .i64 ((k : Int))), .ex (.int .i64 (((k : Int)) - ((1 : Int)))), .ex (.pointer (ptrAt (B) (((k : Int)) - ((1 : Int))).toNat)), .ex (.int .i64 (gi (face) (((k : Int)) - ((1 : Int))))), .ex (.slice (B) (m) (d)), .ex (.int .i64 ((k : Int))), .ex (.pointer (ptrAt (B) ((k : Int)).toNat)), .ex (.int .i64 (gi (face) ((k : Int)))), .ex (.bool (true))] (by kernel_rfl) (by kernel_rfl) rfl (List.forall_mem_cons.2 ⟨Yd.lasts_ex _, (List.forall_mem_cons.2 ⟨Yd.lasts_ex _, (List.forall_mem_cons.2 ⟨Yd.lasts_ex _, (List.forall_mem_cons.2 ⟨Yd.lasts_ex _, (List.forall_mem_cons.2 ⟨Yd.lasts_ex _, (List.forall_mem_cons.2 ⟨Yd.lasts_ex _, (List.forall_mem_cons.2 ⟨Yd.lasts_ex _, (List.forall_mem_cons.2 ⟨Yd.lasts_ex _, (List.forall_mem_cons.2 ⟨Yd.lasts_ex _, (List.forall_mem_cons.2 ⟨Yd.lasts_ex _, (fun _ h => by cases h)⟩)⟩)⟩)⟩)⟩)⟩)⟩)⟩)⟩)⟩) ⟨?_, ?_, ?_, ?_, ?_, ?_, ?_, ?_, ?_, ?_, trivial⟩ ?_
      · intro e1 w1 hb hp hun
        refine Ops.ldf_s (j := 0) (h3.below hb) (by exact congrArg Value.pointer (ptrAt_zero _).symm) rfl rfl rfl rfl ?_
        refine Ops.nil ?_
        exact After.dn (Below.refl _ _) (by exact rfl)
      · intro e1 w1 hb hp hun
        refine Ops.mv_int rfl rfl rfl ?_
        refine Ops.nil ?_
        exact After.dn (Below.refl _ _) (by exact rfl)
      · intro e1 w1 hb hp hun
        refine Ops.sub rfl rfl rfl (by omega) ?_
        refine Ops.nil ?_
        exact After.dn (Below.refl _ _) (by exact rfl)
      · intro e1 w1 hb hp hun
        refine Ops.idx (hB2.later hb).2 rfl rfl rfl (by omega) (by omega) ?_
        refine Ops.nil ?_
        exact After.dn (Below.refl _ _) (by exact rfl)
      · intro e1 w1 hb hp hun
        refine Ops.ld_int (hB2.later hb) rfl (by omega) rfl rfl ?_
        refine Ops.nil ?_
        exact After.dn (Below.refl _ _) (by exact rfl)
      · intro e1 w1 hb hp hun
        refine Ops.ldf_s (j := 0) (h3.below hb) (by exact congrArg Value.pointer (ptrAt_zero _).symm) rfl rfl rfl rfl ?_
        refine Ops.nil ?_
        exact After.dn (Below.refl _ _) (by exact rfl)
      · intro e1 w1 hb hp hun
        refine Ops.mv_int rfl rfl rfl ?_
        refine Ops.nil ?_
        exact After.dn (Below.refl _ _) (by exact rfl)
      · intro e1 w1 hb hp hun
        refine Ops.idx (hB2.later hb).2 rfl rfl rfl (by omega) (by omega) ?_
        refine Ops.nil ?_
        exact After.dn (Below.refl _ _) (by exact rfl)
      · intro e1 w1 hb hp hun
        refine Ops.ld_int (hB2.later hb) rfl (by omega) rfl rfl ?_
        refine Ops.nil ?_
        exact After.dn (Below.refl _ _) (by exact rfl)
      · intro e1 w1 hb hp hun
        refine Ops.geq rfl rfl rfl ?_
        refine Ops.nil ?_
        exact After.dn (Below.refl _ _) (by exact congrArg Value.bool (decide_eq_true h2))
      intro u w3 hb _
      refine thenQ_n ?_
      refine Cd.cond_t rfl ?_
      refine Cd.seq ?_
      refine Cd.region ?_
      refine Ops.mv_bool rfl rfl rfl ?_
      refine Ops.nil ?_
      refine thenQ_n ?_
      refine Cd.ret ?_
      refine blockQ_r ?_
      refine thenQ_r ?_
      refine thenQ_r ?_
      refine blockQ_r ?_
      refine thenQ_r ?_
      refine ret1_b rfl ?_
      exact ⟨by rw [decide_eq_false (fun h : Fce F face => by have := h.1.step (k := k) (by omega) hkl; omega)], hS2.none.later hb⟩
    · refine Cd.draw [.ex (.slice (B) (m) (d)), .ex (.int .i64 ((k : Int))), .ex (.int .i64 (((k : Int)) - ((1 : Int)))), .ex (.pointer (ptrAt (B) (((k : Int)) - ((1 : Int))).toNat)), .ex (.int .i64 (gi (face) (((k : Int)) - ((1 : Int))))), .ex (.slice (B) (m) (d)), .ex (.int .i64 ((k : Int))), .ex (.pointer (ptrAt (B) ((k : Int)).toNat)), .ex (.int .i64 (gi (face) ((k : Int)))), .ex (.bool (false))] (by kernel_rfl) (by kernel_rfl) rfl (List.forall_mem_cons.2 ⟨Yd.lasts_ex _, (List.forall_mem_cons.2 ⟨Yd.lasts_ex _, (List.forall_mem_cons.2 ⟨Yd.lasts_ex _, (List.forall_mem_cons.2 ⟨Yd.lasts_ex _, (List.forall_mem_cons.2 ⟨Yd.lasts_ex _, (List.forall_mem_cons.2 ⟨Yd.lasts_ex _, (List.forall_mem_cons.2 ⟨Yd.lasts_ex _, (List.forall_mem_cons.2 ⟨Yd.lasts_ex _, (List.forall_mem_cons.2 ⟨Yd.lasts_ex _, (List.forall_mem_cons.2 ⟨Yd.lasts_ex _, (fun _ h => by cases h)⟩)⟩)⟩)⟩)⟩)⟩)⟩)⟩)⟩)⟩) ⟨?_, ?_, ?_, ?_, ?_, ?_, ?_, ?_, ?_, ?_, trivial⟩ ?_
      · intro e1 w1 hb hp hun
        refine Ops.ldf_s (j := 0) (h3.below hb) (by exact congrArg Value.pointer (ptrAt_zero _).symm) rfl rfl rfl rfl ?_
        refine Ops.nil ?_
        exact After.dn (Below.refl _ _) (by exact rfl)
      · intro e1 w1 hb hp hun
        refine Ops.mv_int rfl rfl rfl ?_
        refine Ops.nil ?_
        exact After.dn (Below.refl _ _) (by exact rfl)
      · intro e1 w1 hb hp hun
        refine Ops.sub rfl rfl rfl (by omega) ?_
        refine Ops.nil ?_
        exact After.dn (Below.refl _ _) (by exact rfl)
      · intro e1 w1 hb hp hun
        refine Ops.idx (hB2.later hb).2 rfl rfl rfl (by omega) (by omega) ?_
        refine Ops.nil ?_
        exact After.dn (Below.refl _ _) (by exact rfl)
      · intro e1 w1 hb hp hun
        refine Ops.ld_int (hB2.later hb) rfl (by omega) rfl rfl ?_
        refine Ops.nil ?_
        exact After.dn (Below.refl _ _) (by exact rfl)
      · intro e1 w1 hb hp hun
        refine Ops.ldf_s (j := 0) (h3.below hb) (by exact congrArg Value.pointer (ptrAt_zero _).symm) rfl rfl rfl rfl ?_
        refine Ops.nil ?_
        exact After.dn (Below.refl _ _) (by exact rfl)
      · intro e1 w1 hb hp hun
        refine Ops.mv_int rfl rfl rfl ?_
        refine Ops.nil ?_
        exact After.dn (Below.refl _ _) (by exact rfl)
      · intro e1 w1 hb hp hun
        refine Ops.idx (hB2.later hb).2 rfl rfl rfl (by omega) (by omega) ?_
        refine Ops.nil ?_
        exact After.dn (Below.refl _ _) (by exact rfl)
      · intro e1 w1 hb hp hun
        refine Ops.ld_int (hB2.later hb) rfl (by omega) rfl rfl ?_
        refine Ops.nil ?_
        exact After.dn (Below.refl _ _) (by exact rfl)
      · intro e1 w1 hb hp hun
        refine Ops.geq rfl rfl rfl ?_
        refine Ops.nil ?_
        exact After.dn (Below.refl _ _) (by exact congrArg Value.bool (decide_eq_false h2))
      intro u w3 hb _
      refine thenQ_n ?_
      refine Cd.cond_f rfl ?_
      refine Cd.skip ?_
      refine blockQ_n ?_
      refine thenQ_n ?_
      refine Cd.region ?_
      refine Ops.mv_int rfl rfl rfl ?_
      refine Ops.add rfl rfl rfl (by omega) ?_
      refine Ops.mv_int rfl rfl rfl ?_
      refine Ops.nil ?_
      refine thenQ_n ?_
      exact ⟨k + 1, by show m + 1 - (k + 1) < m + 1 - k; omega, ⟨rfl, rfl, rfl, trivial⟩, by omega, hA.snoc hkl (.inr (by omega)), by omega, hS2.later hb⟩
  · rw [List.take_of_length_le (by omega)] at hA
    refine Cd.exit ?_
    refine thenQ_x ?_
    refine thenQ_x ?_
    refine blockQ_x ?_
    refine thenQ_n ?_
    refine Cd.seq ?_
    refine Cd.region ?_
    refine Ops.ld h3 (j := 0) (by exact congrArg Value.pointer (ptrAt_zero P3).symm) (by omega) rfl rfl rfl ?_
    refine Ops.len rfl rfl ?_
    refine Ops.eql rfl rfl rfl ?_
    refine Ops.mv_bool rfl rfl rfl ?_
    refine Ops.split_p 25 rfl (fun h2 => ?_) (fun h2 => ?_)
    · have he : face = [] := List.eq_nil_of_length_eq_zero (by omega)
      refine Ops.skipg rfl rfl rfl rfl rfl ?_
      refine Ops.skipg rfl rfl rfl rfl rfl ?_
      refine Ops.skipg rfl rfl rfl rfl rfl ?_
      refine Ops.skipg rfl rfl rfl rfl rfl ?_
      refine Ops.skipg rfl rfl rfl rfl rfl ?_
      refine Ops.skipg rfl rfl rfl rfl rfl ?_
      refine Ops.pick_t rfl rfl rfl ?_
      refine Ops.mv_bool rfl rfl rfl ?_
      refine Ops.nil ?_
      refine thenQ_n ?_
      refine Cd.ret ?_
      refine ret1_b rfl ?_
      exact ⟨by rw [decide_eq_true (show Fce F face from ⟨hA, .inl he⟩)], hS2.none⟩
    · have he : ¬ face = [] := fun h => h2 (by rw [h] at hbl; simp at hbl; omega)
      refine Ops.rung rfl rfl rfl ?_
      refine Ops.mv_ptr rfl rfl rfl ?_
      refine Ops.rung rfl rfl rfl ?_
      refine Ops.nilp (hS2.old hP) (by omega) rfl rfl ?_
      refine Ops.rung rfl rfl rfl ?_
      refine Ops.fld (hS2.old hP) rfl rfl rfl rfl inferInstance ?_
      refine Ops.rung rfl rfl rfl ?_
      refine Ops.ldf_s (hS2.old hP) rfl rfl rfl rfl rfl ?_
      refine Ops.rung rfl rfl rfl ?_
      refine Ops.fn1 rfl rfl ?_
      refine Ops.rung rfl rfl rfl ?_
      have hM := hS2.oldRows hR
      refine Ops.call (containsRF_c A n c rs 121 [.pointer P3] (fun i => decide (Ins face (gl F (i : Int)))) w2 hM.top (by omega) (fun w' i hb hi => hasFace1_c _ _ _ (gl F (i : Int)) P3 B m d face w' (h3.below hb) (hB2.later hb) ((hM.later hb).at_ (i := (i : Int)) (by omega) (by omega)) hm (by have := ((hM.cap_ (i := (i : Int)) (by omega) (by omega))); omega))) rfl rfl rfl ?_
      rintro _ w3 ⟨rfl, hst⟩
      refine Ops.pick_f rfl rfl rfl ?_
      refine Ops.mv_bool rfl rfl rfl ?_
      refine Ops.nil ?_
      refine thenQ_n ?_
      refine Cd.ret ?_
      refine ret1_b rfl ?_
      refine ⟨congrArg Value.bool (decide_eq_decide.2 ?_), hS2.none.later hst.below⟩
      constructor
      · rintro ⟨j, hj, hp⟩
        exact ⟨hA, .inr ⟨_, by rw [gl_mem (show j < F.length by omega)]; exact List.getElem_mem _, of_decide_eq_true hp⟩⟩
      · rintro ⟨_, h | ⟨f, hf, hi⟩⟩
        · exact absurd h he
        · obtain ⟨j, hj, rfl⟩ := List.mem_iff_getElem.1 hf
          exact ⟨j, by omega, decide_eq_true (by rw [gl_mem hj]; exact hi)⟩

theorem l17Face_c (V : Int) (A : Option Addr) (n c : Nat) (rs : List SlV) (F : List (List Int)) (B : Option Addr) (m d : Nat) (face : List Int) (w : World) (hV : 0 ≤ V ∧ V ≤ 60) (hR : RowsI w A n rs F) (hB : RdI w B m face) (hn : n ≤ 1000000) (hm : m ≤ 1000000000) :
    Ret Tryz.prog 64 [.agg #[.int .i64 V, .slice A n c], .slice B m d] w (fun v w' => v = .bool (decide (Rise (V - 1) face ∧ (face = [] ∨ ∃ f ∈ F, Ins face f))) ∧ St w w' []) := by
  have hbl := hB.1
  have hFl := hR.len
  refine Ret.of_cd Tryz.func64 rfl Tryz.ntmps64 rfl (post1 rfl) ?_
  refine Cd.seq ?_
  refine Cd.region ?_
  refine Ops.box2 (St.refl w) rfl rfl ?_
  intro Ab w1 hS
  refine Ops.mv_bool rfl rfl rfl ?_
  refine Ops.nil ?_
  refine thenQ_n ?_
  refine Cd.seq ?_
  refine Cd.seq ?_
  refine Cd.region ?_
  refine Ops.mv_sl rfl rfl rfl ?_
  refine Ops.fld (hS.rd 0 rfl) rfl rfl rfl rfl inferInstance ?_
  refine Ops.ldf_i (hS.rd 0 rfl) rfl rfl rfl rfl rfl ?_
  refine Ops.sub rfl rfl rfl (by omega) ?_
  refine Ops.call (l17Rises_c B m d face _ _ (hS.oldI hB) (by omega)) rfl rfl rfl ?_
  rintro _ w2 ⟨rfl, hst⟩
  have hS := hS.later hst.below
  first | refine Ops.not_p rfl rfl ?_ | refine Ops.not rfl rfl ?_
  refine Ops.nil ?_
  refine thenQ_n ?_
  refine Cd.cond_p _ rfl (fun h1 => ?_) (fun h1 => ?_)
  · refine Cd.seq ?_
    refine Cd.region ?_
    refine Ops.mv_bool rfl rfl rfl ?_
    refine Ops.nil ?_
    refine thenQ_n ?_
    refine Cd.ret ?_
    refine thenQ_r ?_
    refine ret1_b rfl ?_
    exact ⟨by rw [decide_eq_false (fun h => h1 h.1)], hS.none⟩
  have h1 := Classical.not_not.1 h1
  refine Cd.skip ?_
  refine thenQ_n ?_
  refine Cd.seq ?_
  refine Cd.seq ?_
  refine Cd.region ?_
  refine Ops.mv_int rfl rfl rfl ?_
  refine Ops.nil ?_
  refine thenQ_n ?_
  refine Cd.block ?_
  refine Cd.loop (α := Nat) (fun i => [(1, .slice B m d), (2, .pointer Ab), (5, .int .i64 (i : Int))]) (fun i w' => i ≤ n ∧ (∀ f ∈ F.take i, ¬ Ins face f) ∧ St w w' [Bx 27 2 Ab [.int .i64 V, .slice A n c]]) (fun i => n - i) 0 ⟨rfl, rfl, rfl, trivial⟩ ⟨Nat.zero_le _, by simp, hS⟩ ?_
  rintro i e w3 ⟨hi, hN, hS3⟩
  have hB3 := hS3.rd 0 rfl
  refine Cd.seq ?_
  refine Cd.seq ?_
  refine Cd.region ?_
  refine Ops.mv_int rfl rfl rfl ?_
  refine Ops.fld hB3 rfl rfl rfl rfl inferInstance ?_
  refine Ops.ldf_s hB3 rfl rfl rfl rfl rfl ?_
  refine Ops.len rfl rfl ?_
  refine Ops.lss rfl rfl rfl ?_
  refine Ops.nil ?_
  refine thenQ_n ?_
  refine Cd.cond_p _ rfl (fun h3 => ?_) (fun h3 => ?_)
  · have hiF : i < F.length := by omega
    have hM := hS3.oldRows hR
    have hrow := hM.at_ (i := (i : Int)) (by omega) (by omega)
    have hcap := hM.cap_ (i := (i : Int)) (by omega) (by omega)
    refine Cd.skip ?_
    refine thenQ_n ?_
    refine Cd.seq ?_
    refine Cd.block ?_
    refine Cd.seq ?_
    refine Cd.region ?_
    refine Ops.mv_sl rfl rfl rfl ?_
    refine Ops.fld hB3 rfl rfl rfl rfl inferInstance ?_
    refine Ops.ldf_s hB3 rfl rfl rfl rfl rfl ?_
    refine Ops.mv_int rfl rfl rfl ?_
    refine Ops.idx hM.top.2 rfl rfl rfl (by omega) (by omega) ?_
    refine Ops.ld_sl hM.top rfl (by omega) rfl rfl ?_
    refine Ops.call (l17Within_c _ _ _ _ _ _ _ _ _ (hS3.oldI hB) hrow (by omega) (by omega)) rfl rfl rfl ?_
    rintro _ _ ⟨rfl, rfl⟩
    refine Ops.nil ?_
    refine thenQ_n ?_
    refine Cd.cond_p _ rfl (fun h4 => ?_) (fun h4 => ?_)
    · refine Cd.seq ?_
      refine Cd.region ?_
      refine Ops.mv_bool rfl rfl rfl ?_
      refine Ops.nil ?_
      refine thenQ_n ?_
      refine Cd.ret ?_
      refine blockQ_r ?_
      refine thenQ_r ?_
      refine thenQ_r ?_
      refine blockQ_r ?_
      refine thenQ_r ?_
      refine ret1_b rfl ?_
      exact ⟨by rw [decide_eq_true ⟨h1, .inr ⟨gl F (i : Int), by rw [gl_mem hiF]; exact List.getElem_mem _, h4⟩⟩], hS3.none⟩
    · refine Cd.skip ?_
      refine blockQ_n ?_
      refine thenQ_n ?_
      refine Cd.region ?_
      refine Ops.mv_int rfl rfl rfl ?_
      refine Ops.add rfl rfl rfl (by omega) ?_
      refine Ops.mv_int rfl rfl rfl ?_
      refine Ops.nil ?_
      refine thenQ_n ?_
      refine ⟨i + 1, by show n - (i + 1) < n - i; omega, ⟨rfl, rfl, rfl, trivial⟩, by omega, ?_, hS3⟩
      rw [take_succ_gl hiF]
      intro f hf
      rcases List.mem_append.1 hf with hf | hf
      · exact hN f hf
      · obtain rfl : f = gl F (i : Int) := by simpa using hf
        exact h4
  · rw [List.take_of_length_le (by omega)] at hN
    refine Cd.exit ?_
    refine thenQ_x ?_
    refine thenQ_x ?_
    refine blockQ_x ?_
    refine thenQ_n ?_
    refine Cd.seq ?_
    refine Cd.region ?_
    refine Ops.mv_sl rfl rfl rfl ?_
    refine Ops.len rfl rfl ?_
    refine Ops.eql rfl rfl rfl ?_
    refine Ops.mv_bool rfl rfl rfl ?_
    refine Ops.nil ?_
    refine thenQ_n ?_
    refine Cd.ret ?_
    refine ret1_b rfl ?_
    refine ⟨congrArg Value.bool (decide_eq_decide.2 ⟨fun h => ⟨h1, .inl (List.eq_nil_of_length_eq_zero (by omega))⟩, ?_⟩), hS3.none⟩
    rintro ⟨_, h | ⟨f, hf, h⟩⟩
    · rw [h] at hbl; simp at hbl; omega
    · exact absurd h (hN f hf)
theorem rise_face {V : Int} {F : List (List Int)} (h : Cplx V F) (face : List Int) : (Rise (V - 1) face ∧ (face = [] ∨ ∃ f ∈ F, Ins face f)) ↔ Fce F face := by
  constructor
  · rintro ⟨h1, h2⟩
    exact ⟨h1.1, h2⟩
  · rintro ⟨h1, h2⟩
    refine ⟨⟨h1, fun x hx => ?_⟩, h2⟩
    rcases h2 with rfl | ⟨f, hf, hi⟩
    · simp at hx
    · have := (h.row f hf).2.2 x (hi x hx); omega

theorem l17Link_c (V : Int) (A : Option Addr) (n c : Nat) (rs : List SlV) (F : List (List Int)) (B : Option Addr) (m d : Nat) (face : List Int) (w : World) (hR : RowsI w A n rs F) (hB : RdI w B m face) (hn : n ≤ 1000000) (hm : m ≤ 1000000000) (hF6 : ∀ f ∈ F, f.length ≤ 1000000) :
    Ret Tryz.prog 66 [.agg #[.int .i64 V, .slice A n c], .slice B m d] w (fun v w' => ∃ A' c' rs', v = .slice A' (lnkL F face).length c' ∧ rs'.length = (lnkL F face).length ∧ St w w' (mat 25 2 A' (lnkL F face).length c' rs' (lnkL F face) ++ [])) := by
  have hFl := hR.len
  refine Ret.of_cd Tryz.func66 rfl Tryz.ntmps66 rfl (post1 rfl) ?_
  refine Cd.seq ?_
  refine Cd.region ?_
  refine Ops.box2 (St.refl w) rfl rfl ?_
  intro Ab w1 hS1
  refine Ops.mv_sl rfl rfl rfl ?_
  refine Ops.nil ?_
  refine thenQ_n ?_
  refine Cd.seq ?_
  refine Cd.region ?_
  refine Ops.bs0 hS1 rfl ?_
  intro A5 w2 hS2
  have hS2 : St w w2 ([cxB Ab V A n c, CkR 25 A5 (lnkL (F.take 0) face).length 0 []] ++ rowsCk 2 [] (lnkL (F.take 0) face)) := hS2.swap
  refine Ops.mv_sl rfl rfl rfl ?_
  refine Ops.nil ?_
  refine thenQ_n ?_
  refine Cd.seq ?_
  refine Cd.seq ?_
  refine Cd.region ?_
  refine Ops.mv_int rfl rfl rfl ?_
  refine Ops.nil ?_
  refine thenQ_n ?_
  refine Cd.block ?_
  refine Cd.loop (α := Nat × (Option Addr × Nat) × List SlV) (fun z => [(1, .slice B m d), (2, .pointer Ab), (5, .slice z.2.1.1 (lnkL (F.take z.1) face).length z.2.1.2), (6, .int .i64 (z.1 : Int))])
    (fun z w' => z.1 ≤ n ∧ z.2.2.length = (lnkL (F.take z.1) face).length ∧ St w w' ([cxB Ab V A n c, CkR 25 z.2.1.1 (lnkL (F.take z.1) face).length z.2.1.2 z.2.2] ++ rowsCk 2 z.2.2 (lnkL (F.take z.1) face))) (fun z => n - z.1) (0, (A5, 0), []) ⟨rfl, rfl, rfl, rfl, trivial⟩ ⟨Nat.zero_le _, rfl, hS2⟩ ?_
  clear hS2 hS1
  rintro ⟨i, ⟨A5, c5⟩, rs5⟩ e w3 ⟨hi, hrl, hS3⟩
  dsimp only at hi hrl hS3 ⊢
  have hB3 := hS3.rd 0 rfl
  refine Cd.seq ?_
  refine Cd.seq ?_
  refine Cd.region ?_
  refine Ops.mv_int rfl rfl rfl ?_
  refine Ops.fld hB3 rfl rfl rfl rfl inferInstance ?_
  refine Ops.ldf_s hB3 rfl rfl rfl rfl rfl ?_
  refine Ops.len rfl rfl ?_
  refine Ops.lss rfl rfl rfl ?_
  refine Ops.nil ?_
  refine thenQ_n ?_
  refine Cd.cond_p _ rfl (fun h3 => ?_) (fun h3 => ?_)
  · have hiF : i < F.length := by omega
    have hM := hS3.oldRows hR
    have hrow := hM.at_ (i := (i : Int)) (by omega) (by omega)
    have hcap := hM.cap_ (i := (i : Int)) (by omega) (by omega)
    have hrl0 := hrow.1
    have hfl := hF6 (gl F (i : Int)) (by rw [gl_mem hiF]; exact List.getElem_mem _)
    have hsucc := lnkL_succ (face := face) hiF
    have hll := lnkL_len (F.take i) face
    have htl : (F.take i).length = i := by simp; omega
    refine Cd.skip ?_
    refine thenQ_n ?_
    refine Cd.seq ?_
    refine Cd.block ?_
    refine Cd.seq ?_
    refine Cd.region ?_
    refine Ops.mv_sl rfl rfl rfl ?_
    refine Ops.fld hB3 rfl rfl rfl rfl inferInstance ?_
    refine Ops.ldf_s hB3 rfl rfl rfl rfl rfl ?_
    refine Ops.mv_int rfl rfl rfl ?_
    refine Ops.idx hM.top.2 rfl rfl rfl (by omega) (by omega) ?_
    refine Ops.ld_sl hM.top rfl (by omega) rfl rfl ?_
    refine Ops.call (l17Within_c _ _ _ _ _ _ _ _ _ (hS3.oldI hB) hrow (by omega) (by omega)) rfl rfl rfl ?_
    rintro _ _ ⟨rfl, rfl⟩
    refine Ops.nil ?_
    refine thenQ_n ?_
    refine Cd.cond_p _ rfl (fun h4 => ?_) (fun h4 => ?_)
    · rw [if_pos h4] at hsucc
      refine Cd.region ?_
      refine Ops.mv_sl rfl rfl rfl ?_
      refine Ops.fld hB3 rfl rfl rfl rfl inferInstance ?_
      refine Ops.ldf_s hB3 rfl rfl rfl rfl rfl ?_
      refine Ops.mv_int rfl rfl rfl ?_
      refine Ops.idx hM.top.2 rfl rfl rfl (by omega) (by omega) ?_
      refine Ops.ld_sl hM.top rfl (by omega) rfl rfl ?_
      refine Ops.mv_sl rfl rfl rfl ?_
      refine Ops.call (l17Without_c _ _ _ (gl F (i : Int)) _ _ _ face _ hrow (hS3.oldI hB) (by omega) (by omega)) rfl rfl rfl ?_
      rintro _ w4 ⟨A2, c2, rfl, hst⟩
      have hS5 := hS3.call hst
      refine Ops.bs1R hS5 rfl rfl rfl ?_
      intro A7 w6 hS6
      refine Ops.appR 3 hS6 rfl (hS6.rdR 0 rfl) rfl rfl rfl (by omega) (by omega) rfl ?_
      intro A8 c8 w7 hS7
      have hS7 := hS7.tail
      have hl1 : (lnkL (F.take (i + 1)) face).length = (lnkL (F.take i) face).length + 1 := by rw [hsucc]; simp
      refine Ops.mv_sl rfl rfl rfl ?_
      refine Ops.nil ?_
      refine blockQ_n ?_
      refine thenQ_n ?_
      refine Cd.region ?_
      refine Ops.mv_int rfl rfl rfl ?_
      refine Ops.add rfl rfl rfl (by omega) ?_
      refine Ops.mv_int rfl rfl rfl ?_
      refine Ops.nil ?_
      refine thenQ_n ?_
      refine ⟨(i + 1, (A8, c8), rs5 ++ [⟨A2, (lessL (gl F (i : Int)) face).length, c2⟩]), by show n - (i + 1) < n - i; omega, ⟨rfl, rfl, by show Value.slice A8 ((lnkL (F.take i) face).length + 1) c8 = .slice A8 (lnkL (F.take (i + 1)) face).length c8; rw [hl1], rfl, trivial⟩, by show i + 1 ≤ n; omega, by show (rs5 ++ [_]).length = _; rw [hl1]; simp; omega, ?_⟩
      show St w w7 ([cxB Ab V A n c, CkR 25 A8 (lnkL (F.take (i + 1)) face).length c8 (rs5 ++ [⟨A2, (lessL (gl F (i : Int)) face).length, c2⟩])] ++ rowsCk 2 (rs5 ++ [⟨A2, (lessL (gl F (i : Int)) face).length, c2⟩]) (lnkL (F.take (i + 1)) face))
      rw [hl1, hsucc, rowsCk_append hrl, ← List.append_assoc]
      exact hS7.perm (List.perm_append_comm (l₁ := [CkI 2 A2 (lessL (gl F (i : Int)) face).length c2 (lessL (gl F (i : Int)) face)]))
    · rw [if_neg h4] at hsucc
      rw [← hsucc] at hrl hS3 ⊢
      refine Cd.skip ?_
      refine blockQ_n ?_
      refine thenQ_n ?_
      refine Cd.region ?_
      refine Ops.mv_int rfl rfl rfl ?_
      refine Ops.add rfl rfl rfl (by omega) ?_
      refine Ops.mv_int rfl rfl rfl ?_
      refine Ops.nil ?_
      refine thenQ_n ?_
      exact ⟨(i + 1, (A5, c5), rs5), by show n - (i + 1) < n - i; omega, ⟨rfl, rfl, rfl, rfl, trivial⟩, by show i + 1 ≤ n; omega, hrl, hS3⟩
  · rw [List.take_of_length_le (by omega)] at hrl hS3 ⊢
    refine Cd.exit ?_
    refine thenQ_x ?_
    refine thenQ_x ?_
    refine blockQ_x ?_
    refine thenQ_n ?_
    refine Cd.seq ?_
    refine Cd.region ?_
    refine Ops.mv_sl rfl rfl rfl ?_
    refine Ops.mv_sl rfl rfl rfl ?_
    refine Ops.nil ?_
    refine thenQ_n ?_
    refine Cd.ret ?_
    refine ret1_s rfl ?_
    exact ⟨A5, c5, rs5, rfl, hrl, by rw [List.append_nil]; exact hS3.tail⟩

theorem specLinkOf_c (V : Int) (A : Option Addr) (n c : Nat) (rs : List SlV) (F : List (List Int)) (B : Option Addr) (m d : Nat) (face : List Int) (w : World) (hR : RowsI w A n rs F) (hB : RdI w B m face) (hn : n ≤ 9223372036854775807) (hm : m ≤ 1000000000) :
    Ret Tryz.prog 12 [.agg #[.int .i64 V, .slice A n c], .slice B m d] w (AnsC (lkV V F face) (lkL V F face) (lkK V F face) w) := by
  have hFl := hR.len
  refine Ret.of_cd Tryz.func12 rfl Tryz.ntmps12 rfl (postc2 rfl rfl) ?_
  refine Cd.seq ?_
  refine Cd.region ?_
  refine Ops.box2 (St.refl w) rfl rfl ?_
  intro Ab w1 hS1
  refine Ops.new2 hS1 rfl ?_
  intro A4 w2 hS2
  refine Ops.mv_int rfl rfl rfl ?_
  refine Ops.nil ?_
  refine thenQ_n ?_
  refine Cd.seq ?_
  refine Cd.block ?_
  refine Cd.seq ?_
  refine Cd.region ?_
  refine Ops.ld_agg 1 (hS2.rd 1 rfl) rfl rfl rfl ?_
  refine Ops.call (l17Is_c V A n c rs F _ (hS2.oldRows hR) hn) rfl rfl rfl ?_
  rintro _ w3 ⟨rfl, hst⟩
  have hS3 := hS2.later hst.below
  first | refine Ops.not_p rfl rfl ?_ | refine Ops.not rfl rfl ?_
  refine Ops.mv_bool rfl rfl rfl ?_
  refine Ops.nil ?_
  refine thenQ_n ?_
  unfold lkV lkL lkK
  refine Cd.cond_p _ rfl (fun h1 => ?_) (fun h1 => ?_)
  · rw [if_neg (fun h => h1 h.1), if_neg (fun h => h1 h.1), if_neg h1]
    refine Cd.seq ?_
    refine Cd.region ?_
    refine Ops.bldZ2 (by exact inferInstance) (by exact inferInstance) rfl rfl rfl ?_
    refine Ops.st_agg 2 0 hS3 rfl rfl rfl rfl rfl rfl rfl ?_
    intro w9 hS9
    refine Ops.mv_int rfl rfl rfl ?_
    refine Ops.nil ?_
    refine thenQ_n ?_
    refine Cd.ret ?_
    refine blockQ_r ?_
    refine thenQ_r ?_
    skip
    refine retc2_r rfl (hS9.rd 0 rfl) rfl ?_
    exact AnsC.none hS9
  have h1 := Classical.not_not.1 h1
  have hn4 := h1.f
  refine Cd.seq ?_
  refine Cd.region ?_
  refine Ops.ld_agg 1 (hS3.rd 1 rfl) rfl rfl rfl ?_
  refine Ops.mv_sl rfl rfl rfl ?_
  refine Ops.call (l17Face_c V A n c rs F B m d face _ h1.v (hS3.oldRows hR) (hS3.oldI hB) (by omega) hm) rfl rfl rfl ?_
  rintro _ w4 ⟨rfl, hst⟩
  have hS4 := hS3.later hst.below
  rw [decide_eq_decide.2 (rise_face h1 face)]
  first | refine Ops.not_p rfl rfl ?_ | refine Ops.not rfl rfl ?_
  refine Ops.mv_bool rfl rfl rfl ?_
  refine Ops.nil ?_
  refine thenQ_n ?_
  refine Cd.cond_p _ rfl (fun h2 => ?_) (fun h2 => ?_)
  · rw [if_neg (fun h => h2 h.2), if_neg (fun h => h2 h.2), if_pos h1, if_neg h2]
    refine Cd.seq ?_
    refine Cd.region ?_
    refine Ops.bldZ2 (by exact inferInstance) (by exact inferInstance) rfl rfl rfl ?_
    refine Ops.st_agg 2 0 hS4 rfl rfl rfl rfl rfl rfl rfl ?_
    intro w9 hS9
    refine Ops.mv_int rfl rfl rfl ?_
    refine Ops.nil ?_
    refine thenQ_n ?_
    refine Cd.ret ?_
    refine blockQ_r ?_
    refine thenQ_r ?_
    skip
    refine retc2_r rfl (hS9.rd 0 rfl) rfl ?_
    exact AnsC.none hS9
  have h2 := Classical.not_not.1 h2
  rw [if_pos ⟨h1, h2⟩, if_pos ⟨h1, h2⟩, if_pos h1, if_pos h2]
  obtain ⟨hL1, hL2, hL3⟩ := h1.lnk face
  refine Cd.skip ?_
  refine blockQ_n ?_
  refine thenQ_n ?_
  refine Cd.seq ?_
  refine Cd.region ?_
  refine Ops.ld_agg 1 (hS4.rd 1 rfl) rfl rfl rfl ?_
  refine Ops.mv_sl rfl rfl rfl ?_
  refine Ops.call (l17Link_c V A n c rs F B m d face _ (hS4.oldRows hR) (hS4.oldI hB) (by omega) hm (fun f hf => by have := (h1.row f hf).1; omega)) rfl rfl rfl ?_
  rintro _ w5 ⟨A5, c5, rs5, rfl, hrl5, hst5⟩
  have hS5 := hS4.call hst5
  refine Ops.call (l17Make_c A5 _ c5 rs5 (lnkL F face) _ (hst5.rowsI rfl) (by omega) (by omega) (fun l hl => (hL2 l hl).1)) rfl rfl rfl ?_
  rintro _ w6 ⟨A6, c6, rs6, rfl, hrl6, hst6⟩
  have hS6 := (hS4.later hst5.below).call2 hst6
  refine Ops.extract rfl rfl rfl ?_
  refine Ops.extract rfl rfl rfl ?_
  refine Ops.st_agg 2 0 hS6 rfl rfl rfl rfl rfl rfl rfl ?_
  intro w7 hS7
  refine Ops.mv_int rfl rfl rfl ?_
  refine Ops.nil ?_
  refine thenQ_n ?_
  refine Cd.ret ?_
  skip
  refine retc2_r rfl (hS7.rd 0 rfl) rfl ?_
  exact ⟨A6, c6, rs6, rfl, hrl6, hS7.sub (List.Sublist.cons _ (List.sublist_cons_self _ _))⟩

theorem implLinkOf_c (V : Int) (A : Option Addr) (n c : Nat) (rs : List SlV) (F : List (List Int)) (B : Option Addr) (m d : Nat) (face : List Int) (w : World) (hT : Tab w) (hR : RowsI w A n rs F) (hB : RdI w B m face) (hn : n ≤ 9223372036854775807) (hm : m ≤ 1000000000) :
    Ret Tryz.prog 15 [.agg #[.int .i64 V, .slice A n c], .slice B m d] w (AnsC (lkV V F face) (lkL V F face) (lkK V F face) w) := by
  have hFl := hR.len
  refine Ret.of_cd Tryz.func15 rfl Tryz.ntmps15 rfl (postc2 rfl rfl) ?_
  refine Cd.seq ?_
  refine Cd.region ?_
  refine Ops.box2 (St.refl w) rfl rfl ?_
  intro Ab w1 hS1
  refine Ops.new2 hS1 rfl ?_
  intro A4 w2 hS2
  refine Ops.mv_int rfl rfl rfl ?_
  refine Ops.nil ?_
  refine thenQ_n ?_
  refine Cd.seq ?_
  refine Cd.block ?_
  refine Cd.seq ?_
  refine Cd.region ?_
  refine Ops.ld_agg 1 (hS2.rd 1 rfl) rfl rfl rfl ?_
  refine Ops.call (isComplex_c V A n c rs F _ (hT.later hS2.below) (hS2.oldRows hR) hn) rfl rfl rfl ?_
  rintro _ w3 ⟨rfl, hst⟩
  have hS3 := hS2.later hst.below
  first | refine Ops.not_p rfl rfl ?_ | refine Ops.not rfl rfl ?_
  refine Ops.mv_bool rfl rfl rfl ?_
  refine Ops.nil ?_
  refine thenQ_n ?_
  unfold lkV lkL lkK
  refine Cd.cond_p _ rfl (fun h1 => ?_) (fun h1 => ?_)
  · rw [if_neg (fun h => h1 h.1), if_neg (fun h => h1 h.1), if_neg h1]
    refine Cd.seq ?_
    refine Cd.region ?_
    refine Ops.bldZ2 (by exact inferInstance) (by exact inferInstance) rfl rfl rfl ?_
    refine Ops.st_agg 2 0 hS3 rfl rfl rfl rfl rfl rfl rfl ?_
    intro w9 hS9
    refine Ops.mv_int rfl rfl rfl ?_
    refine Ops.nil ?_
    refine thenQ_n ?_
    refine Cd.ret ?_
    refine blockQ_r ?_
    refine thenQ_r ?_
    skip
    refine retc2_r rfl (hS9.rd 0 rfl) rfl ?_
    exact AnsC.none hS9
  have h1 := Classical.not_not.1 h1
  have hn4 := h1.f
  refine Cd.seq ?_
  refine Cd.region ?_
  refine Ops.mv_sl rfl rfl rfl ?_
  refine Ops.call (hasFace_c Ab V A n c rs F B m d face _ (hS3.rd 1 rfl) (hS3.oldRows hR) (hS3.oldI hB) (by omega) hm) rfl rfl rfl ?_
  rintro _ w4 ⟨rfl, hst⟩
  have hS4 := hS3.later hst.below
  first | refine Ops.not_p rfl rfl ?_ | refine Ops.not rfl rfl ?_
  refine Ops.mv_bool rfl rfl rfl ?_
  refine Ops.nil ?_
  refine thenQ_n ?_
  refine Cd.cond_p _ rfl (fun h2 => ?_) (fun h2 => ?_)
  · rw [if_neg (fun h => h2 h.2), if_neg (fun h => h2 h.2), if_pos h1, if_neg h2]
    refine Cd.seq ?_
    refine Cd.region ?_
    refine Ops.bldZ2 (by exact inferInstance) (by exact inferInstance) rfl rfl rfl ?_
    refine Ops.st_agg 2 0 hS4 rfl rfl rfl rfl rfl rfl rfl ?_
    intro w9 hS9
    refine Ops.mv_int rfl rfl rfl ?_
    refine Ops.nil ?_
    refine thenQ_n ?_
    refine Cd.ret ?_
    refine blockQ_r ?_
    refine thenQ_r ?_
    skip
    refine retc2_r rfl (hS9.rd 0 rfl) rfl ?_
    exact AnsC.none hS9
  have h2 := Classical.not_not.1 h2
  rw [if_pos ⟨h1, h2⟩, if_pos ⟨h1, h2⟩, if_pos h1, if_pos h2]
  obtain ⟨hL1, hL2, hL3⟩ := h1.lnk face
  refine Cd.skip ?_
  refine blockQ_n ?_
  refine thenQ_n ?_
  refine Cd.seq ?_
  refine Cd.region ?_
  refine Ops.mv_sl rfl rfl rfl ?_
  refine Ops.nil ?_
  refine thenQ_n ?_
  refine Cd.seq ?_
  refine Cd.seq ?_
  refine Cd.region ?_
  refine Ops.fld (hS4.rd 1 rfl) rfl rfl rfl rfl inferInstance ?_
  refine Ops.ldf_s (hS4.rd 1 rfl) rfl rfl rfl rfl rfl ?_
  refine Ops.len rfl rfl ?_
  refine Ops.mv_int rfl rfl rfl ?_
  refine Ops.nil ?_
  refine thenQ_n ?_
  refine Cd.block ?_
  have hS5 : St w w4 ([cxZ A4, cxB Ab V A n c, CkR 25 none (lnkL (F.take 0) face).length 0 []] ++ rowsCk 2 [] (lnkL (F.take 0) face)) := (hS4.nil 25).perm (List.perm_append_comm (l₁ := [CkR 25 none 0 0 []]) (l₂ := [_, _]))
  refine Cd.loop (α := Nat × (Option Addr × Nat) × List SlV) (fun z => [(1, .slice B m d), (4, .pointer A4), (6, .slice z.2.1.1 (lnkL (F.take z.1) face).length z.2.1.2), (20, .slice A n c), (21, .int .i64 (n : Int)), (22, .int .i64 (z.1 : Int))])
    (fun z w' => z.1 ≤ n ∧ z.2.2.length = (lnkL (F.take z.1) face).length ∧ St w w' ([cxZ A4, cxB Ab V A n c, CkR 25 z.2.1.1 (lnkL (F.take z.1) face).length z.2.1.2 z.2.2] ++ rowsCk 2 z.2.2 (lnkL (F.take z.1) face))) (fun z => n - z.1) (0, (none, 0), []) ⟨rfl, rfl, rfl, rfl, rfl, rfl, trivial⟩ ⟨Nat.zero_le _, rfl, hS5⟩ ?_
  clear hS5 hS4 hS3 hS2 hS1
  rintro ⟨i, ⟨A5, c5⟩, rs5⟩ e w3 ⟨hi, hrl, hS3⟩
  dsimp only at hi hrl hS3 ⊢
  refine Cd.seq ?_
  refine Cd.region ?_
  refine Ops.lss rfl rfl rfl ?_
  refine Ops.nil ?_
  refine thenQ_n ?_
  refine Cd.seq ?_
  refine Cd.cond_p _ rfl (fun h3 => ?_) (fun h3 => ?_)
  · have hiF : i < F.length := by omega
    have hM := hS3.oldRows hR
    have hrow := hM.at_ (i := (i : Int)) (by omega) (by omega)
    have hcap := hM.cap_ (i := (i : Int)) (by omega) (by omega)
    have hrl0 := hrow.1
    have hfl := (h1.at_ hiF).1
    have hsucc := lnkL_succ (face := face) hiF
    have hll := lnkL_len (F.take i) face
    have htl : (F.take i).length = i := by simp; omega
    refine Cd.skip ?_
    refine thenQ_n ?_
    refine Cd.seq ?_
    refine Cd.block ?_
    refine Cd.seq ?_
    refine Cd.region ?_
    refine Ops.idx hM.top.2 rfl rfl rfl (by omega) (by omega) ?_
    refine Ops.ld_sl hM.top rfl (by omega) rfl rfl ?_
    refine Ops.mv_sl rfl rfl rfl ?_
    refine Ops.nil ?_
    refine thenQ_n ?_
    refine Cd.seq ?_
    refine Cd.region ?_
    refine Ops.mv_sl rfl rfl rfl ?_
    refine Ops.mv_sl rfl rfl rfl ?_
    refine Ops.call (isPart_c B m d face _ _ _ (gl F (i : Int)) _ (hS3.oldI hB) hrow hm (by omega)) rfl rfl rfl ?_
    rintro _ w4 ⟨rfl, hst⟩
    have hS3 := hS3.later hst.below
    have hM := hS3.oldRows hR
    have hrow := hM.at_ (i := (i : Int)) (by omega) (by omega)
    refine Ops.nil ?_
    refine thenQ_n ?_
    refine Cd.cond_p _ rfl (fun h4 => ?_) (fun h4 => ?_)
    · rw [if_pos h4] at hsucc
      refine Cd.region ?_
      refine Ops.mv_sl rfl rfl rfl ?_
      refine Ops.mv_sl rfl rfl rfl ?_
      refine Ops.mv_sl rfl rfl rfl ?_
      refine Ops.call (lessOf_c _ _ _ (gl F (i : Int)) _ _ _ face _ hrow (hS3.oldI hB) (by omega) (by omega)) rfl rfl rfl ?_
      rintro _ w4 ⟨A2, c2, rfl, hst⟩
      have hS5 := hS3.call hst
      refine Ops.bs1R hS5 rfl rfl rfl ?_
      intro A7 w6 hS6
      refine Ops.appR 4 hS6 rfl (hS6.rdR 0 rfl) rfl rfl rfl (by omega) (by omega) rfl ?_
      intro A8 c8 w7 hS7
      have hS7 := hS7.tail
      have hl1 : (lnkL (F.take (i + 1)) face).length = (lnkL (F.take i) face).length + 1 := by rw [hsucc]; simp
      refine Ops.mv_sl rfl rfl rfl ?_
      refine Ops.nil ?_
      refine blockQ_n ?_
      refine thenQ_n ?_
      refine Cd.region ?_
      refine Ops.add rfl rfl rfl (by omega) ?_
      refine Ops.mv_int rfl rfl rfl ?_
      refine Ops.nil ?_
      refine thenQ_n ?_
      refine ⟨(i + 1, (A8, c8), rs5 ++ [⟨A2, (lessL (gl F (i : Int)) face).length, c2⟩]), by show n - (i + 1) < n - i; omega, ⟨rfl, rfl, by show Value.slice A8 ((lnkL (F.take i) face).length + 1) c8 = .slice A8 (lnkL (F.take (i + 1)) face).length c8; rw [hl1], rfl, rfl, rfl, trivial⟩, by show i + 1 ≤ n; omega, by show (rs5 ++ [_]).length = _; rw [hl1]; simp; omega, ?_⟩
      show St w w7 ([cxZ A4, cxB Ab V A n c, CkR 25 A8 (lnkL (F.take (i + 1)) face).length c8 (rs5 ++ [⟨A2, (lessL (gl F (i : Int)) face).length, c2⟩])] ++ rowsCk 2 (rs5 ++ [⟨A2, (lessL (gl F (i : Int)) face).length, c2⟩]) (lnkL (F.take (i + 1)) face))
      rw [hl1, hsucc, rowsCk_append hrl, ← List.append_assoc]
      exact hS7.perm (List.perm_append_comm (l₁ := [CkI 2 A2 (lessL (gl F (i : Int)) face).length c2 (lessL (gl F (i : Int)) face)]))
    · rw [if_neg h4] at hsucc
      rw [← hsucc] at hrl hS3 ⊢
      refine Cd.skip ?_
      refine blockQ_n ?_
      refine thenQ_n ?_
      refine Cd.region ?_
      refine Ops.add rfl rfl rfl (by omega) ?_
      refine Ops.mv_int rfl rfl rfl ?_
      refine Ops.nil ?_
      refine thenQ_n ?_
      exact ⟨(i + 1, (A5, c5), rs5), by show n - (i + 1) < n - i; omega, ⟨rfl, rfl, rfl, rfl, rfl, rfl, trivial⟩, by show i + 1 ≤ n; omega, hrl, hS3⟩
  · rw [List.take_of_length_le (by omega)] at hrl hS3 ⊢
    have hS4 : St w w3 (mat 25 2 A5 (lnkL F face).length c5 rs5 (lnkL F face)) := hS3.tail.tail
    have hid := map_cs_id (L := lnkL F face) fun l hl => (hL2 l hl).1
    have hC := complexOf_c A5 _ c5 rs5 (lnkL F face) w3 (hT.later hS3.below) (St.rowsI (ks := []) (by rwa [List.append_nil]) rfl) (by omega) (fun l hl => by have := (hL2 l hl).2; omega)
    rw [hid] at hC
    refine Cd.exit ?_
    refine thenQ_x ?_
    refine thenQ_x ?_
    refine blockQ_x ?_
    refine thenQ_n ?_
    refine Cd.seq ?_
    refine Cd.region ?_
    refine Ops.mv_sl rfl rfl rfl ?_
    refine Ops.call hC rfl rfl rfl ?_
    rintro _ w6 ⟨A6, c6, rs6, rfl, hrl6, hst6⟩
    have hS6 := (hS3.sub (List.sublist_append_left _ _)).call2 hst6
    refine Ops.extract rfl rfl rfl ?_
    refine Ops.extract rfl rfl rfl ?_
    refine Ops.st_agg 2 0 hS6 rfl rfl rfl rfl rfl rfl rfl ?_
    intro w7 hS7
    refine Ops.mv_int rfl rfl rfl ?_
    refine Ops.nil ?_
    refine thenQ_n ?_
    refine Cd.ret ?_
    skip
    refine retc2_r rfl (hS7.rd 0 rfl) rfl ?_
    exact ⟨A6, c6, rs6, rfl, hrl6, hS7.sub (List.Sublist.cons _ (List.Sublist.cons _ (List.sublist_cons_self _ _)))⟩
end Go.Proofs.YtdedegbendjmbaaGreatDoor.Vc
/-
  The walk of the law FnExactLinkOf: it returns true. Conditions: the library's table of powers of ten holds what the program's text lays there.
-/
namespace Go.Proofs.YtdedegbendjmbaaGreatDoor.Vc
open Go.RowKit

theorem cxL_bd {ls : List (List Int)} : (cxL ls).length ≤ 1000 ∧ ∀ x ∈ cxL ls, x.length ≤ 1000 := by
  unfold cxL
  split
  · simp
  · rename_i h
    have h1 : ¬ (∃ l ∈ ls, 6 < l.length) := fun h' => h (.inl h')
    have h2 : (facP ls).length ≤ 400 := Nat.le_of_not_lt fun h' => h (.inr (.inr h'))
    unfold cxF
    refine ⟨by rw [List.length_map]; omega, fun x hx => ?_⟩
    obtain ⟨l, hl, rfl⟩ := List.mem_map.1 hx
    rw [List.length_map]
    have : ¬ 6 < l.length := fun h' => h1 ⟨l, (facP_mem.1 hl).1, h'⟩
    omega
theorem lkL_bd (V : Int) (F : List (List Int)) (face : List Int) : (lkL V F face).length ≤ 1000 ∧ ∀ x ∈ lkL V F face, x.length ≤ 1000 := by
  unfold lkL
  split
  · exact cxL_bd
  · simp
abbrev lxB (Ab : Option Addr) (V : Int) (A : Option Addr) (n c : Nat) : Ck := Bx 24 2 Ab [.int .i64 V, .slice A n c]

set_option maxHeartbeats 1000000 in
theorem FnExactLinkOf_c (V : Int) (A : Option Addr) (n c : Nat) (rs : List SlV) (F : List (List Int)) (B : Option Addr) (m d : Nat) (face : List Int) (w : World) (hT : Tab w) (hR : RowsI w A n rs F) (hn : n ≤ 9223372036854775807) (hB : RdI w B m face) (_hm : m ≤ 9223372036854775807) :
    Ret Tryz.prog 3 [.agg #[.int .i64 V, .slice A n c], .slice B m d] w (fun v w' => v = .bool true ∧ St w w' []) := by
  have hxl := hR.len
  have hbl := hB.1
  refine Ret.of_cd Tryz.func3 rfl Tryz.ntmps3 rfl (post1 rfl) ?_
  refine Cd.seq ?_
  refine Cd.region ?_
  refine Ops.box2 (St.refl w) rfl rfl ?_
  intro Ab w1 hS
  refine Ops.mv_bool rfl rfl rfl ?_
  refine Ops.nil ?_
  refine thenQ_n ?_
  refine Cd.seq ?_
  refine Cd.seq ?_
  refine Cd.region ?_
  refine Ops.mv_sl rfl rfl rfl ?_
  refine Ops.len rfl rfl ?_
  refine Ops.gtr rfl rfl rfl ?_
  refine Ops.nil ?_
  refine thenQ_n ?_
  refine Cd.cond_p _ rfl (fun h0 => ?_) (fun h0 => ?_)
  · refine Cd.seq ?_
    refine Cd.region ?_
    refine Ops.mv_bool rfl rfl rfl ?_
    refine Ops.nil ?_
    refine thenQ_n ?_
    refine Cd.ret ?_
    refine thenQ_r ?_
    refine ret1_b rfl ?_
    exact ⟨rfl, hS.none⟩
  have hm2 : m ≤ 1048576 := by omega
  refine Cd.skip ?_
  refine thenQ_n ?_
  refine Cd.seq ?_
  refine Cd.region ?_
  refine Ops.mv_int rfl rfl rfl ?_
  refine Ops.nil ?_
  refine thenQ_n ?_
  refine Cd.seq ?_
  refine Cd.region ?_
  refine Ops.ld_agg 1 (hS.rd 0 rfl) rfl rfl rfl ?_
  refine Ops.mv_int rfl rfl rfl ?_
  refine Ops.call (szComplex_c V A n c rs F 1048576 _ (hS.oldRows hR) hn (by omega)) rfl rfl rfl ?_
  rintro _ w2 ⟨rfl, hst⟩
  have hS := hS.later hst.below
  refine Ops.mv_int rfl rfl rfl ?_
  refine Ops.nil ?_
  refine thenQ_n ?_
  refine Cd.seq ?_
  refine Cd.seq ?_
  refine Cd.region ?_
  refine Ops.mv_int rfl rfl rfl ?_
  refine Ops.lss rfl rfl rfl ?_
  refine Ops.nil ?_
  refine thenQ_n ?_
  refine Cd.cond_p _ rfl (fun h1 => ?_) (fun h1 => ?_)
  · refine Cd.seq ?_
    refine Cd.region ?_
    refine Ops.mv_bool rfl rfl rfl ?_
    refine Ops.nil ?_
    refine thenQ_n ?_
    refine Cd.ret ?_
    refine thenQ_r ?_
    refine ret1_b rfl ?_
    exact ⟨rfl, hS.none⟩
  have hsm := small_of hR.top.1 (Int.not_lt.1 h1)
  have hfit := fits_of hR.top.1 (by omega) (Int.not_lt.1 h1)
  refine Cd.skip ?_
  refine thenQ_n ?_
  refine Cd.seq ?_
  refine Cd.region ?_
  refine Ops.ld_agg 1 (hS.rd 0 rfl) rfl rfl rfl ?_
  refine Ops.call (toComplex_c V A n c rs F _ (hS.oldRows hR) hfit) rfl rfl rfl ?_
  rintro _ w3 ⟨A1, rs1, rfl, hrl1, hst1⟩
  have hS3 := hS.later hst1.below
  have hX3 : RowsI w3 A1 n rs1 F := St.rowsI (ks := []) (by rwa [List.append_nil]) hxl
  refine Ops.mv_sl rfl rfl rfl ?_
  refine Ops.call (toInt64S_c B m d face _ (hS3.oldI hB) (by omega)) rfl rfl rfl ?_
  rintro _ w4 ⟨A2, rfl, hst2⟩
  have hS4 := hS3.later hst2.below
  refine Ops.call (specLinkOf_c V A1 n n rs1 F A2 m m face _ (hX3.later hst2.below) (hst2.rdI 0 rfl) hn (by omega)) rfl rfl rfl ?_
  rintro _ w5 ⟨A5, c5, rs5, rfl, hrl5, hst5⟩
  have hS5 := hS4.later hst5.below
  refine Ops.mv_tup rfl rfl rfl ?_
  refine Ops.extract rfl rfl rfl ?_
  refine Ops.extract rfl rfl rfl ?_
  refine Ops.new2 (St.refl w5) rfl ?_
  intro A6 w6 hU6
  refine Ops.st_agg 2 0 hU6 rfl rfl rfl rfl rfl rfl rfl ?_
  intro w7 hU7
  have hS7 := hS5.later hU7.below
  have hbd := lkL_bd V F face
  have hP7 := (hst5.rowsI rfl).later hU7.below
  generalize hLe : lkL V F face = L at *
  generalize hKe : lkK V F face = K at *
  generalize hVe : lkV V F face = V' at *
  have hA6 := hU7.rd 0 rfl
  have hAb := hS7.rd 0 rfl
  have hR7 := hS7.oldRows hR
  have hB7 := hS7.oldI hB
  have hT7 := hT.later hS7.below
  refine Ops.mv_int rfl rfl rfl ?_
  refine Ops.nil ?_
  refine thenQ_n ?_
  refine Cd.seq ?_
  refine Cd.region ?_
  refine Ops.ld_agg 1 hAb rfl rfl rfl ?_
  refine Ops.call (toComplex_c V A n c rs F _ hR7 hfit) rfl rfl rfl ?_
  rintro _ w8 ⟨A7, rs7, rfl, hrl7, hT8⟩
  refine Ops.new2 hT8 rfl ?_
  intro A8 w9 hT9
  refine Ops.st_agg 2 0 hT9 rfl rfl rfl rfl rfl rfl rfl ?_
  intro w10 hT10
  refine Ops.nil ?_
  refine thenQ_n ?_
  refine Cd.seq ?_
  refine Cd.region ?_
  refine Ops.mv_sl rfl rfl rfl ?_
  refine Ops.call (toInt64S_c B m d face _ (hT10.oldI hB7) (by omega)) rfl rfl rfl ?_
  rintro _ w11 ⟨A9, rfl, hst11⟩
  have hT11 : St w7 w11 ([CkI 2 A9 m m face, cxB A8 V A7 n n] ++ mat 25 2 A7 n n rs7 F) := hT10.call hst11
  refine Ops.mv_sl rfl rfl rfl ?_
  refine Ops.nil ?_
  refine thenQ_n ?_
  refine Cd.seq ?_
  refine Cd.region ?_
  refine Ops.ld_agg 1 (hT11.rd 1 rfl) rfl rfl rfl ?_
  refine Ops.mv_sl rfl rfl rfl ?_
  have hI := implLinkOf_c V A7 n n rs7 F A9 m m face w11 (hT7.later hT11.below) ((hT11.matNil.sub (List.sublist_append_right _ _)).rowsI hxl) (hT11.rdI 0 rfl) hn (by omega)
  rw [hLe, hKe, hVe] at hI
  refine Ops.call hI rfl rfl rfl ?_
  rintro _ w12 ⟨A10, c10, rs10, rfl, hrl10, hst12⟩
  have hT12 : St w7 w12 (mat 25 2 A10 L.length c10 rs10 L ++ (CkI 2 A9 m m face :: cxB A8 V A7 n n :: (mat 25 2 A7 n n rs7 F))) := by
    have := hT11.call hst12
    rw [List.append_nil] at this
    exact this
  refine Ops.mv_tup rfl rfl rfl ?_
  refine Ops.extract rfl rfl rfl ?_
  refine Ops.extract rfl rfl rfl ?_
  refine Ops.new2 hT12 rfl ?_
  intro A11 w13 hT13
  refine Ops.st_agg 2 0 hT13 rfl rfl rfl rfl rfl rfl rfl ?_
  intro w14 hT14
  have hT14 : St w7 w14 ([cxB A11 V' A10 L.length c10] ++ (mat 25 2 A10 L.length c10 rs10 L ++ (CkI 2 A9 m m face :: cxB A8 V A7 n n :: (mat 25 2 A7 n n rs7 F)))) := hT14
  have box : ∀ {w' : World} {Ls : List (List Int)} {fc : List Int} {Fs : List (List Int)}, St w7 w' ([cxB A11 V' A10 L.length c10] ++ (mat 25 2 A10 L.length c10 rs10 Ls ++ (CkI 2 A9 m m fc :: cxB A8 V A7 n n :: (mat 25 2 A7 n n rs7 Fs)))) → Rd w' A8 2 (fun j => [Value.int .i64 V, .slice A7 n n].getD j undef) := fun h => ((h.sub (List.sublist_append_right _ _)).sub (List.sublist_append_right _ _)).rd 1 rfl
  have rowF : ∀ {w' : World} {Ls : List (List Int)} {fc : List Int} {Fs : List (List Int)}, St w7 w' ([cxB A11 V' A10 L.length c10] ++ (mat 25 2 A10 L.length c10 rs10 Ls ++ (CkI 2 A9 m m fc :: cxB A8 V A7 n n :: (mat 25 2 A7 n n rs7 Fs)))) → Fs.length = n → RowsI w' A7 n rs7 Fs := fun h hl => St.rowsI (ks := []) (by rw [List.append_nil]; exact (((h.sub (List.sublist_append_right _ _)).sub (List.sublist_append_right _ _)).tail).tail) hl
  have rowL : ∀ {w' : World} {Ls : List (List Int)} {fc : List Int} {Fs : List (List Int)}, St w7 w' ([cxB A11 V' A10 L.length c10] ++ (mat 25 2 A10 L.length c10 rs10 Ls ++ (CkI 2 A9 m m fc :: cxB A8 V A7 n n :: (mat 25 2 A7 n n rs7 Fs)))) → Ls.length = L.length → RowsI w' A10 L.length rs10 Ls := fun h hl => (h.sub (List.sublist_append_right _ _)).rowsI hl
  have rowf : ∀ {w' : World} {Ls : List (List Int)} {fc : List Int} {Fs : List (List Int)}, St w7 w' ([cxB A11 V' A10 L.length c10] ++ (mat 25 2 A10 L.length c10 rs10 Ls ++ (CkI 2 A9 m m fc :: cxB A8 V A7 n n :: (mat 25 2 A7 n n rs7 Fs)))) → RdI w' A9 m fc := fun h => ((h.sub (List.sublist_append_right _ _)).sub (List.sublist_append_right _ _)).rdI 0 rfl
  refine Ops.mv_int rfl rfl rfl ?_
  refine Ops.nil ?_
  refine thenQ_n ?_
  refine Cd.seq ?_
  refine Cd.seq ?_
  refine Cd.region ?_
  refine Ops.ld_agg 1 (hT14.rd 0 rfl) rfl rfl rfl ?_
  refine Ops.ld_agg 1 (hT14.old hA6) rfl rfl rfl ?_
  refine Ops.call (eqComplex_c V' A10 _ c10 rs10 L V' A5 _ c5 rs5 L _ (rowL hT14 rfl) (hT14.oldRows hP7) (by omega)) rfl rfl rfl ?_
  rintro _ w15 ⟨rfl, hst15⟩
  have hT15 := hT14.later hst15.below
  rw [decide_eq_true (show V' = V' ∧ L = L from ⟨rfl, rfl⟩)]
  first | refine Ops.not_p rfl rfl ?_ | refine Ops.not rfl rfl ?_
  refine Ops.mv_bool rfl rfl rfl ?_
  refine Ops.split 47 rfl (fun h => by cases h) (fun _ => ?_) --f
  refine Ops.rung rfl rfl rfl ?_
  refine Ops.mv_int rfl rfl rfl ?_
  refine Ops.rung rfl rfl rfl ?_
  refine Ops.mv_int rfl rfl rfl ?_
  refine Ops.rung rfl rfl rfl ?_
  refine Ops.neq rfl rfl rfl ?_
  refine Ops.pick_f rfl rfl rfl ?_
  refine Ops.nil ?_
  refine thenQ_n ?_
  refine Cd.cond_pf rfl (fun h => h rfl) ?_
  refine Cd.skip ?_
  refine thenQ_n ?_
  refine Cd.seq ?_
  refine Cd.seq ?_
  have hX8 := box hT15
  have hAb15 := hT15.old hAb
  have hR15 := hT15.oldRows hR7
  have hF15 := rowF hT15 hxl
  refine Cd.draw [.ex (.agg #[.int .i64 (V), .slice (A7) (n) (n)]), .ex (.agg #[.int .i64 (V), .slice (A) (n) (c)]), .pr (fun v w' => ∃ D rd, v = .agg #[.int .i64 V, .slice D n n] ∧ RowsI w' D n rd F), .ex (.bool (true)), .ex (.bool (false))] (by kernel_rfl) (by kernel_rfl) rfl (List.forall_mem_cons.2 ⟨Yd.lasts_ex _, (List.forall_mem_cons.2 ⟨Yd.lasts_ex _, (List.forall_mem_cons.2 ⟨Yd.lasts_pr (fun v w w' h hb => by obtain ⟨D, rd, hv, h1⟩ := h; exact ⟨D, rd, hv, h1.later hb⟩), (List.forall_mem_cons.2 ⟨Yd.lasts_ex _, (List.forall_mem_cons.2 ⟨Yd.lasts_ex _, (fun _ h => by cases h)⟩)⟩)⟩)⟩)⟩) ⟨?_, ?_, ?_, ?_, ?_, trivial⟩ ?_
  · intro e1 w1 hb hp hun
    refine Ops.ld_agg 1 (hX8.below hb) rfl rfl rfl ?_
    refine Ops.nil ?_
    exact After.dn (Below.refl _ _) (by exact rfl)
  · intro e1 w1 hb hp hun
    refine Ops.ld_agg 1 (hAb15.below hb) rfl rfl rfl ?_
    refine Ops.nil ?_
    exact After.dn (Below.refl _ _) (by exact rfl)
  · intro e1 w1 hb hp hun
    refine Ops.call (toComplex_c V A n c rs F _ (hR15.later hb) hfit) rfl rfl rfl ?_
    rintro _ w2 ⟨D, rd, rfl, hrd, hst⟩
    refine Ops.nil ?_
    exact After.dn hst.below ⟨D, rd, rfl, St.rowsI (ks := []) (by rwa [List.append_nil]) hxl⟩
  · intro e1 w1 hb hp hun
    obtain ⟨D, rd, h43, h1⟩ := (hp 2 (by decide) rfl _ _ rfl rfl)
    refine Ops.call (eqComplex_c V A7 n n rs7 F V D n n rd F _ (hF15.later hb) h1 hn) rfl (by exact congrArg (fun v => [Value.agg #[.int .i64 V, .slice A7 n n], v]) h43) rfl ?_
    rintro _ w2 ⟨rfl, hst⟩
    refine Ops.nil ?_
    exact After.dn hst.below (by exact congrArg Value.bool (decide_eq_true ⟨rfl, rfl⟩))
  · intro e1 w1 hb hp hun
    refine Ops.not rfl rfl ?_
    refine Ops.nil ?_
    exact After.dn (Below.refl _ _) (by exact congrArg Value.bool (rfl))
  intro u w16 hb16 _
  have hT16 := hT15.later hb16
  refine thenQ_n ?_
  refine Cd.cond_f rfl ?_
  refine Cd.skip ?_
  refine thenQ_n ?_
  refine Cd.seq ?_
  refine Cd.seq ?_
  refine Cd.region ?_
  refine Ops.mv_sl rfl rfl rfl ?_
  refine Ops.mv_sl rfl rfl rfl ?_
  refine Ops.call (toInt64S_c B m d face _ (hT16.oldI hB7) (by omega)) rfl rfl rfl ?_
  rintro _ w17 ⟨A12, rfl, hst17⟩
  have hT17 := hT16.later hst17.below
  refine Ops.call (eqInt64S_c A9 m m face A12 m m face _ (rowf hT17) (hst17.rdI 0 rfl) (by omega)) rfl rfl rfl ?_
  rintro _ w18 ⟨rfl, hst18⟩
  have hT18 := hT17.later hst18.below
  first | refine Ops.not_p rfl rfl ?_ | refine Ops.not rfl rfl ?_
  refine Ops.nil ?_
  refine thenQ_n ?_
  refine Cd.cond_pf rfl (fun h => h rfl) ?_
  refine Cd.skip ?_
  refine thenQ_n ?_
  refine Cd.seq ?_
  refine Cd.region ?_
  refine Ops.mv_int rfl rfl rfl ?_
  refine Ops.nil ?_
  refine thenQ_n ?_
  refine Cd.seq ?_
  refine Cd.region ?_
  refine Ops.ld_agg 1 (box hT18) rfl rfl rfl ?_
  refine Ops.mv_int rfl rfl rfl ?_
  refine Ops.call (markComplex_c (pre := [cxB A11 V' A10 L.length c10] ++ (mat 25 2 A10 L.length c10 rs10 L ++ [CkI 2 A9 m m face, cxB A8 V A7 n n])) (post := []) (rs := rs7) V 1 (by simpa only [List.append_assoc, List.cons_append, List.nil_append, List.append_nil] using hT18) hrl7 hxl hsm.1 (fun i hi => ?_) (by omega)) rfl rfl rfl ?_
  · have h1 := ((rowF hT18 hxl).row i hi).1
    have h2 := (hR.row i hi).1
    have h3 := hsm.2 i hi
    omega
  rintro _ w19 ⟨K1, ys, rfl, hK1, hyl, hT19⟩
  have hT19 : St w7 w19 ([cxB A11 V' A10 L.length c10] ++ (mat 25 2 A10 L.length c10 rs10 L ++ (CkI 2 A9 m m face :: cxB A8 V A7 n n :: (mat 25 2 A7 n n rs7 ys)))) := by simpa only [List.append_assoc, List.cons_append, List.nil_append, List.append_nil] using hT19
  have hlk : (mat 25 2 A10 L.length c10 rs10 L).length = L.length + 1 := by simp only [mat, List.length_cons, rowsCk_length hrl10, hrl10]
  have hget : ∀ (fc : List Int) (Q : List Ck), ([cxB A11 V' A10 L.length c10] ++ (mat 25 2 A10 L.length c10 rs10 L ++ (CkI 2 A9 m m fc :: Q)))[1 + (L.length + 1)]? = some (CkI 2 A9 m m fc) := fun fc Q => by
    rw [List.getElem?_append_right (by simp), List.getElem?_append_right (by rw [hlk]; simp)]
    simp [hlk]
  have hset : ∀ (fc f2 : List Int) (Q : List Ck), ([cxB A11 V' A10 L.length c10] ++ (mat 25 2 A10 L.length c10 rs10 L ++ (CkI 2 A9 m m fc :: Q))).set (1 + (L.length + 1)) (CkI 2 A9 m m f2) = [cxB A11 V' A10 L.length c10] ++ (mat 25 2 A10 L.length c10 rs10 L ++ (CkI 2 A9 m m f2 :: Q)) := fun fc f2 Q => by
    rw [List.set_append_right _ _ (by simp), List.set_append_right _ _ (by rw [hlk]; simp)]
    simp [hlk]
  refine Ops.mv_int rfl rfl rfl ?_
  refine Ops.nil ?_
  refine thenQ_n ?_
  refine Cd.seq ?_
  refine Cd.region ?_
  refine Ops.mv_sl rfl rfl rfl ?_
  refine Ops.mv_int rfl rfl rfl ?_
  refine Ops.call (markInt64S_c (1 + (L.length + 1)) K1 hT19 (hget face _) (by omega)) rfl rfl rfl ?_
  rintro _ w20 ⟨rfl, hT20⟩
  rw [hset] at hT20
  refine Ops.mv_int rfl rfl rfl ?_
  refine Ops.nil ?_
  refine thenQ_n ?_
  refine Cd.seq ?_
  refine Cd.seq ?_
  refine Cd.region ?_
  refine Ops.mv_int rfl rfl rfl ?_
  refine Ops.lss rfl rfl rfl ?_
  refine Ops.mv_bool rfl rfl rfl ?_
  refine Ops.split_p 70 rfl (fun h => absurd h (by omega)) (fun _ => ?_) --f
  refine Ops.rung rfl rfl rfl ?_
  refine Ops.ld_agg 1 (hT20.rd 0 rfl) rfl rfl rfl ?_
  refine Ops.rung rfl rfl rfl ?_
  refine Ops.ld_agg 1 (hT20.old hA6) rfl rfl rfl ?_
  refine Ops.rung rfl rfl rfl ?_
  refine Ops.call (eqComplex_c V' A10 _ c10 rs10 L V' A5 _ c5 rs5 L _ (rowL hT20 rfl) (hT20.oldRows hP7) (by omega)) rfl rfl rfl ?_
  rintro _ w21 ⟨rfl, hst21⟩
  have hT21 := hT20.later hst21.below
  rw [decide_eq_true (show V' = V' ∧ L = L from ⟨rfl, rfl⟩)]
  refine Ops.rung rfl rfl rfl ?_
  first | refine Ops.not_p rfl rfl ?_ | refine Ops.not rfl rfl ?_
  refine Ops.pick_f rfl rfl rfl ?_
  refine Ops.mv_bool rfl rfl rfl ?_
  refine Ops.split 76 rfl (fun h => by cases h) (fun _ => ?_) --f
  refine Ops.rung rfl rfl rfl ?_
  refine Ops.mv_int rfl rfl rfl ?_
  refine Ops.rung rfl rfl rfl ?_
  refine Ops.mv_int rfl rfl rfl ?_
  refine Ops.rung rfl rfl rfl ?_
  refine Ops.neq rfl rfl rfl ?_
  refine Ops.pick_f rfl rfl rfl ?_
  refine Ops.nil ?_
  refine thenQ_n ?_
  refine Cd.cond_pf rfl (fun h => h rfl) ?_
  refine Cd.skip ?_
  refine thenQ_n ?_
  refine Cd.seq ?_
  refine Cd.region ?_
  refine Ops.mv_int rfl rfl rfl ?_
  refine Ops.nil ?_
  refine thenQ_n ?_
  refine Cd.seq ?_
  refine Cd.region ?_
  refine Ops.ld_agg 1 (hT21.rd 0 rfl) rfl rfl rfl ?_
  refine Ops.mv_int rfl rfl rfl ?_
  refine Ops.call (markCx_c (pre := [cxB A11 V' A10 L.length c10]) (rs := rs10) V' 1 hT21 hrl10 rfl hbd.1 hbd.2 (by omega)) rfl rfl rfl ?_
  rintro _ w22 ⟨rfl, hT22⟩
  have htot := tot_le (b := 1000) L hbd.2
  refine Ops.mv_int rfl rfl rfl ?_
  refine Ops.nil ?_
  refine thenQ_n ?_
  refine Cd.seq ?_
  refine Cd.region ?_
  refine Ops.mv_int rfl rfl rfl ?_
  refine Ops.nil ?_
  refine thenQ_n ?_
  refine Cd.seq ?_
  refine Cd.region ?_
  refine Ops.ld_agg 1 (hT22.rd 0 rfl) rfl rfl rfl ?_
  refine Ops.mv_int rfl rfl rfl ?_
  refine Ops.call (heldCx_c V' A10 L.length c10 rs10 L 1 _ (rowL hT22 (mkSS_len _ _)) hbd.1 hbd.2 (by omega)) rfl rfl rfl ?_
  rintro _ w23 ⟨rfl, hst23⟩
  have hT23 := hT22.later hst23.below
  refine Ops.mv_int rfl rfl rfl ?_
  refine Ops.nil ?_
  refine thenQ_n ?_
  refine Cd.seq ?_
  refine Cd.seq ?_
  refine Cd.region ?_
  refine Ops.mv_int rfl rfl rfl ?_
  refine Ops.lss rfl rfl rfl ?_
  refine Ops.nil ?_
  refine thenQ_n ?_
  refine Cd.cond_pf rfl (by omega) ?_
  refine Cd.skip ?_
  refine thenQ_n ?_
  refine Cd.seq ?_
  refine Cd.seq ?_
  refine Cd.region ?_
  refine Ops.mv_int rfl rfl rfl ?_
  refine Ops.mv_int rfl rfl rfl ?_
  refine Ops.neq rfl rfl rfl ?_
  refine Ops.nil ?_
  refine thenQ_n ?_
  refine Cd.cond_pf rfl (fun h => h rfl) ?_
  refine Cd.skip ?_
  refine thenQ_n ?_
  refine Cd.seq ?_
  refine Cd.region ?_
  refine Ops.ld_agg 1 (hT23.old hAb) rfl rfl rfl ?_
  refine Ops.call (toComplex_c V A n c rs F _ (hT23.oldRows hR7) hfit) rfl rfl rfl ?_
  rintro _ w24 ⟨A13, rs13, rfl, hrl13, hst24⟩
  have hT24 := hT23.later hst24.below
  have hX24 : RowsI w24 A13 n rs13 F := St.rowsI (ks := []) (by rwa [List.append_nil]) hxl
  refine Ops.mv_sl rfl rfl rfl ?_
  refine Ops.call (toInt64S_c B m d face _ (hT24.oldI hB7) (by omega)) rfl rfl rfl ?_
  rintro _ w25 ⟨A14, rfl, hst25⟩
  have hT25 := hT24.later hst25.below
  have hI2 := implLinkOf_c V A13 n n rs13 F A14 m m face w25 (hT7.later hT25.below) (hX24.later hst25.below) (hst25.rdI 0 rfl) hn (by omega)
  rw [hLe, hKe, hVe] at hI2
  refine Ops.call hI2 rfl rfl rfl ?_
  rintro _ w26 ⟨A15, c15, rs15, rfl, hrl15, hst26⟩
  have hT26 := hT25.later hst26.below
  refine Ops.mv_tup rfl rfl rfl ?_
  refine Ops.extract rfl rfl rfl ?_
  refine Ops.extract rfl rfl rfl ?_
  refine Ops.new2 (St.refl w26) rfl ?_
  intro A16 w27 hU27
  refine Ops.st_agg 2 0 hU27 rfl rfl rfl rfl rfl rfl rfl ?_
  intro w28 hU28
  have hT28 := hT26.later hU28.below
  refine Ops.mv_int rfl rfl rfl ?_
  refine Ops.nil ?_
  refine thenQ_n ?_
  refine Cd.seq ?_
  refine Cd.seq ?_
  refine Cd.region ?_
  refine Ops.ld_agg 1 (hU28.rd 0 rfl) rfl rfl rfl ?_
  refine Ops.ld_agg 1 (hT28.old hA6) rfl rfl rfl ?_
  refine Ops.call (eqComplex_c V' A15 _ c15 rs15 L V' A5 _ c5 rs5 L _ ((hst26.rowsI rfl).later hU28.below) (hT28.oldRows hP7) (by omega)) rfl rfl rfl ?_
  rintro _ w29 ⟨rfl, hst29⟩
  have hT29 := hT28.later hst29.below
  rw [decide_eq_true (show V' = V' ∧ L = L from ⟨rfl, rfl⟩)]
  first | refine Ops.not_p rfl rfl ?_ | refine Ops.not rfl rfl ?_
  refine Ops.mv_bool rfl rfl rfl ?_
  refine Ops.split 104 rfl (fun h => by cases h) (fun _ => ?_) --f
  refine Ops.rung rfl rfl rfl ?_
  refine Ops.mv_int rfl rfl rfl ?_
  refine Ops.rung rfl rfl rfl ?_
  refine Ops.mv_int rfl rfl rfl ?_
  refine Ops.rung rfl rfl rfl ?_
  refine Ops.neq rfl rfl rfl ?_
  refine Ops.pick_f rfl rfl rfl ?_
  refine Ops.nil ?_
  refine thenQ_n ?_
  refine Cd.cond_pf rfl (fun h => h rfl) ?_
  refine Cd.skip ?_
  refine thenQ_n ?_
  refine Cd.seq ?_
  refine Cd.region ?_
  refine Ops.mv_int rfl rfl rfl ?_
  refine Ops.nil ?_
  refine thenQ_n ?_
  refine Cd.seq ?_
  refine Cd.region ?_
  refine Ops.ld_agg 1 (hT29.rd 0 rfl) rfl rfl rfl ?_
  refine Ops.mv_int rfl rfl rfl ?_
  refine Ops.call (heldCx_c V' A10 L.length c10 rs10 L 1 _ (rowL hT29 (mkSS_len _ _)) hbd.1 hbd.2 (by omega)) rfl rfl rfl ?_
  rintro _ w30 ⟨rfl, hst30⟩
  refine Ops.mv_int rfl rfl rfl ?_
  refine Ops.nil ?_
  refine thenQ_n ?_
  refine Cd.seq ?_
  refine Cd.seq ?_
  refine Cd.region ?_
  refine Ops.mv_int rfl rfl rfl ?_
  refine Ops.lss rfl rfl rfl ?_
  refine Ops.nil ?_
  refine thenQ_n ?_
  refine Cd.cond_pf rfl (by omega) ?_
  refine Cd.skip ?_
  refine thenQ_n ?_
  refine Cd.seq ?_
  refine Cd.seq ?_
  refine Cd.region ?_
  refine Ops.mv_int rfl rfl rfl ?_
  refine Ops.mv_int rfl rfl rfl ?_
  refine Ops.neq rfl rfl rfl ?_
  refine Ops.nil ?_
  refine thenQ_n ?_
  refine Cd.cond_pf rfl (fun h => h rfl) ?_
  refine Cd.skip ?_
  refine thenQ_n ?_
  refine Cd.seq ?_
  refine Cd.region ?_
  refine Ops.mv_bool rfl rfl rfl ?_
  refine Ops.nil ?_
  refine thenQ_n ?_
  refine Cd.ret ?_
  refine ret1_b rfl ?_
  exact ⟨rfl, (hS7.later ((hT29.later hst30.below).below)).none⟩
end Go.Proofs.YtdedegbendjmbaaGreatDoor.Vc
