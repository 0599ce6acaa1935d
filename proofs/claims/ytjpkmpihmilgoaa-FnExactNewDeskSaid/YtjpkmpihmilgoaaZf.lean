/-
  The texts D2, C7, Rpl, C8, D3, D4, D5, D8, D9, Cs1, Drp, Cs2, Im1, Im2, Two, Pai, Im3, Im4, Map in one. Conditions: as each part states them.
-/
import Derived.Test.YtjpkmpihmilgoaaLayb
import Derived.Test.YtjpkmpihmilgoaaZe
import Derived.Shelf.SlicesE.Compact
import Derived.Shelf.SlicesE.Delete
import Derived.Test.YtjpkmpihmilgoaaZb
import Derived.Shelf.SortM.SortNone
import Derived.Test.YtjpkmpihmilgoaaZc
import Derived.Test.YtjpkmpihmilgoaaZa
import Derived.Test.YtjpkmpihmilgoaaZd
import Derived.MapKept
import Derived.Carry
/-
  The library's Compact of an ascending list of one's own, and its Delete in a list of lists of one's own; sets as ascending lists. Conditions: as each states them.
-/
namespace Go.Proofs.Ytjpkmpihmilgoaa.Vc
open Go.RowKit Go.Sort

/-! what the library leaves in a row of one's own -/
/-! ascending lists without twins -/
def SA (l : List Int) : Prop := l.Pairwise (· < ·)
def cmpL (xs : List Int) : List Int := Lib.compactUpTo xs.toArray xs.toArray.size
/-- the elements of a list as an ascending list without twins -/
def cs (l : List Int) : List Int := cmpL (srt l)
instance : Inhabited SlV := ⟨slNil⟩
end Go.Proofs.Ytjpkmpihmilgoaa.Vc
/-
  The walk of the law FnExactPetrieCycles: it returns true. Conditions: as it states them.
-/
namespace Go.Proofs.Ytjpkmpihmilgoaa.Vc
open Go.RowKit

theorem St.matNil {w0 w : World} {t1 t2 : TypeId} {A : Option Addr} {n c : Nat} {rs : List SlV} {xss : List (List Int)} {pre : List Ck} (h : St w0 w (pre ++ mat t1 t2 A n c rs xss)) : St w0 w (pre ++ (mat t1 t2 A n c rs xss ++ [])) := by rwa [List.append_nil]

end Go.Proofs.Ytjpkmpihmilgoaa.Vc
/-
  The walk of slices.Repeat at a list of some numbers. Conditions: as it states them.
-/
namespace Go.Proofs.Ytjpkmpihmilgoaa.Vc
open Go.RowKit

/-- n copies of a list, one behind the other -/
def pow (xs : List Int) (n : Nat) : List Int := (List.replicate n xs).flatten
theorem pow_len (xs : List Int) (n : Nat) : (pow xs n).length = xs.length * n := by simp [pow, Nat.mul_comm]
theorem pow_succ (xs : List Int) (n : Nat) : pow xs (n + 1) = pow xs n ++ xs := by simp [pow, List.replicate_succ']
theorem pow_succ' (xs : List Int) (n : Nat) : pow xs (n + 1) = xs ++ pow xs n := by simp [pow, List.replicate_succ]
theorem pow_get {xs : List Int} (h : 0 < xs.length) : ∀ (n j : Nat), j < xs.length * n → (pow xs n)[j]? = xs[j % xs.length]?
  | 0, j, hj => by simp at hj
  | n + 1, j, hj => by
    rw [pow_succ']
    by_cases hx : j < xs.length
    · rw [List.getElem?_append_left hx, Nat.mod_eq_of_lt hx]
    · rw [List.getElem?_append_right (by omega), pow_get h n _ (by rw [Nat.mul_succ] at hj; omega), ← Nat.mod_eq_sub_mod (by omega)]
theorem pow_shift {xs : List Int} (h : 0 < xs.length) {n m j : Nat} (hm : xs.length ∣ m) (hj : m + j < xs.length * n) : (pow xs n)[m + j]? = (pow xs n)[j]? := by
  rw [pow_get h n _ hj, pow_get h n _ (by omega)]
  obtain ⟨q, rfl⟩ := hm
  rw [Nat.add_comm, Nat.add_mul_mod_self_left]

/-- what a part of the copies looks like -/
def part (T : List Int) (m : Nat) : List Int := T.take m ++ List.replicate (T.length - m) 0
theorem part_len {T : List Int} {m : Nat} (h : m ≤ T.length) : (part T m).length = T.length := by simp [part]; omega
theorem part_get {T : List Int} {m j : Nat} (h : m ≤ T.length) (hj : j < T.length) : (part T m)[j]? = if j < m then T[j]? else some 0 := by
  unfold part
  by_cases hjm : j < m
  · rw [List.getElem?_append_left (by simp; omega), List.getElem?_take, if_pos hjm, if_pos hjm]
  · rw [List.getElem?_append_right (by simp; omega), if_neg hjm, List.getElem?_replicate, if_pos (by simp; omega)]
theorem part_copy {T : List Int} {m q : Nat} (hm : m ≤ T.length) (hq : q ≤ T.length - m) (hs : ∀ j, j < q → T[m + j]? = T[j]?) :
    ((part T m).map (Value.int .i64)).take m ++ (List.range q).map (fun j => Value.int .i64 (T.getD j 0)) ++ ((part T m).map (Value.int .i64)).drop (m + q) = (part T (m + q)).map (Value.int .i64) := by
  apply List.ext_getElem?
  intro j
  have hl := part_len hm
  have hl2 := part_len (T := T) (m := m + q) (by omega)
  by_cases h1 : j < m
  · rw [List.append_assoc, List.getElem?_append_left (by simp; omega), List.getElem?_take, if_pos h1, List.getElem?_map, List.getElem?_map, part_get hm (by omega), part_get (by omega) (by omega), if_pos h1, if_pos (by omega)]
  · by_cases h2 : j < m + q
    · obtain ⟨i, rfl⟩ : ∃ i, j = m + i := ⟨j - m, by omega⟩
      rw [List.append_assoc, List.getElem?_append_right (by simp; omega), List.getElem?_append_left (by simp; omega), List.getElem?_map, List.getElem?_map, part_get (by omega) (by omega), if_pos h2, hs i (by omega)]
      simp only [List.length_take, List.length_map, hl, show min m T.length = m by omega, Nat.add_sub_cancel_left]
      rw [List.getElem?_range (by omega)]
      simp [List.getD_eq_getElem?_getD, List.getElem?_eq_getElem (show i < T.length by omega)]
    · rw [List.getElem?_append_right (by simp; omega), List.getElem?_drop]
      simp only [List.length_append, List.length_take, List.length_map, List.length_range, hl, show min m T.length = m by omega]
      rw [show m + q + (j - (m + q)) = j by omega, List.getElem?_map, List.getElem?_map]
      by_cases h3 : j < T.length
      · rw [part_get hm h3, part_get (by omega) h3, if_neg h1, if_neg h2]
      · rw [List.getElem?_eq_none (by omega), List.getElem?_eq_none (by omega)]
theorem part_all (T : List Int) : part T T.length = T := by simp [part]

theorem RepeatL_c (A : Option Addr) (a c : Nat) (xs : List Int) (n : Nat) (w : World) (hR : RdI w A a xs) (ha : 0 < a ∧ a ≤ 1000) (hn : n ≤ 1000) :
    Ret Try.prog 48 [.slice A a c, .int .i64 (n : Int)] w (fun v w' => ∃ A', v = .slice A' (a * n) (a * n) ∧ St w w' [CkI 2 A' (a * n) (a * n) (pow xs n)]) := by
  have hxl := hR.1
  have hMn : ((a : Int) * (n : Int)) = ((a * n : Nat) : Int) := rfl
  have hN0 : a * n ≤ 1000000 := Nat.mul_le_mul ha.2 hn
  have hTl : (pow xs n).length = a * n := by rw [pow_len, hxl]
  have hz : n = 0 → a * n = 0 := fun h => by subst h; rfl
  have hnz : 0 < n → a ≤ a * n := fun h => Nat.le_mul_of_pos_right a h
  have hdv : a ∣ a * n := Nat.dvd_mul_right a n
  have hsh : ∀ m j, a ∣ m → m + j < a * n → (pow xs n)[m + j]? = (pow xs n)[j]? := fun m j hm hj => pow_shift (by omega) (by rw [hxl]; exact hm) (by rw [hxl]; exact hj)
  have hpre : ∀ j, j < min a (a * n) → xs[j]? = (pow xs n)[j]? := fun j hj => by rw [pow_get (by omega) n j (by rw [hxl]; omega), Nat.mod_eq_of_lt (by omega)]
  refine Ret.of_cd Try.func48 rfl Try.ntmps48 rfl (post1 rfl) ?_
  refine Cd.seq ?_
  refine Cd.region ?_
  refine Ops.mv_sl rfl rfl rfl ?_
  refine Ops.nil ?_
  refine thenQ_n ?_
  refine Cd.seq ?_
  refine Cd.seq ?_
  refine Cd.region ?_
  refine Ops.mv_int rfl rfl rfl ?_
  refine Ops.lss rfl rfl rfl ?_
  refine Ops.nil ?_
  refine thenQ_n ?_
  refine Cd.cond_pf rfl (by omega) ?_
  refine Cd.skip ?_
  refine thenQ_n ?_
  refine Cd.seq ?_
  refine Cd.region ?_
  refine Ops.mv_sl rfl rfl rfl ?_
  refine Ops.len rfl rfl ?_
  refine Ops.convK (i := (a : Int)) rfl rfl (wrap_u64_in _ (by omega)) ?_
  refine Ops.mv_int rfl rfl rfl ?_
  refine Ops.convK (i := (n : Int)) rfl rfl (wrap_u64_in _ (by omega)) ?_
  refine Ops.call (Mul_c a n _ (by omega) (by omega)) rfl rfl rfl ?_
  rintro _ w ⟨rfl, rfl⟩
  rw [hMn]
  generalize hT : pow xs n = T at *
  generalize hNe : a * n = N at *
  subst hTl
  refine Ops.mv_tup rfl rfl rfl ?_
  refine Ops.extract rfl rfl rfl ?_
  refine Ops.extract rfl rfl rfl ?_
  refine Ops.mv_int rfl rfl rfl ?_
  refine Ops.mv_int rfl rfl rfl ?_
  refine Ops.nil ?_
  refine thenQ_n ?_
  refine Cd.seq ?_
  refine Cd.seq ?_
  refine Cd.region ?_
  refine Ops.mv_int rfl rfl rfl ?_
  refine Ops.gtr rfl rfl rfl ?_
  refine Ops.mv_bool rfl rfl rfl ?_
  refine Ops.split_p 23 rfl (fun h => absurd h (by decide)) (fun _ => ?_) --f
  refine Ops.rung rfl rfl rfl ?_
  refine Ops.mv_int rfl rfl rfl ?_
  refine Ops.rung rfl rfl rfl ?_
  refine Ops.gtr rfl rfl rfl ?_
  refine Ops.pick_f rfl rfl rfl ?_
  refine Ops.nil ?_
  refine thenQ_n ?_
  refine Cd.cond_pf rfl (by omega) ?_
  refine Cd.skip ?_
  refine thenQ_n ?_
  refine Cd.seq ?_
  refine Cd.region ?_
  refine Ops.mv_int rfl rfl rfl ?_
  refine Ops.convK (i := (T.length : Int)) rfl rfl (IntWalk.i64_in _ (by omega)) ?_
  refine Ops.mkI T.length (St.refl w) rfl rfl (by omega) ?_
  intro A1 w1 hS1
  refine Ops.mv_sl rfl rfl rfl ?_
  refine Ops.nil ?_
  refine thenQ_n ?_
  refine Cd.seq ?_
  refine Cd.region ?_
  refine Ops.mv_sl rfl rfl rfl ?_
  refine Ops.mv_sl rfl rfl rfl ?_
  refine Ops.cp 0 0 (min a T.length) hS1 rfl (hS1.oldI hR).2 (Nat.zero_le _) (by rw [cutAt_zero]; rfl) rfl (fun _ _ => rfl) rfl rfl ?_
  intro w2 hS2
  refine Ops.mv_int rfl rfl rfl ?_
  refine Ops.nil ?_
  refine thenQ_n ?_
  refine Cd.seq ?_
  refine Cd.block ?_
  have h3 : St w w2 [CkI 2 A1 T.length T.length (part T (min a T.length))] := by
    have e := part_copy (T := T) (m := 0) (q := min a T.length) (Nat.zero_le _) (by omega) (fun j hj => by rw [Nat.zero_add])
    have e0 : part T 0 = List.replicate T.length 0 := by simp [part]
    have e1 : (List.range (min a T.length)).map (fun j => Value.int .i64 (xs.getD j 0)) = (List.range (min a T.length)).map (fun j => Value.int .i64 (T.getD j 0)) := by
      refine List.map_congr_left fun j hj => ?_
      rw [List.getD_eq_getElem?_getD, List.getD_eq_getElem?_getD, hpre j (List.mem_range.1 hj)]
    rw [e0, Nat.zero_add] at e
    have e2 : ([CkI 2 A1 T.length T.length (List.replicate T.length 0)].set 0 { CkI 2 A1 T.length T.length (List.replicate T.length 0) with vs := (CkI 2 A1 T.length T.length (List.replicate T.length 0)).vs.take 0 ++ (List.range (min a T.length)).map (fun j => Value.int .i64 (xs.getD j 0)) ++ (CkI 2 A1 T.length T.length (List.replicate T.length 0)).vs.drop (0 + min a T.length) }) = [CkI 2 A1 T.length T.length (part T (min a T.length))] := by
      rw [e1, Nat.zero_add]
      show [(⟨A1, T.length, T.length, _, _⟩ : Ck)] = [⟨A1, T.length, T.length, _, _⟩]
      rw [← e]
    rw [← e2]; exact hS2
  refine Cd.loop (α := Nat) (fun m => [(7, .slice A1 T.length T.length), (8, .int .i64 (m : Int))]) (fun m w' => St w w' [CkI 2 A1 T.length T.length (part T m)] ∧ m ≤ T.length ∧ a ∣ m ∧ (0 < T.length → 0 < m)) (fun m => T.length - m) (min a T.length) ⟨rfl, rfl, trivial⟩ ⟨h3, by omega, ?_, by omega⟩ ?_
  · by_cases h0 : a ≤ T.length
    · rw [Nat.min_eq_left h0]; exact Nat.dvd_refl a
    · rw [Nat.min_eq_right (by omega)]; exact hdv
  rintro m e w3 ⟨hS3, hm, hdm, hm0⟩
  refine Cd.seq ?_
  refine Cd.seq ?_
  refine Cd.region ?_
  refine Ops.mv_int rfl rfl rfl ?_
  refine Ops.mv_sl rfl rfl rfl ?_
  refine Ops.len rfl rfl ?_
  refine Ops.lss rfl rfl rfl ?_
  refine Ops.nil ?_
  refine thenQ_n ?_
  refine Cd.cond_p _ rfl (fun h4 => ?_) (fun h4 => ?_)
  · refine Cd.skip ?_
    refine thenQ_n ?_
    refine Cd.block ?_
    have hlen := part_len hm
    have hR2 : ∀ {w1 : World}, Below w3.heap.size w3 w1 → Rd w1 A1 m (fun j => .int .i64 (T.getD j 0)) := fun hb j hj => by
      have h5 := (hS3.later hb).rd 0 rfl j (by show j < T.length; omega)
      have h6 : ((part T m).map (Value.int .i64)).getD j undef = .int .i64 (T.getD j 0) := by
        rw [List.getD_eq_getElem?_getD, List.getElem?_map, part_get hm (by omega), if_pos hj]
        simp [List.getD_eq_getElem?_getD, List.getElem?_eq_getElem (show j < T.length by omega)]
      obtain ⟨p, hp, hc⟩ := h5
      exact ⟨p, hp, hc.trans (congrArg some h6)⟩
    have hR3 := part_copy (T := T) (m := m) (q := min m (T.length - m)) hm (by omega) (fun j hj => hsh m j hdm (by omega))
    refine Cd.drawM 7 (fun v w' => v = .int .i64 ((min m (T.length - m) : Nat) : Int) ∧ St w w' [CkI 2 A1 T.length T.length (part T (m + min m (T.length - m)))]) [.ex (.int .i64 ((m : Int))), .ex (.slice (A1) (T.length) (T.length)), .ex (.int .i64 ((m : Int))), .ex (.slice (cutAt A1 T.length m) (T.length - m) (T.length - m)), .ex (.slice (A1) (T.length) (T.length)), .ex (.int .i64 ((m : Int))), .ex (.slice (A1) (m) (T.length)), .pr (fun v w' => v = .int .i64 ((min m (T.length - m) : Nat) : Int) ∧ St w w' [CkI 2 A1 T.length T.length (part T (m + min m (T.length - m)))]), .ex (.int .i64 ((m : Int) + ((min m (T.length - m) : Nat) : Int))), .ex (.int .i64 ((m : Int) + ((min m (T.length - m) : Nat) : Int)))] (by kernel_rfl) (by kernel_rfl) rfl rfl (by kernel_rfl) (List.forall_mem_cons.2 ⟨Yd.lasts_ex _, (List.forall_mem_cons.2 ⟨Yd.lasts_ex _, (List.forall_mem_cons.2 ⟨Yd.lasts_ex _, (List.forall_mem_cons.2 ⟨Yd.lasts_ex _, (List.forall_mem_cons.2 ⟨Yd.lasts_ex _, (List.forall_mem_cons.2 ⟨Yd.lasts_ex _, (List.forall_mem_cons.2 ⟨Yd.lasts_ex _, (List.forall_mem_cons.2 ⟨Yd.lasts_pr (fun v w w' h hb => ⟨h.1, h.2.later hb⟩), (List.forall_mem_cons.2 ⟨Yd.lasts_ex _, (List.forall_mem_cons.2 ⟨Yd.lasts_ex _, (fun _ h => by cases h)⟩)⟩)⟩)⟩)⟩)⟩)⟩)⟩)⟩)⟩) ⟨?_, ?_, ?_, ?_, ?_, ?_, ?_, ?_, ?_, ?_, trivial⟩ ?_
    · intro e1 w1 hph hp hun
      show Ops _ _ _ _ _ _ _
      refine Ops.mv_int rfl (by exact hun 9 _ rfl (by kernel_rfl)) rfl ?_
      refine Ops.nil ?_
      exact After.dn (Below.refl _ _) (by exact rfl)
    · intro e1 w1 hph hp hun
      show Ops _ _ _ _ _ _ _
      refine Ops.mv_sl rfl rfl rfl ?_
      refine Ops.nil ?_
      exact After.dn (Below.refl _ _) (by exact rfl)
    · intro e1 w1 hph hp hun
      show Ops _ _ _ _ _ _ _
      refine Ops.mv_int rfl (by exact hun 9 _ rfl (by kernel_rfl)) rfl ?_
      refine Ops.nil ?_
      exact After.dn (Below.refl _ _) (by exact rfl)
    · intro e1 w1 hph hp hun
      show Ops _ _ _ _ _ _ _
      refine Ops.cut_l rfl rfl rfl (by omega) ?_
      refine Ops.nil ?_
      exact After.dn (Below.refl _ _) (by exact rfl)
    · intro e1 w1 hph hp hun
      show Ops _ _ _ _ _ _ _
      refine Ops.mv_sl rfl rfl rfl ?_
      refine Ops.nil ?_
      exact After.dn (Below.refl _ _) (by exact rfl)
    · intro e1 w1 hph hp hun
      show Ops _ _ _ _ _ _ _
      refine Ops.mv_int rfl (by exact hun 9 _ rfl (by kernel_rfl)) rfl ?_
      refine Ops.nil ?_
      exact After.dn (Below.refl _ _) (by exact rfl)
    · intro e1 w1 hph hp hun
      show Ops _ _ _ _ _ _ _
      refine Ops.cut_h rfl rfl rfl (by omega) ?_
      refine Ops.nil ?_
      exact After.dn (Below.refl _ _) (by exact rfl)
    · intro e1 w1 hph hp hun
      refine fun hb => ?_
      refine Ops.cp 0 m (min m (T.length - m)) (hS3.later hb) rfl (f := fun j => .int .i64 (T.getD j 0)) (hR2 hb) (by omega) rfl rfl (fun _ _ => rfl) rfl rfl ?_
      intro w5 hS5
      refine Ops.nil ?_
      exact AfterM.dn ⟨rfl, by show St w w5 [⟨A1, T.length, T.length, _, (part T (m + min m (T.length - m))).map (Value.int .i64)⟩]; rw [← hR3]; exact hS5⟩ --exact After
    · intro e1 w1 hph hp hun
      show Ops _ _ _ _ _ _ _
      have h45 : e1 45 = .int .i64 _ := (hp 7 (by decide) rfl _ _ rfl rfl).1
      refine Ops.add rfl (by exact h45) rfl (by omega) ?_
      refine Ops.nil ?_
      exact After.dn (Below.refl _ _) (by exact rfl)
    · intro e1 w1 hph hp hun
      show Ops _ _ _ _ _ _ _
      refine Ops.mv_int rfl rfl rfl ?_
      refine Ops.nil ?_
      exact After.dn (Below.refl _ _) (by exact rfl)
    intro u w5 hu
    have hS5 := (hu 7 _ rfl).2
    refine blockQ_n ?_
    refine thenQ_n ?_
    refine ⟨m + min m (T.length - m), by have := hm0 (by omega); omega, ⟨rfl, by show Value.int .i64 _ = Value.int .i64 _; congr 1, trivial⟩, hS5, by omega, ?_, by omega⟩
    by_cases h0 : m ≤ T.length - m
    · rw [Nat.min_eq_left h0]; exact Nat.dvd_add hdm hdm
    · rw [Nat.min_eq_right (by omega), show m + (T.length - m) = T.length by omega]; exact hdv
  · refine Cd.exit ?_
    refine thenQ_x ?_
    refine thenQ_x ?_
    refine blockQ_x ?_
    refine thenQ_n ?_
    refine Cd.seq ?_
    refine Cd.region ?_
    refine Ops.mv_sl rfl rfl rfl ?_
    refine Ops.mv_sl rfl rfl rfl ?_
    refine Ops.nil ?_
    refine thenQ_n ?_
    refine Cd.ret ?_
    refine ret1_s rfl ?_
    have : m = T.length := by omega
    subst this
    rw [part_all] at hS3
    exact ⟨A1, rfl, hS3⟩
end Go.Proofs.Ytjpkmpihmilgoaa.Vc
/-
  The walks of holes and zigzags on both sides. Conditions: as each states them.
-/
namespace Go.Proofs.Ytjpkmpihmilgoaa.Vc
open Go.RowKit

/-- the code of holes and zigzags -/
def holeK (xss : List (List Int)) (j : Int) : Int := if ¬ Grph xss then 1 else if ¬ (1 ≤ j ∧ j ≤ 16) then 2 else if ¬ xss.length = 3 then 5 else 0
theorem l11Power_c (A : Option Addr) (a c : Nat) (xs : List Int) (n : Nat) (w : World) (hR : RdI w A a xs) (ha : a ≤ 1000) (hn : n ≤ 1000) :
    Ret Try.prog 39 [.slice A a c, .int .i64 (n : Int)] w (fun v w' => ∃ A' c', v = .slice A' (a * n) c' ∧ St w w' [CkI 2 A' (a * n) c' (pow xs n)]) := by
  have hxl := hR.1
  refine Ret.of_cd Try.func39 rfl Try.ntmps39 rfl (post1 rfl) ?_
  refine Cd.seq ?_
  refine Cd.region ?_
  refine Ops.mv_sl rfl rfl rfl ?_
  refine Ops.nil ?_
  refine thenQ_n ?_
  refine Cd.seq ?_
  refine Cd.region ?_
  refine Ops.bs0 (St.refl w) rfl ?_
  intro A5 w1 hS1
  have hS1 : St w w1 [CkI 2 A5 (a * 0) 0 (pow xs 0)] := hS1
  refine Ops.mv_sl rfl rfl rfl ?_
  refine Ops.nil ?_
  refine thenQ_n ?_
  refine Cd.seq ?_
  refine Cd.block ?_
  refine Cd.loop (α := Nat × Option Addr × Nat) (fun z => [(0, .slice A a c), (1, .int .i64 ((n : Int) - (z.1 : Int))), (5, .slice z.2.1 (a * z.1) z.2.2)]) (fun z w' => St w w' [CkI 2 z.2.1 (a * z.1) z.2.2 (pow xs z.1)] ∧ z.1 ≤ n) (fun z => n - z.1) (0, A5, 0) ⟨rfl, by show Value.int .i64 _ = .int .i64 _; simp, rfl, trivial⟩ ⟨hS1, Nat.zero_le _⟩ ?_
  rintro ⟨k, A6, c6⟩ e w2 ⟨hS2, hk⟩
  dsimp only at hS2 hk ⊢
  have hb2 : a * k ≤ 1000000 := Nat.mul_le_mul ha (show k ≤ 1000 by omega)
  refine Cd.seq ?_
  refine Cd.seq ?_
  refine Cd.region ?_
  refine Ops.mv_int rfl rfl rfl ?_
  refine Ops.gtr rfl rfl rfl ?_
  refine Ops.nil ?_
  refine thenQ_n ?_
  refine Cd.cond_p _ rfl (fun h1 => ?_) (fun h1 => ?_)
  · refine Cd.skip ?_
    refine thenQ_n ?_
    refine Cd.seq ?_
    refine Cd.block ?_
    refine Cd.region ?_
    refine Ops.mv_sl rfl rfl rfl ?_
    refine Ops.mv_sl rfl rfl rfl ?_
    refine Ops.appI 0 hS2 rfl (hS2.oldI hR) rfl rfl rfl (by omega) (by omega) rfl ?_
    intro A7 c7 w3 hS3
    refine Ops.mv_sl rfl rfl rfl ?_
    refine Ops.nil ?_
    refine blockQ_n ?_
    refine thenQ_n ?_
    refine Cd.region ?_
    refine Ops.mv_int rfl rfl rfl ?_
    refine Ops.sub rfl rfl rfl (by omega) ?_
    refine Ops.mv_int rfl rfl rfl ?_
    refine Ops.nil ?_
    refine thenQ_n ?_
    have e1 : a * (k + 1) = a * k + a := Nat.mul_succ a k
    refine ⟨(k + 1, A7, c7), by show n - (k + 1) < n - k; omega, ⟨rfl, by show Value.int .i64 _ = .int .i64 _; congr 1; show _ = (n : Int) - ((k + 1 : Nat) : Int); omega, by show Value.slice _ _ _ = .slice _ _ _; rw [e1], trivial⟩, ?_, by show k + 1 ≤ n; omega⟩
    show St w w3 [CkI _ A7 (a * (k + 1)) c7 (pow xs (k + 1))]
    rw [e1, pow_succ]
    exact hS3
  · refine Cd.exit ?_
    refine thenQ_x ?_
    refine thenQ_x ?_
    refine blockQ_x ?_
    refine thenQ_n ?_
    refine Cd.seq ?_
    refine Cd.region ?_
    refine Ops.mv_sl rfl rfl rfl ?_
    refine Ops.mv_sl rfl rfl rfl ?_
    refine Ops.nil ?_
    refine thenQ_n ?_
    refine Cd.ret ?_
    refine ret1_s rfl ?_
    have hkn : k = n := by omega
    subst hkn
    exact ⟨A6, c6, rfl, hS2⟩

def zigW (n : Nat) : List Int := [0] ++ pow [1, 2] n
def holeW (n : Nat) : List Int := zigW n ++ [1]
end Go.Proofs.Ytjpkmpihmilgoaa.Vc
/-
  Faces on the program's side; the ends of edges on the reference's. Conditions: as each states them.
-/
namespace Go.Proofs.Ytjpkmpihmilgoaa.Vc
open Go.RowKit

/-! rows put anew -/
theorem rowsCk_upd {t : TypeId} : ∀ {rs : List SlV} {xss : List (List Int)} {i : Nat} {s : SlV} {xs : List Int}, rs.length = xss.length → (rowsCk t rs xss).set i (CkI t s.a s.n s.c xs) = rowsCk t (rs.set i s) (xss.set i xs)
  | [], [], _, _, _, _ => rfl
  | [], _ :: _, _, _, _, h => by simp at h
  | _ :: _, [], _, _, _, h => by simp at h
  | r :: rs, x :: xss, 0, s, xs, _ => rfl
  | r :: rs, x :: xss, i + 1, s, xs, h => by
    have := rowsCk_upd (t := t) (rs := rs) (xss := xss) (i := i) (s := s) (xs := xs) (by simpa using h)
    simpa [rowsCk] using this
theorem nilRows {w0 w : World} {t : TypeId} : ∀ (n : Nat) {ks : List Ck}, St w0 w ks → St w0 w (ks ++ rowsCk t (List.replicate n slNil) (List.replicate n []))
  | 0, ks, h => by show St w0 w (ks ++ []); rwa [List.append_nil]
  | n + 1, ks, h => by
    have h1 := nilRows (t := t) n h
    have h2 := h1.nil t
    exact h2.perm (List.perm_middle.symm)
end Go.Proofs.Ytjpkmpihmilgoaa.Vc
/-
  The ends of edges on both sides. Conditions: as each states them.
-/
namespace Go.Proofs.Ytjpkmpihmilgoaa.Vc
open Go.RowKit

/-- what is put for f flags, with twins: for each edge the vertices, as they come -/
def bag (Vl El : List Int) (m : Nat) : Nat → List (List Int)
  | 0 => List.replicate m []
  | f + 1 => (bag Vl El m f).set (gi El f).toNat (gl (bag Vl El m f) (gi El f) ++ [gi Vl f])
theorem bag_len (Vl El : List Int) (m : Nat) : ∀ f, (bag Vl El m f).length = m
  | 0 => by simp [bag]
  | f + 1 => by rw [bag, List.length_set, bag_len Vl El m f]
theorem gl_set2 {L : List (List Int)} {i : Nat} {l : List Int} (e : Int) (he : 0 ≤ e) (hi : i < L.length) : gl (L.set i l) e = if (i : Int) = e then l else gl L e := by
  obtain ⟨j, rfl⟩ : ∃ j : Nat, e = j := ⟨e.toNat, by omega⟩
  simp only [gl, Int.toNat_natCast, List.getD_eq_getElem?_getD, List.getElem?_set]
  by_cases h : i = j
  · subst h; rw [if_pos rfl, if_pos rfl, if_pos hi]; rfl
  · rw [if_neg h, if_neg (by omega)]
/-- the same as ascending lists without twins -/
def ends (Vl El : List Int) (m f : Nat) : List (List Int) := (bag Vl El m f).map cs
def edgesN (xss : List (List Int)) : Nat := (facesN xss 1).toNat
def endsL (xss : List (List Int)) : List (List Int) := ends (facesL xss 0) (facesL xss 1) (edgesN xss) (gl xss 0).length
end Go.Proofs.Ytjpkmpihmilgoaa.Vc
/-
  The ends of edges on the program's side, and the answers on both. Conditions: as each states them.
-/
namespace Go.Proofs.Ytjpkmpihmilgoaa.Vc
open Go.RowKit

/-- the answer: a list of lists in memory of its own, and a code -/
def AnsSS (L : List (List Int)) (K : Int) (w : World) (v : Value) (w' : World) : Prop := ∃ A' c' rs', v = .tuple #[.slice A' L.length c', .int .i64 K] ∧ rs'.length = L.length ∧ St w w' (mat 36 2 A' L.length c' rs' L ++ [])
def eoeL (xss : List (List Int)) : List (List Int) := if Grph xss then endsL xss else []

/-- some rows turned, the others not yet -/
def mixL (B : List (List Int)) (e : Nat) : List (List Int) := (B.take e).map cs ++ B.drop e
end Go.Proofs.Ytjpkmpihmilgoaa.Vc
/-
  Neighbours: what they are, and the reference's walk. Conditions: as each states them.
-/
namespace Go.Proofs.Ytjpkmpihmilgoaa.Vc
open Go.RowKit

/-! lists filled by pairs: a place, and what is put there -/
def bagP (m : Nat) (ps : List (Int × Int)) : List (List Int) := ps.foldl (fun B p => B.set p.1.toNat (gl B p.1 ++ [p.2])) (List.replicate m [])
theorem gl_blank (m : Nat) (e : Int) : gl (List.replicate m ([] : List Int)) e = [] := by
  simp only [gl, List.getD_eq_getElem?_getD, List.getElem?_replicate]
  split <;> rfl
def endsP (m : Nat) (ps : List (Int × Int)) : List (List Int) := (bagP m ps).map cs
/-! the vertices at an edge's ends -/
def vertsN (xss : List (List Int)) : Nat := (facesN xss 0).toNat
/-- the pairs that the first e edges give -/
def arcs (En : List (List Int)) : Nat → List (Int × Int)
  | 0 => []
  | e + 1 => if (gl En e).length = 2 then (arcs En e ++ [(gi (gl En e) 0, gi (gl En e) 1)]) ++ [(gi (gl En e) 1, gi (gl En e) 0)] else arcs En e
theorem two_in {l : List Int} {b : Int} (h : ∀ x ∈ l, 0 ≤ x ∧ x < b) (h2 : l.length = 2) : (0 ≤ gi l 0 ∧ gi l 0 < b) ∧ 0 ≤ gi l 1 ∧ gi l 1 < b :=
  ⟨by rw [show (0 : Int) = ((0 : Nat) : Int) from rfl, gi_mem (by omega)]; exact h _ (List.getElem_mem _), by rw [show (1 : Int) = ((1 : Nat) : Int) from rfl, gi_mem (by omega)]; exact h _ (List.getElem_mem _)⟩
def nbL (xss : List (List Int)) : List (List Int) := endsP (vertsN xss) (arcs (endsL xss) (edgesN xss))
end Go.Proofs.Ytjpkmpihmilgoaa.Vc
/-
  Neighbours on the program's side, and the answers on both. Conditions: as each states them.
-/
namespace Go.Proofs.Ytjpkmpihmilgoaa.Vc
open Go.RowKit

theorem mat_updk {t1 t2 : TypeId} {A : Option Addr} {n c : Nat} {rs : List SlV} {xss : List (List Int)} {i : Nat} {s : SlV} {xs : List Int} {ks : List Ck} (hr : rs.length = xss.length) (hi : i < rs.length) : CkR t1 A n c (rs.set i s) :: (rowsCk t2 rs xss ++ ks).set i (CkI t2 s.a s.n s.c xs) = mat t1 t2 A n c (rs.set i s) (xss.set i xs) ++ ks := by
  rw [List.set_append_left _ _ (by rw [rowsCk_length hr]; exact hi), rowsCk_upd hr]; rfl

def nboL (xss : List (List Int)) : List (List Int) := if Grph xss then nbL xss else []
end Go.Proofs.Ytjpkmpihmilgoaa.Vc
/-
  The reference's coset enumeration, walked: what its functions return if the plain functions do (they have a bound on their steps and say none beyond it). Conditions: as each states them.
-/
namespace Go.Proofs.Ytjpkmpihmilgoaa.Vc
open Go.RowKit

section
variable {P : Program} {N : Nat} {ops : Array Oper} {K : Env → World → Prop} {rest : List Oper} {e : Env} {w0 w w' : World} {ks : List Ck} {d : Nat} {ty : TypeId} {pos : String} {af : Array Edge}
theorem Ops.box3 {el : TypeId} {x : Operand} {v0 v1 v2 : Value} (hS : St w0 w ks) (hx : ev e x = .agg #[v0, v1, v2]) (hb : Nat.blt d N = true)
    (hK : ∀ A w', St w0 w' (Bx el 3 A [v0, v1, v2] :: ks) → Ops P N ops K rest (upd e d (.pointer A)) w') (hM : isM [v0, v1, v2] = false := by rfl) : Ops P N ops K (⟨some d, .box el x, ty, pos, af, none⟩ :: rest) e w := .box_agg hS hx hb rfl hK hM
theorem Ops.new3 {el : TypeId} {v0 v1 v2 : Value} {s b : Nat} [Inf P el (.agg #[v0, v1, v2]) s b] (hS : St w0 w ks) (hb : Nat.blt d N = true)
    (hK : ∀ A w', St w0 w' (Bx el 3 A [v0, v1, v2] :: ks) → Ops P N ops K rest (upd e d (.pointer A)) w') (hM : isM [v0, v1, v2] = false := by rfl) : Ops P N ops K (⟨some d, .alloc el, ty, pos, af, none⟩ :: rest) e w := .new (el := el) (z := .agg #[v0, v1, v2]) (s := s) (b := b) hS hb rfl hK hM
end

/-! plain -/
structure PS where
  im : List (List Int)
  ls : List Int
def findP (ls : List Int) : Nat → Int → Option Int
  | 0, _ => none
  | k + 1, c => if 0 ≤ c ∧ c < (ls.length : Int) then (if gi ls c = c then some c else findP ls k (gi ls c)) else none
def imageP (x : PS) (c g : Int) : Option Int :=
  if 0 ≤ c ∧ c < (x.im.length : Int) ∧ 0 ≤ g ∧ g < ((gl x.im c).length : Int) then (if gi (gl x.im c) g < 0 then some (-1) else findP x.ls 2000 (gi (gl x.im c) g)) else none
def defP (x : PS) (gens : Nat) : Option PS :=
  if x.ls.length = x.im.length ∧ x.ls.length < 2000 ∧ gens ≤ 100 then some ⟨x.im ++ [List.replicate gens (-1)], x.ls ++ [(x.ls.length : Int)]⟩ else none

/-! memory -/
structure LS where
  A : Option Addr
  n : Nat
  c : Nat
  rs : List SlV
  im : List (List Int)
  B : Option Addr
  m : Nat
  cB : Nat
  ls : List Int
def LS.ok (x : LS) : Prop := x.rs.length = x.n ∧ x.im.length = x.n ∧ x.ls.length = x.m
abbrev LS.cks (x : LS) : List Ck := CkI 2 x.B x.m x.cB x.ls :: mat 36 2 x.A x.n x.c x.rs x.im
abbrev LS.cells (x : LS) : List Value := [.slice x.A x.n x.c, .slice x.B x.m x.cB, .bool false]
abbrev LS.val (x : LS) : Value := .agg #[.slice x.A x.n x.c, .slice x.B x.m x.cB, .bool false]
def LS.p (x : LS) : PS := ⟨x.im, x.ls⟩

theorem l11Find_c {A B : Option Addr} {n c m cB : Nat} {b : Bool} (ls : List Int) (k0 : Nat) (c0 d : Int) (w : World) (hR : RdI w B m ls) (hf : findP ls k0 c0 = some d) :
    Ret Try.prog 79 [.agg #[.slice A n c, .slice B m cB, .bool b], .int .i64 c0] w (fun v w' => v = .int .i64 d ∧ St w w' []) := by
  have hl := hR.1
  refine Ret.of_cd Try.func79 rfl Try.ntmps79 rfl (post1 rfl) ?_
  refine Cd.seq ?_
  refine Cd.region ?_
  refine Ops.box3 (St.refl w) rfl rfl ?_
  intro Ab w1 hS
  refine Ops.mv_int rfl rfl rfl ?_
  refine Ops.nil ?_
  refine thenQ_n ?_
  refine Cd.seq ?_
  refine Cd.block ?_
  refine Cd.loop (α := Int × Nat) (fun s => [(1, .int .i64 s.1), (2, .pointer Ab)]) (fun s w' => St w w' [Bx 72 3 Ab [.slice A n c, .slice B m cB, .bool b]] ∧ findP ls s.2 s.1 = some d) (fun s => s.2) (c0, k0) ⟨rfl, rfl, trivial⟩ ⟨hS, hf⟩ ?_
  rintro ⟨c, k⟩ e w1 ⟨hS, hf⟩
  obtain ⟨q, rfl⟩ : ∃ q, k = q + 1 := by cases k with | zero => cases hf | succ q => exact ⟨q, rfl⟩
  have hf : (if 0 ≤ c ∧ c < (ls.length : Int) then (if gi ls c = c then some c else findP ls q (gi ls c)) else none) = some d := hf
  split at hf
  case isFalse => cases hf
  rename_i hc
  have hR1 := hS.oldI hR
  refine Cd.seq ?_
  refine Cd.seq ?_
  refine Cd.region ?_
  refine Ops.fld (hS.rd 0 rfl) rfl rfl rfl rfl inferInstance ?_
  refine Ops.ldf_s (hS.rd 0 rfl) rfl rfl rfl rfl rfl ?_
  refine Ops.mv_int rfl rfl rfl ?_
  refine Ops.idx hR1.2 rfl rfl rfl (by omega) (by omega) ?_
  refine Ops.ld_int hR1 rfl (by omega) rfl rfl ?_
  refine Ops.mv_int rfl rfl rfl ?_
  refine Ops.neq rfl rfl rfl ?_
  refine Ops.nil ?_
  refine thenQ_n ?_
  refine Cd.cond_p _ rfl (fun h1 => ?_) (fun h1 => ?_)
  · rw [if_neg h1] at hf
    refine Cd.skip ?_
    refine thenQ_n ?_
    refine Cd.block ?_
    refine Cd.region ?_
    refine Ops.fld (hS.rd 0 rfl) rfl rfl rfl rfl inferInstance ?_
    refine Ops.ldf_s (hS.rd 0 rfl) rfl rfl rfl rfl rfl ?_
    refine Ops.mv_int rfl rfl rfl ?_
    refine Ops.idx hR1.2 rfl rfl rfl (by omega) (by omega) ?_
    refine Ops.ld_int hR1 rfl (by omega) rfl rfl ?_
    refine Ops.mv_int rfl rfl rfl ?_
    refine Ops.nil ?_
    refine blockQ_n ?_
    refine thenQ_n ?_
    exact ⟨(gi ls c, q), Nat.lt_succ_self q, ⟨rfl, rfl, trivial⟩, hS, hf⟩
  · have h1 : gi ls c = c := Decidable.not_not.1 h1
    rw [if_pos h1] at hf
    obtain rfl := Option.some.inj hf
    refine Cd.exit ?_
    refine thenQ_x ?_
    refine thenQ_x ?_
    refine blockQ_x ?_
    refine thenQ_n ?_
    refine Cd.seq ?_
    refine Cd.region ?_
    refine Ops.mv_int rfl rfl rfl ?_
    refine Ops.mv_int rfl rfl rfl ?_
    refine Ops.nil ?_
    refine thenQ_n ?_
    refine Cd.ret ?_
    refine ret1_i rfl ?_
    exact ⟨rfl, hS.none⟩

theorem l11Image_c {A B : Option Addr} {n c m cB : Nat} {b : Bool} (rs : List SlV) (im : List (List Int)) (ls : List Int) (c0 g d : Int) (w : World) (hI : RowsI w A n rs im) (hR : RdI w B m ls) (hf : imageP ⟨im, ls⟩ c0 g = some d) :
    Ret Try.prog 63 [.agg #[.slice A n c, .slice B m cB, .bool b], .int .i64 c0, .int .i64 g] w (fun v w' => v = .int .i64 d ∧ St w w' []) := by
  have hl := hI.len
  have hf : (if 0 ≤ c0 ∧ c0 < (im.length : Int) ∧ 0 ≤ g ∧ g < ((gl im c0).length : Int) then (if gi (gl im c0) g < 0 then some (-1) else findP ls 2000 (gi (gl im c0) g)) else none) = some d := hf
  split at hf
  case isFalse => cases hf
  rename_i hc
  have hrow := hI.at_ (i := c0) hc.1 (by omega)
  have hrl := hrow.1
  refine Ret.of_cd Try.func63 rfl Try.ntmps63 rfl (post1 rfl) ?_
  refine Cd.seq ?_
  refine Cd.region ?_
  refine Ops.box3 (St.refl w) rfl rfl ?_
  intro Ab w1 hS
  have hI1 := hS.oldRows hI
  have hrow1 := hS.oldI hrow
  have hR1 := hS.oldI hR
  refine Ops.mv_int rfl rfl rfl ?_
  refine Ops.nil ?_
  refine thenQ_n ?_
  refine Cd.seq ?_
  refine Cd.region ?_
  refine Ops.fld (hS.rd 0 rfl) rfl rfl rfl rfl inferInstance ?_
  refine Ops.ldf_s (hS.rd 0 rfl) rfl rfl rfl rfl rfl ?_
  refine Ops.mv_int rfl rfl rfl ?_
  refine Ops.idx hI1.top.2 rfl rfl rfl (by omega) (by omega) ?_
  refine Ops.ld_sl hI1.top rfl (by omega) rfl rfl ?_
  refine Ops.mv_int rfl rfl rfl ?_
  refine Ops.idx hrow1.2 rfl rfl rfl (by omega) (by omega) ?_
  refine Ops.ld_int hrow1 rfl (by omega) rfl rfl ?_
  refine Ops.mv_int rfl rfl rfl ?_
  refine Ops.nil ?_
  refine thenQ_n ?_
  refine Cd.seq ?_
  refine Cd.seq ?_
  refine Cd.region ?_
  refine Ops.mv_int rfl rfl rfl ?_
  refine Ops.lss rfl rfl rfl ?_
  refine Ops.nil ?_
  refine thenQ_n ?_
  refine Cd.cond_p _ rfl (fun h1 => ?_) (fun h1 => ?_)
  · rw [if_pos h1] at hf
    obtain rfl := Option.some.inj hf
    refine Cd.seq ?_
    refine Cd.region ?_
    refine Ops.mv_int rfl rfl rfl ?_
    refine Ops.nil ?_
    refine thenQ_n ?_
    refine Cd.ret ?_
    refine thenQ_r ?_
    refine ret1_i rfl ?_
    exact ⟨rfl, hS.none⟩
  · rw [if_neg h1] at hf
    refine Cd.skip ?_
    refine thenQ_n ?_
    refine Cd.seq ?_
    refine Cd.region ?_
    refine Ops.ld_agg 2 (hS.rd 0 rfl) rfl rfl rfl ?_
    refine Ops.mv_int rfl rfl rfl ?_
    refine Ops.call (l11Find_c ls 2000 _ d _ hR1 hf) rfl rfl rfl ?_
    rintro _ w2 ⟨rfl, hst⟩
    refine Ops.mv_int rfl rfl rfl ?_
    refine Ops.nil ?_
    refine thenQ_n ?_
    refine Cd.ret ?_
    refine ret1_i rfl ?_
    exact ⟨rfl, (hS.later hst.below).none⟩

theorem l11Define_c {w0 w : World} {ks : List Ck} (x : LS) (gens : Nat) (y : PS) (hok : x.ok) (hS : St w0 w (x.cks ++ ks)) (hp : defP x.p gens = some y) :
    Ret Try.prog 76 [x.val, .int .i64 (gens : Int)] w (fun v w' => ∃ x' : LS, x'.ok ∧ x'.p = y ∧ v = .tuple #[x'.val, .int .i64 (x.m : Int)] ∧ St w0 w' (x'.cks ++ ks)) := by
  obtain ⟨A, n, c, rs, im, B, m, cB, ls⟩ := x
  obtain ⟨h1, h2, h3⟩ := hok
  have h1 : rs.length = n := h1
  have h2 : im.length = n := h2
  have h3 : ls.length = m := h3
  have hp : (if ls.length = im.length ∧ ls.length < 2000 ∧ gens ≤ 100 then some (⟨im ++ [List.replicate gens (-1)], ls ++ [(ls.length : Int)]⟩ : PS) else none) = some y := hp
  split at hp
  case isFalse => cases hp
  rename_i hc
  have hp := Option.some.inj hp
  have hS : St w0 w (CkI 2 B m cB ls :: CkR 36 A n c rs :: (rowsCk 2 rs im ++ ks)) := hS
  refine Ret.of_cd Try.func76 rfl Try.ntmps76 rfl (postc2 rfl rfl) ?_
  refine Cd.seq ?_
  refine Cd.region ?_
  refine Ops.box3 hS rfl rfl ?_
  intro Ab w1 hS1
  skip
  refine Ops.new3 hS1 rfl ?_
  intro Ac w2 hS2
  have hS2 : St w0 w2 (Bx 72 3 Ac [.slice none 0 0, .slice none 0 0, .bool false] :: Bx 72 3 Ab [.slice A n c, .slice B m cB, .bool false] :: CkI 2 B m cB ls :: CkR 36 A n c rs :: (rowsCk 2 rs im ++ ks)) := hS2
  refine Ops.mv_int rfl rfl rfl ?_
  refine Ops.nil ?_
  refine thenQ_n ?_
  refine Cd.seq ?_
  refine Cd.region ?_
  refine Ops.fld (hS2.rd 1 rfl) rfl rfl rfl rfl inferInstance ?_
  refine Ops.ldf_s (hS2.rd 1 rfl) rfl rfl rfl rfl rfl ?_
  refine Ops.len rfl rfl ?_
  refine Ops.mv_int rfl rfl rfl ?_
  refine Ops.nil ?_
  refine thenQ_n ?_
  refine Cd.seq ?_
  refine Cd.seq ?_
  refine Cd.region ?_
  refine Ops.mv_int rfl rfl rfl ?_
  refine Ops.eql rfl rfl rfl ?_
  refine Ops.nil ?_
  refine thenQ_n ?_
  refine Cd.cond_pf rfl (by omega) ?_
  refine Cd.skip ?_
  refine thenQ_n ?_
  refine Cd.seq ?_
  refine Cd.region ?_
  refine Ops.bs0 hS2 rfl ?_
  intro A3 w3 hS3
  refine Ops.mv_sl rfl rfl rfl ?_
  refine Ops.nil ?_
  refine thenQ_n ?_
  refine Cd.seq ?_
  refine Cd.seq ?_
  refine Cd.region ?_
  refine Ops.mv_int rfl rfl rfl ?_
  refine Ops.nil ?_
  refine thenQ_n ?_
  refine Cd.block ?_
  refine Cd.loop (α := Nat × Option Addr × Nat) (fun s => [(1, .int .i64 (gens : Int)), (2, .pointer Ab), (4, .pointer Ac), (6, .int .i64 (m : Int)), (7, .slice s.2.1 s.1 s.2.2), (8, .int .i64 (s.1 : Int))]) (fun s w' => St w0 w' (CkI 2 s.2.1 s.1 s.2.2 (List.replicate s.1 (-1)) :: Bx 72 3 Ac [.slice none 0 0, .slice none 0 0, .bool false] :: Bx 72 3 Ab [.slice A n c, .slice B m cB, .bool false] :: CkI 2 B m cB ls :: CkR 36 A n c rs :: (rowsCk 2 rs im ++ ks)) ∧ s.1 ≤ gens) (fun s => gens - s.1) (0, A3, 0) ⟨rfl, rfl, rfl, rfl, rfl, rfl, trivial⟩ ⟨hS3, Nat.zero_le _⟩ ?_
  rintro ⟨k, A4, c4⟩ e w4 ⟨hS4, hk⟩
  dsimp only at hS4 hk
  refine Cd.seq ?_
  refine Cd.seq ?_
  refine Cd.region ?_
  refine Ops.mv_int rfl rfl rfl ?_
  refine Ops.mv_int rfl rfl rfl ?_
  refine Ops.lss rfl rfl rfl ?_
  refine Ops.nil ?_
  refine thenQ_n ?_
  refine Cd.cond_p _ rfl (fun h4 => ?_) (fun h4 => ?_)
  · refine Cd.skip ?_
    refine thenQ_n ?_
    refine Cd.seq ?_
    refine Cd.block ?_
    refine Cd.region ?_
    refine Ops.mv_sl rfl rfl rfl ?_
    refine Ops.bs1I hS4 rfl rfl rfl ?_
    intro A5 w5 hS5
    refine Ops.appI 1 hS5 rfl (hS5.rdI 0 rfl) rfl rfl rfl (by omega) (by omega) rfl ?_
    intro A6 c6 w6 hS6
    refine Ops.mv_sl rfl rfl rfl ?_
    refine Ops.nil ?_
    refine blockQ_n ?_
    refine thenQ_n ?_
    refine Cd.region ?_
    refine Ops.mv_int rfl rfl rfl ?_
    refine Ops.add rfl rfl rfl (by omega) ?_
    refine Ops.mv_int rfl rfl rfl ?_
    refine Ops.nil ?_
    refine thenQ_n ?_
    refine ⟨(k + 1, A6, c6), by show gens - (k + 1) < gens - k; omega, ⟨rfl, rfl, rfl, rfl, rfl, rfl, trivial⟩, ?_, by show k + 1 ≤ gens; omega⟩
    have h5 := hS6.tail
    rw [← List.replicate_succ'] at h5
    exact h5
  · have hkg : k = gens := by omega
    subst hkg
    refine Cd.exit ?_
    refine thenQ_x ?_
    refine thenQ_x ?_
    refine blockQ_x ?_
    refine thenQ_n ?_
    refine Cd.seq ?_
    refine Cd.region ?_
    refine Ops.fld (hS4.rd 2 rfl) rfl rfl rfl rfl inferInstance ?_
    refine Ops.ldf_s (hS4.rd 2 rfl) rfl rfl rfl rfl rfl ?_
    refine Ops.mv_sl rfl rfl rfl ?_
    refine Ops.bs1R hS4 rfl rfl rfl ?_
    intro A5 w5 hS5
    refine Ops.appR 5 hS5 rfl (hS5.rdR 0 rfl) rfl rfl rfl (by omega) (by omega) rfl ?_
    intro A6 c6 w6 hS6
    have hS6 : St w0 w6 (CkI 2 A4 k c4 (List.replicate k (-1)) :: Bx 72 3 Ac [.slice none 0 0, .slice none 0 0, .bool false] :: Bx 72 3 Ab [.slice A n c, .slice B m cB, .bool false] :: CkI 2 B m cB ls :: CkR 36 A6 (n + 1) c6 (rs ++ [⟨A4, k, c4⟩]) :: (rowsCk 2 rs im ++ ks)) := hS6.tail
    skip
    refine Ops.fld (hS6.rd 2 rfl) rfl rfl rfl rfl inferInstance ?_
    refine Ops.stf 2 hS6 rfl rfl rfl rfl rfl ?_
    intro w7 hS7
    have hS7 : St w0 w7 (CkI 2 A4 k c4 (List.replicate k (-1)) :: Bx 72 3 Ac [.slice none 0 0, .slice none 0 0, .bool false] :: Bx 72 3 Ab [.slice A6 (n + 1) c6, .slice B m cB, .bool false] :: CkI 2 B m cB ls :: CkR 36 A6 (n + 1) c6 (rs ++ [⟨A4, k, c4⟩]) :: (rowsCk 2 rs im ++ ks)) := hS7
    refine Ops.nil ?_
    refine thenQ_n ?_
    refine Cd.seq ?_
    refine Cd.region ?_
    refine Ops.fld (hS7.rd 2 rfl) rfl rfl rfl rfl inferInstance ?_
    refine Ops.ldf_s (hS7.rd 2 rfl) rfl rfl rfl rfl rfl ?_
    refine Ops.mv_int rfl rfl rfl ?_
    refine Ops.bs1I hS7 rfl rfl rfl ?_
    intro A8 w8 hS8
    refine Ops.appI 4 hS8 rfl (hS8.rdI 0 rfl) rfl rfl rfl (by omega) (by omega) rfl ?_
    intro A9 c9 w9 hS9
    have hS9 : St w0 w9 (CkI 2 A4 k c4 (List.replicate k (-1)) :: Bx 72 3 Ac [.slice none 0 0, .slice none 0 0, .bool false] :: Bx 72 3 Ab [.slice A6 (n + 1) c6, .slice B m cB, .bool false] :: CkI 2 A9 (m + 1) c9 (ls ++ [(m : Int)]) :: CkR 36 A6 (n + 1) c6 (rs ++ [⟨A4, k, c4⟩]) :: (rowsCk 2 rs im ++ ks)) := hS9.tail
    skip
    refine Ops.fld (hS9.rd 2 rfl) rfl rfl rfl rfl inferInstance ?_
    refine Ops.stf 2 hS9 rfl rfl rfl rfl rfl ?_
    intro w10 hS10
    have hS10 : St w0 w10 (CkI 2 A4 k c4 (List.replicate k (-1)) :: Bx 72 3 Ac [.slice none 0 0, .slice none 0 0, .bool false] :: Bx 72 3 Ab [.slice A6 (n + 1) c6, .slice A9 (m + 1) c9, .bool false] :: CkI 2 A9 (m + 1) c9 (ls ++ [(m : Int)]) :: CkR 36 A6 (n + 1) c6 (rs ++ [⟨A4, k, c4⟩]) :: (rowsCk 2 rs im ++ ks)) := hS10
    refine Ops.nil ?_
    refine thenQ_n ?_
    refine Cd.seq ?_
    refine Cd.region ?_
    refine Ops.ld_agg 2 (hS10.rd 2 rfl) rfl rfl rfl ?_
    refine Ops.mv_int rfl rfl rfl ?_
    refine Ops.st_agg 3 1 hS10 rfl rfl rfl rfl rfl rfl rfl ?_
    intro w11 hS11
    have hS11 : St w0 w11 (CkI 2 A4 k c4 (List.replicate k (-1)) :: Bx 72 3 Ac [.slice A6 (n + 1) c6, .slice A9 (m + 1) c9, .bool false] :: Bx 72 3 Ab [.slice A6 (n + 1) c6, .slice A9 (m + 1) c9, .bool false] :: CkI 2 A9 (m + 1) c9 (ls ++ [(m : Int)]) :: CkR 36 A6 (n + 1) c6 (rs ++ [⟨A4, k, c4⟩]) :: (rowsCk 2 rs im ++ ks)) := hS11
    refine Ops.mv_int rfl rfl rfl ?_
    refine Ops.nil ?_
    refine thenQ_n ?_
    refine Cd.ret ?_
    skip
    refine retc2_r rfl (hS11.rd 1 rfl) rfl ?_
    refine ⟨⟨A6, n + 1, c6, rs ++ [⟨A4, k, c4⟩], im ++ [List.replicate k (-1)], A9, m + 1, c9, ls ++ [(m : Int)]⟩, ⟨by simp [h1], by simp [h2], by simp [h3]⟩, ?_, rfl, ?_⟩
    · rw [← hp, h3]; rfl
    · have h5 := (hS11.sub ((((List.Sublist.refl _).cons _).cons _).cons_cons _))
      show St w0 w11 (CkI 2 A9 (m + 1) c9 (ls ++ [(m : Int)]) :: CkR 36 A6 (n + 1) c6 (rs ++ [⟨A4, k, c4⟩]) :: (rowsCk 2 (rs ++ [⟨A4, k, c4⟩]) (im ++ [List.replicate k (-1)]) ++ ks))
      rw [rowsCk_append (by omega), List.append_assoc]
      refine h5.perm ?_
      refine (List.perm_middle (l₁ := [_, _]) (a := CkI 2 A4 k c4 (List.replicate k (-1)))).symm.trans ?_
      refine List.Perm.cons _ (List.Perm.cons _ ?_)
      exact List.perm_middle.symm
end Go.Proofs.Ytjpkmpihmilgoaa.Vc
/-
  As the statement whose order Go leaves open, with properties of two operations' values together. Conditions: as each rule names them.
-/
namespace Go.Proofs.Ytjpkmpihmilgoaa.Vc
open Go.RowKit

inductive Ye where
  | ex (v : Value)
  | pr (p : Value → World → Prop)
  | p2 (j : Nat) (p : Value → Value → World → Prop)
  | al (q : Value → Prop) (p : Value → World → Prop)
/-- the operations' values -/
def vl (l : List Oper) (e : Env) (k : Nat) : Value := match l[k]? with
  | some o => valOf o e
  | none => undef
def Ye.holds (uu : Nat → Value) : Ye → Value → World → Prop
  | .ex v, u, _ => u = v
  | .pr p, u, w => p u w
  | .p2 j p, u, w => p (uu j) u w
  | .al q p, u, w => q u ∧ p u w
def Ye.lasts : Ye → Prop
  | .ex _ => True
  | .pr p => ∀ v w w', p v w → Below w.heap.size w w' → p v w'
  | .p2 _ p => ∀ a v w w', p a v w → Below w.heap.size w w' → p a v w'
  | .al _ p => ∀ v w w', p v w → Below w.heap.size w w' → p v w'
theorem Ye.lasts_ex (v : Value) : (Ye.ex v).lasts := True.intro
theorem Ye.lasts_pr {p : Value → World → Prop} (h : ∀ v w w', p v w → Below w.heap.size w w' → p v w') : (Ye.pr p).lasts := h
theorem Ye.lasts_al {q : Value → Prop} {p : Value → World → Prop} (h : ∀ v w w', p v w → Below w.heap.size w w' → p v w') : (Ye.al q p).lasts := h
def isExP : Ye → Bool
  | .ex _ => true
  | .pr _ => false
  | .p2 .. => false
  | .al .. => false
def drawOkP (N : Nat) (l : List Oper) (ys : List Ye) (ms : List Nat) : Bool :=
  l.all (fun o => match o.dst with | some d => Nat.blt d N | none => true) && decide ((dsl l).Nodup) && (l.zipIdx.all fun p => (aft p.1).all fun ed => Nat.blt ed.on p.2) && Nat.beq l.length ys.length && (l.zip ys).all (fun p => p.1.dst.isSome || !isExP p.2) && decide ms.Nodup && ms.all (fun m => Nat.blt m l.length) && (ys.zipIdx.all fun p => !(isExP p.1) || !(ms.contains p.2)) && (ys.zipIdx.all fun p => match p.1 with | .p2 j _ => ancOf l l.length p.2 j && Nat.blt j l.length | _ => true)
def Ye.at_ (c ph : Nat) (uu : Nat → Value) : Ye → Value → World → Prop
  | .ex v, u, _ => u = v
  | .pr p, u, w => c = ph → p u w
  | .p2 j p, u, w => c = ph → p (uu j) u w
  | .al q p, u, w => q u ∧ (c = ph → p u w)
def endFrP : List Oper → List Ye → (Nat → Value) → Nat → List (Nat × Value)
  | o :: l, y :: ys, u, i => match o.dst, y with
    | some d, .ex v => (d, v) :: endFrP l ys u (i + 1)
    | some d, .pr _ => (d, u i) :: endFrP l ys u (i + 1)
    | some d, .p2 .. => (d, u i) :: endFrP l ys u (i + 1)
    | some d, .al .. => (d, u i) :: endFrP l ys u (i + 1)
    | none, _ => endFrP l ys u (i + 1)
  | _, _, _, _ => []
def depFrP (l : List Oper) (ys : List Ye) : List Edge → List (Nat × Value)
  | [] => []
  | ed :: r => match ys[ed.on]?, (l[ed.on]?).bind (·.dst) with
    | some (.ex v), some d => (d, v) :: depFrP l ys r
    | _, _ => depFrP l ys r

section
variable {P : Program} {N : Nat} {e : Env} {w : World}
def AfterP (o : Oper) (y : Ye) (uu : Nat → Value) (e1 : Env) (w1 : World) : Env → World → Prop := fun e2 w2 => Below w1.heap.size w1 w2 ∧ y.holds uu (valOf o e2) w2 ∧ ∀ j, o.dst ≠ some j → e2 j = e1 j
def AfterU (o : Oper) (y : Ye) (uu : Nat → Value) (e1 : Env) : Env → World → Prop := fun e2 w2 => y.holds uu (valOf o e2) w2 ∧ ∀ j, o.dst ≠ some j → e2 j = e1 j
theorem AfterP.dn {o : Oper} {y : Ye} {uu : Nat → Value} {e1 : Env} {w1 w2 : World} {d : Nat} {v : Value} (hd : o.dst = some d) (hb : Below w1.heap.size w1 w2) (hv : y.holds uu v w2) : AfterP o y uu e1 w1 (upd e1 d v) w2 := by
  refine ⟨hb, ?_, fun j hj => upd_ne e1 v (fun h => hj (by rw [hd, h]))⟩
  unfold valOf; rw [hd]
  show y.holds uu (upd e1 d v d) w2
  rw [upd_at]; exact hv
theorem AfterU.dn {o : Oper} {y : Ye} {uu : Nat → Value} {e1 : Env} {w2 : World} {d : Nat} {v : Value} (hd : o.dst = some d) (hv : y.holds uu v w2) : AfterU o y uu e1 (upd e1 d v) w2 := by
  refine ⟨?_, fun j hj => upd_ne e1 v (fun h => hj (by rw [hd, h]))⟩
  unfold valOf; rw [hd]
  show y.holds uu (upd e1 d v d) w2
  rw [upd_at]; exact hv
theorem AfterU.st {o : Oper} {y : Ye} {uu : Nat → Value} {e1 : Env} {w2 : World} (hd : o.dst = none) (hv : y.holds uu undef w2) : AfterU o y uu e1 e1 w2 := by
  refine ⟨?_, fun j _ => rfl⟩
  unfold valOf; rw [hd]; exact hv

def StepP (P : Program) (N : Nat) (l : List Oper) (ys : List Ye) (ms : List Nat) (e : Env) (w : World) (i : Nat) (o : Oper) : Prop :=
  ∀ (e1 : Env) (w1 : World) (c : Nat), loOf l ms i ≤ c → c ≤ hiOf l ms i → (c = 0 → Below w.heap.size w w1) →
    (∀ (j : Nat) (y : Ye) (o' : Oper), ancOf l l.length i j = true → ys[j]? = some y → l[j]? = some o' → y.at_ c (phOf l ms j) (vl l e1) (valOf o' e1) w1) →
    (∀ (j : Nat) (o' : Oper), l[j]? = some o' → ancOf l l.length j i = true → valOf o' e1 = valOf o' e) →
    (∀ (m : Nat) (y : Ye) (o' : Oper), memb ms m = true → chainAt l ms m = true → phOf l ms m = c → ys[m]? = some y → l[m]? = some o' → y.at_ c (phOf l ms m) (vl l e1) (valOf o' e1) w1) →
    bif memb ms i then Ops P N l.toArray (AfterU o (ys.getD i (.pr fun _ _ => True)) (vl l e1) (ext (mix e1 e (dsl l)) (depFrP l ys (aft o)))) [o] (ext (mix e1 e (dsl l)) (depFrP l ys (aft o))) w1
    else Ops P N l.toArray (AfterP o (ys.getD i (.pr fun _ _ => True)) (vl l e1) (ext (mix e1 e (dsl l)) (depFrP l ys (aft o))) w1) [o] (ext (mix e1 e (dsl l)) (depFrP l ys (aft o))) w1
def StepsP (P : Program) (N : Nat) (l : List Oper) (ys : List Ye) (ms : List Nat) (e : Env) (w : World) : Nat → List Oper → Prop
  | _, [] => True
  | i, o :: r => StepP P N l ys ms e w i o ∧ StepsP P N l ys ms e w (i + 1) r
theorem StepsP.get {l : List Oper} {ys : List Ye} {ms : List Nat} : ∀ {r : List Oper} {i : Nat}, StepsP P N l ys ms e w i r → ∀ k o, r[k]? = some o → StepP P N l ys ms e w (i + k) o
  | [], _, _, k, o, hk => by simp at hk
  | x :: r, i, h, 0, o, hk => by simp at hk; subst hk; exact h.1
  | x :: r, i, h, k + 1, o, hk => by
    have := StepsP.get h.2 k o (by simpa using hk)
    rw [show i + 1 + k = i + (k + 1) by omega] at this
    exact this

theorem depFrP_mt {l : List Oper} {ys : List Ye} {e1 : Env} : ∀ (af : List Edge), (∀ ed ∈ af, ∀ (v : Value) (o' : Oper), ys[ed.on]? = some (.ex v) → l[ed.on]? = some o' → valOf o' e1 = v) → Mt e1 (depFrP l ys af)
  | [], _ => trivial
  | ed :: r, h => by
    have hr := depFrP_mt r (fun x hx => h x (List.mem_cons_of_mem _ hx))
    unfold depFrP
    split
    · rename_i v d hy hd
      refine ⟨?_, hr⟩
      cases ho : l[ed.on]? with
      | none => rw [ho] at hd; cases hd
      | some o' =>
        rw [ho] at hd
        have hd' : o'.dst = some d := hd
        have := h ed (by simp) v o' hy ho
        unfold valOf at this
        rw [hd'] at this
        exact this
    · exact hr

theorem endFrP_eq {e1 e : Env} : ∀ (l : List Oper) (ys : List Ye) (i : Nat), l.length = ys.length → (dsl l).Nodup → (∀ (k : Nat) (v : Value) (o : Oper), ys[k]? = some (.ex v) → l[k]? = some o → valOf o e1 = v ∨ o.dst = none) →
    ∃ u : Nat → Value, ext e (endFrP l ys u i) = mix e1 e (dsl l) ∧ (∀ (k : Nat) (o : Oper), l[k]? = some o → u (i + k) = valOf o e1)
  | [], [], i, _, _, _ => ⟨fun _ => undef, by funext j; rfl, fun k o h => by simp at h⟩
  | [], y :: ys, i, hl, _, _ => by simp at hl
  | o :: l, [], i, hl, _, _ => by simp at hl
  | o :: l, y :: ys, i, hl, hn, h => by
    have hn' : (dsl l).Nodup := by
      unfold dsl at hn ⊢
      rw [List.filterMap_cons] at hn
      split at hn
      · exact hn
      · exact (List.nodup_cons.1 hn).2
    obtain ⟨u, hu, hu2⟩ := endFrP_eq (e1 := e1) (e := e) l ys (i + 1) (by simpa using hl) hn' (fun k v o' hy ho => h (k + 1) v o' (by simpa using hy) (by simpa using ho))
    have cng : ∀ (l : List Oper) (ys : List Ye) (i : Nat) (u u' : Nat → Value), (∀ k, i ≤ k → u k = u' k) → endFrP l ys u i = endFrP l ys u' i := by
      intro l
      induction l with
      | nil => intros; rfl
      | cons o l ih =>
        intro ys i u u' hk
        cases ys with
        | nil => rfl
        | cons y ys =>
          have h1 := ih ys (i + 1) u u' (fun k hk' => hk k (by omega))
          simp only [endFrP]
          rw [h1, hk i (by omega)]
    have hc := cng l ys (i + 1) (fun k => if k = i then valOf o e1 else u k) u (fun k hk => by show (if k = i then _ else _) = _; rw [if_neg (by omega)])
    refine ⟨fun k => if k = i then valOf o e1 else u k, ?_, fun k o' hk => ?_⟩
    · cases hd : o.dst with
      | none =>
        have e1' : dsl (o :: l) = dsl l := by unfold dsl; rw [List.filterMap_cons, hd]
        simp only [endFrP, hd, hc, hu, e1']
      | some d =>
        have e1' : dsl (o :: l) = d :: dsl l := by unfold dsl; rw [List.filterMap_cons, hd]
        have hval : valOf o e1 = e1 d := by unfold valOf; rw [hd]
        have hstep : ∀ v, v = e1 d → upd (mix e1 e (dsl l)) d v = mix e1 e (d :: dsl l) := by
          intro v hv
          funext j
          simp only [upd, mix, memb]
          cases hb : Nat.beq j d with
          | true => rw [Nat.eq_of_beq_eq_true hb, hv]; rfl
          | false => rfl
        rw [e1']
        cases y with
        | ex v =>
          have h0 := h 0 v o rfl rfl
          simp only [endFrP, hd, ext, hc, hu]
          refine hstep v ?_
          rcases h0 with h0 | h0
          · rw [← h0, hval]
          · rw [hd] at h0; cases h0
        | pr p =>
          simp only [endFrP, hd, ext, hc, hu, if_pos]
          exact hstep _ hval
        | p2 j p =>
          simp only [endFrP, hd, ext, hc, hu, if_pos]
          exact hstep _ hval
        | al q p =>
          simp only [endFrP, hd, ext, hc, hu, if_pos]
          exact hstep _ hval
    · cases k with
      | zero => simp at hk; subst hk; simp
      | succ k =>
        have := hu2 k o' (by simpa using hk)
        show (if i + (k + 1) = i then _ else u (i + (k + 1))) = _
        rw [if_neg (by omega), ← this]; congr 1; omega


theorem Cd.drawP {id : Nat} {l : List Oper} {Q : Post} (ms : List Nat) (ys : List Ye) (hm : P.follows .mixedOrders = true) (hok : drawOkP N l ys ms = true) (hlasts : ∀ y ∈ ys, y.lasts)
    (hsteps : StepsP P N l ys ms e w 0 l) (hend : ∀ u w1, (ms = [] → Below w.heap.size w w1) → (∀ (k : Nat) (p : Value → World → Prop), ys[k]? = some (Ye.pr p) → phOf l ms k = ms.length → p (u k) w1) → (∀ (k j : Nat) (p : Value → Value → World → Prop), ys[k]? = some (Ye.p2 j p) → phOf l ms k = ms.length → p (u j) (u k) w1) → (∀ (k : Nat) (q : Value → Prop) (p : Value → World → Prop), ys[k]? = some (Ye.al q p) → q (u k) ∧ (phOf l ms k = ms.length → p (u k) w1)) → Q .normal (ext e (endFrP l ys u 0)) w1) : Cd P N (.region id l.toArray true) Q e w := .mk' fun a ha => by
  simp only [drawOkP, Bool.and_eq_true, List.all_eq_true, decide_eq_true_eq] at hok
  obtain ⟨⟨⟨⟨⟨⟨⟨⟨h1, h2⟩, h3⟩, hlen⟩, hnone⟩, hmn⟩, hml⟩, hmy⟩, hp2⟩ := hok
  have hp2' : ∀ (k j : Nat) (p : Value → Value → World → Prop), ys[k]? = some (.p2 j p) → ancOf l l.length k j = true ∧ j < l.length := by
    intro k j p hk
    have := hp2 (.p2 j p, k) (by rw [List.mem_iff_getElem?]; exact ⟨k, by simp [hk]⟩)
    simpa [Nat.blt_eq] using this
  have hlen' : l.length = ys.length := Nat.eq_of_beq_eq_true hlen
  have hback : ∀ (i : Nat) (o : Oper), l[i]? = some o → ∀ ed ∈ aft o, ed.on < i := by
    intro i o ho ed hed
    have := h3 (o, i) (by
      obtain ⟨hi, hio⟩ := List.getElem?_eq_some_iff.1 ho
      rw [List.mem_iff_getElem?]
      exact ⟨i, by simp [ho]⟩)
    simpa [Nat.blt_eq] using this ed hed
  have hdN : ∀ (i : Nat) (o : Oper) (d : Nat), l[i]? = some o → o.dst = some d → d < N := by
    intro i o d ho hd
    have := h1 o (List.mem_of_getElem? ho)
    rw [hd] at this
    simpa [Nat.blt_eq] using this
  have hexd : ∀ (i : Nat) (o : Oper) (v : Value), l[i]? = some o → ys[i]? = some (.ex v) → o.dst ≠ none := by
    intro i o v ho hy hd
    have := hnone (o, .ex v) (by
      rw [List.mem_iff_getElem?]
      exact ⟨i, by rw [List.getElem?_zip_eq_some]; exact ⟨ho, hy⟩⟩)
    simp [hd, isExP] at this
  refine wp_region_any hm ?_
  let cnt : Array Bool → Nat := fun listed => ms.countP fun m => listed.getD m false
  have key : ∀ (fuel : Nat) (listed : Array Bool) (a1 : Act) (e1 : Env) (w1 : World), Rep N a1 e1 → (cnt listed = 0 → Below w.heap.size w w1) → (∀ j, memb (dsl l) j = false → e1 j = e j) → listed.size = l.length →
      (∀ (i : Nat) (y : Ye) (o : Oper), listed.getD i false = true → ys[i]? = some y → l[i]? = some o → y.at_ (cnt listed) (phOf l ms i) (vl l e1) (valOf o e1) w1) → (∀ (i : Nat) (o : Oper), listed.getD i false = true → l[i]? = some o → ∀ ed ∈ aft o, listed.getD ed.on false = true) → (∀ (i : Nat) (o : Oper), listed.getD i false = false → l[i]? = some o → valOf o e1 = valOf o e) → (l.length - fuel ≤ (List.range l.length).countP fun i => listed.getD i false) →
      wpAny P .any l.toArray (low N Q) fuel listed a1 w1 := by
    have hfin : ∀ (listed : Array Bool) (a1 : Act) (e1 : Env) (w1 : World), Rep N a1 e1 → (cnt listed = 0 → Below w.heap.size w w1) → (∀ j, memb (dsl l) j = false → e1 j = e j) →
        (∀ (i : Nat) (y : Ye) (o : Oper), listed.getD i false = true → ys[i]? = some y → l[i]? = some o → y.at_ (cnt listed) (phOf l ms i) (vl l e1) (valOf o e1) w1) → (∀ i, i < l.length → listed.getD i false = true) → low N Q .normal a1 w1 := by
      intro listed a1 e1 w1 hr hb hag hS hall
      have hcnt : cnt listed = ms.length := by
        show ms.countP _ = ms.length
        rw [List.countP_eq_length]
        intro m hmm
        exact hall m (by simpa [Nat.blt_eq] using hml m hmm)
      obtain ⟨u, hu, hu2⟩ := endFrP_eq (e1 := e1) (e := e) l ys 0 hlen' h2 (fun k v o hy ho => .inl (hS k _ o (hall k (List.getElem?_eq_some_iff.1 ho).1) hy ho))
      refine ⟨e1, hr, ?_⟩
      have := hend u w1 (fun h0 => hb (by rw [hcnt, h0]; rfl)) (fun k p hk hph => by
        have hkl : k < l.length := by rw [hlen']; exact (List.getElem?_eq_some_iff.1 hk).1
        have h5 := hS k _ l[k] (hall k hkl) hk (List.getElem?_eq_getElem hkl)
        have h6 := hu2 k l[k] (List.getElem?_eq_getElem hkl)
        rw [Nat.zero_add] at h6
        rw [h6]; exact h5 (by rw [hcnt, hph])) (fun k j p hk hph => by
        have hkl : k < l.length := by rw [hlen']; exact (List.getElem?_eq_some_iff.1 hk).1
        have hj := hp2' k j p hk
        have h5 := hS k _ l[k] (hall k hkl) hk (List.getElem?_eq_getElem hkl)
        have h6 := hu2 k l[k] (List.getElem?_eq_getElem hkl)
        have h7 := hu2 j l[j] (List.getElem?_eq_getElem hj.2)
        rw [Nat.zero_add] at h6 h7
        have h8 : vl l e1 j = valOf l[j] e1 := by unfold vl; rw [List.getElem?_eq_getElem hj.2]
        rw [h6, h7, ← h8]; exact h5 (by rw [hcnt, hph])) (fun k q p hk => by
        have hkl : k < l.length := by rw [hlen']; exact (List.getElem?_eq_some_iff.1 hk).1
        have h5 := hS k _ l[k] (hall k hkl) hk (List.getElem?_eq_getElem hkl)
        have h6 := hu2 k l[k] (List.getElem?_eq_getElem hkl)
        rw [Nat.zero_add] at h6
        rw [h6]; exact ⟨h5.1, fun hph => h5.2 (by rw [hcnt, hph])⟩)
      rw [hu, mix_eq hag] at this
      exact this
    have hready : ∀ (listed : Array Bool), listed.size = l.length → Region.ready .any l.toArray listed = [] → ∀ i, i < l.length → listed.getD i false = true := by
      intro listed hsz hnil i
      induction i using Nat.strongRecOn with
      | _ i ih =>
        intro hi
        cases hli : listed.getD i false with
        | true => rfl
        | false =>
          exfalso
          have : i ∈ Region.ready .any l.toArray listed := by
            rw [mem_ready]
            refine ⟨?_, l[i], by simp [hi], fun ed hed hbd => ih ed.on (hback i _ (List.getElem?_eq_getElem hi) ed (mem_aft.2 ⟨hed, hbd⟩)) (by have := hback i _ (List.getElem?_eq_getElem hi) ed (mem_aft.2 ⟨hed, hbd⟩); omega)⟩
            rw [Array.getD_eq_getD_getElem?, Array.getElem?_eq_getElem (by omega)] at hli ⊢
            exact hli
          rw [hnil] at this
          cases this
    intro fuel
    induction fuel with
    | zero =>
      intro listed a1 e1 w1 hr hb hag hsz hS hcl hun0 hcnt
      have hall : ∀ i, i < l.length → listed.getD i false = true := by
        have h4 : (List.range l.length).countP (fun i => listed.getD i false) = (List.range l.length).length := by
          have := List.countP_le_length (p := fun i => listed.getD i false) (l := List.range l.length)
          simp at this hcnt ⊢; omega
        rw [List.countP_eq_length] at h4
        intro i hi
        exact h4 i (by simpa using hi)
      refine ⟨?_, hfin listed a1 e1 w1 hr hb hag hS hall⟩
      rw [List.eq_nil_iff_forall_not_mem]
      intro i hi
      obtain ⟨h5, o, ho, _⟩ := mem_ready.1 hi
      have hil : i < l.length := by
        rcases Nat.lt_or_ge i l.length with h | h
        · exact h
        · simp [List.getElem?_eq_none h] at ho
      have h6 := hall i hil
      rw [Array.getD_eq_getD_getElem?, Array.getElem?_eq_getElem (by omega)] at h5 h6
      simp at h5 h6
      rw [h5] at h6; cases h6
    | succ fuel ih =>
      intro listed a1 e1 w1 hr hb hag hsz hS hcl hun0 hcnt
      refine ⟨fun hnil => hfin listed a1 e1 w1 hr hb hag hS (hready listed hsz hnil), fun i hi => ?_⟩
      obtain ⟨hun, o, ho, haf⟩ := mem_ready.1 hi
      have ho' : l[i]? = some o := by simpa using ho
      have hil : i < l.length := (List.getElem?_eq_some_iff.1 ho').1
      have hrd : ∀ ed ∈ aft o, listed.getD ed.on false = true := fun ed hed => haf ed (mem_aft.1 hed).1 (mem_aft.1 hed).2
      have hun' : listed.getD i false = false := by
        have h5 := hun
        rw [Array.getD_eq_getD_getElem?, Array.getElem?_eq_getElem (by omega)] at h5 ⊢
        exact h5
      have hgs : ∀ k, (listed.setIfInBounds i true).getD k false = if k = i then true else listed.getD k false := by
        intro k
        rw [Array.getD_eq_getD_getElem?, Array.getElem?_setIfInBounds]
        by_cases hki : k = i
        · subst hki; rw [if_pos rfl, if_pos (by omega), if_pos rfl]; rfl
        · rw [if_neg (fun e => hki e.symm), if_neg hki, ← Array.getD_eq_getD_getElem?]
      have hlo : loOf l ms i ≤ cnt listed := countP_le_of fun m _ h => ancOf_ready hcl ho' hrd _ _ h
      have hhi : cnt listed ≤ hiOf l ms i := countP_le_of fun m _ h => by
        have hne : Nat.beq m i = false := by
          cases hb : Nat.beq m i with
          | false => rfl
          | true => rw [Nat.eq_of_beq_eq_true hb, hun'] at h; cases h
        have han : ancOf l l.length m i = false := by
          cases hb : ancOf l l.length m i with
          | false => rfl
          | true => have := ancOf_listed hcl _ _ _ hb h; rw [hun'] at this; cases this
        simp [hne, han]
      have hph : ∀ (j : Nat), listed.getD j false = true → phOf l ms j ≤ cnt listed := fun j hj => countP_le_of fun m _ h => by
        rw [Bool.or_eq_true] at h
        rcases h with h | h
        · rw [Nat.eq_of_beq_eq_true h]; exact hj
        · exact ancOf_listed hcl _ _ _ h hj
      have hst := hsteps.get i o ho' e1 w1 (cnt listed)
      rw [Nat.zero_add] at hst
      have hst := hst hlo hhi hb (fun j y o' han hy hoj => hS j y o' (ancOf_ready hcl ho' hrd _ _ han) hy hoj) (fun j o' hj han => by
        refine hun0 j o' ?_ hj
        cases hlj : listed.getD j false with
        | false => rfl
        | true => have := ancOf_listed hcl _ _ _ han hlj; rw [hun'] at this; cases this) (fun m y o' hm hch hphm hy hom => by
        refine hS m y o' ?_ hy hom
        cases hlm : listed.getD m false with
        | true => rfl
        | false =>
          exfalso
          have h8 := countP_one (fun k => listed.getD k false) (fun k => if k = m then true else listed.getD k false) m hlm (fun k => rfl) ms hmn (memb_iff.1 hm)
          have h9 : ms.countP (fun k => if k = m then true else listed.getD k false) ≤ phOf l ms m := countP_le_of fun m' hm' h => by
            by_cases e : m' = m
            · rw [e, Nat.beq_refl]; rfl
            · rw [if_neg e] at h
              simp only [chainAt, List.all_eq_true] at hch
              have h10 := hch m' hm'
              cases h11 : ancOf l l.length m m' with
              | true => rw [Bool.or_true]
              | false =>
                rw [h11, Bool.or_false, Bool.or_eq_true] at h10
                rcases h10 with h10 | h10
                · exact absurd (Nat.eq_of_beq_eq_true h10) e
                · have := ancOf_listed hcl _ _ _ h10 h
                  rw [hlm] at this; cases this
          have h12 : ms.countP (fun k => listed.getD k false) = cnt listed := rfl
          omega)
      rw [mix_eq hag, ext_of_mt (depFrP_mt (aft o) (fun ed hed v o' hy hoj => hS ed.on _ o' (hrd ed hed) hy hoj))] at hst
      let turns : Prop := memb ms i = true
      let KK : Env → World → Prop := fun e2 w2 => (memb ms i = false → Below w1.heap.size w1 w2) ∧ (ys.getD i (.pr fun _ _ => True)).holds (vl l e1) (valOf o e2) w2 ∧ ∀ j, o.dst ≠ some j → e2 j = e1 j
      have hwl' : ∃ K : Env → World → Prop, (∀ e2 w2, K e2 w2 → KK e2 w2) ∧ Ops P N l.toArray K [o] e1 w1 := by
        cases hmi : memb ms i with
        | true =>
          rw [hmi] at hst
          exact ⟨_, fun e2 w2 h => ⟨fun h0 => (by rw [hmi] at h0; cases h0), h.1, h.2⟩, hst⟩
        | false =>
          rw [hmi] at hst
          exact ⟨_, fun e2 w2 h => ⟨fun _ => h.1, h.2.1, h.2.2⟩, hst⟩
      obtain ⟨K, hKK, hst'⟩ := hwl'
      have hwl := hst'.run a1 hr
      have hcnt' : cnt (listed.setIfInBounds i true) = if memb ms i = true then cnt listed + 1 else cnt listed := by
        show ms.countP _ = _
        by_cases hmi : memb ms i = true
        · rw [if_pos hmi]
          exact countP_one (fun m => listed.getD m false) (fun m => (listed.setIfInBounds i true).getD m false) i hun' hgs ms hmn (memb_iff.1 hmi)
        · rw [if_neg hmi]
          refine List.countP_congr fun m hmm => ?_
          rw [hgs, if_neg (fun e => hmi (memb_iff.2 (by rw [← e]; exact hmm)))]
      have hnext : ∀ a2 w2, (∃ e2, Rep N a2 e2 ∧ K e2 w2) → wpAny P .any l.toArray (low N Q) fuel (listed.setIfInBounds i true) a2 w2 := by
        intro a2 w2 ⟨e2, hr2, hK2⟩
        obtain ⟨hbl, hy2, hag2⟩ := hKK _ _ hK2
        have hother : ∀ (k : Nat) (o' : Oper), l[k]? = some o' → k ≠ i → valOf o' e2 = valOf o' e1 := by
          intro k o' hok hki
          unfold valOf
          cases hd : o'.dst with
          | none => rfl
          | some d => exact hag2 d (fun h => hki (filterMap_inj _ l h2 k i o' o d hok ho' hd h))
        have hvl : ∀ j, j ≠ i → vl l e2 j = vl l e1 j := by
          intro j hj
          unfold vl
          cases hoj : l[j]? with
          | none => rfl
          | some o' => exact hother j o' hoj hj
        refine ih _ a2 e2 w2 hr2 (fun h0 => ?_) (fun j hj => ?_) (by simpa using hsz) (fun k y o' hk hy hok => ?_) (fun k o' hk hok ed hed => ?_) (fun k o' hk hok => ?_) ?_
        · rw [hcnt'] at h0
          by_cases hmi : memb ms i = true
          · rw [if_pos hmi] at h0; omega
          · rw [if_neg hmi] at h0
            have := hbl (by simpa using hmi)
            exact (hb h0).trans (this.mono (hb h0).size)
        · have hne : o.dst ≠ some j := by
            intro hd
            have : memb (dsl l) j = true := by rw [memb_iff]; exact List.mem_filterMap.2 ⟨o, List.mem_of_getElem? ho', hd⟩
            rw [this] at hj; cases hj
          rw [hag2 j hne]; exact hag j hj
        · by_cases hki : k = i
          · subst hki
            rw [ho'] at hok
            cases hok
            have : ys.getD k (.pr fun _ _ => True) = y := by simp [List.getD_eq_getElem?_getD, hy]
            rw [this] at hy2
            cases y with
            | ex v => exact hy2
            | pr p => exact fun _ => hy2
            | p2 j p =>
              have hj := hp2' k j p hy
              have hlj : listed.getD j false = true := ancOf_ready hcl ho' hrd _ _ hj.1
              have hji : j ≠ k := fun e => by rw [e, hun'] at hlj; cases hlj
              exact fun _ => by rw [hvl j hji]; exact hy2
            | al q p => exact ⟨hy2.1, fun _ => hy2.2⟩
          · have hk' : listed.getD k false = true := by rw [hgs, if_neg hki] at hk; exact hk
            have h7 := hS k y o' hk' hy hok
            rw [hother k o' hok hki]
            cases y with
            | ex v => exact h7
            | pr p =>
              intro hc
              rw [hcnt'] at hc
              by_cases hmi : memb ms i = true
              · rw [if_pos hmi] at hc
                have := hph k hk'
                omega
              · rw [if_neg hmi] at hc
                have hl := hlasts _ (List.mem_of_getElem? hy)
                exact hl _ _ _ (h7 hc) (hbl (by simpa using hmi))
            | p2 j p =>
              have hj := hp2' k j p hy
              have hlj : listed.getD j false = true := ancOf_listed hcl _ _ _ hj.1 hk'
              have hji : j ≠ i := fun e => by rw [e, hun'] at hlj; cases hlj
              intro hc
              rw [hvl j hji]
              rw [hcnt'] at hc
              by_cases hmi : memb ms i = true
              · rw [if_pos hmi] at hc
                have := hph k hk'
                omega
              · rw [if_neg hmi] at hc
                have hl := hlasts _ (List.mem_of_getElem? hy)
                exact hl _ _ _ _ (h7 hc) (hbl (by simpa using hmi))
            | al q p =>
              refine ⟨h7.1, fun hc => ?_⟩
              rw [hcnt'] at hc
              by_cases hmi : memb ms i = true
              · rw [if_pos hmi] at hc
                have := hph k hk'
                omega
              · rw [if_neg hmi] at hc
                have hl := hlasts _ (List.mem_of_getElem? hy)
                exact hl _ _ _ (h7.2 hc) (hbl (by simpa using hmi))
        · rw [hgs]
          by_cases hei : ed.on = i
          · rw [if_pos hei]
          · rw [if_neg hei]
            by_cases hki : k = i
            · subst hki
              rw [ho'] at hok; cases hok
              exact hrd ed hed
            · rw [hgs, if_neg hki] at hk
              exact hcl k o' hk hok ed hed
        · rw [hgs] at hk
          by_cases hki : k = i
          · rw [if_pos hki] at hk; cases hk
          · rw [if_neg hki] at hk
            rw [hother k o' hok hki]
            exact hun0 k o' hk hok
        · have hcount : (List.range l.length).countP (fun k => (listed.setIfInBounds i true).getD k false) = (List.range l.length).countP (fun k => listed.getD k false) + 1 :=
            countP_one (fun k => listed.getD k false) (fun k => (listed.setIfInBounds i true).getD k false) i hun' hgs _ List.nodup_range (by simpa using hil)
          rw [hcount]; omega
      unfold wpOp
      rw [ho]
      unfold wpList at hwl
      show if _ then _ else _
      by_cases hw : Region.wanted o (yielded l.toArray a1.tmps) = true
      · rw [if_pos hw] at hwl ⊢
        rcases hwl with h5 | ⟨_, a0, w0, h5⟩
        · refine .inl (Oper.wp_conv h5 (fun a2 w2 hx => ?_) (fun x a w hx hq => hx hq.1))
          exact hnext a2 w2 hx.2
        · exact absurd h5.1 (by simp)
      · rw [if_neg hw] at hwl ⊢
        exact hnext _ _ hwl.2
  refine key l.length (Array.replicate l.length false) a e _ ha (fun _ => ⟨⟨rfl, rfl, rfl, Nat.le_refl _, fun _ _ => rfl⟩, fun _ => Nat.le_add_right _ _⟩) (fun _ _ => rfl) (by simp) (fun i y o hi => ?_) (fun i o hi => ?_) (fun _ _ _ _ => rfl) (by omega)
  · exfalso
    rw [Array.getD_eq_getD_getElem?, Array.getElem?_replicate] at hi
    split at hi <;> simp at hi
  · exfalso
    rw [Array.getD_eq_getD_getElem?, Array.getElem?_replicate] at hi
    split at hi <;> simp at hi
end
end Go.Proofs.Ytjpkmpihmilgoaa.Vc
/-
  The reference's coset enumeration, walked: the next image. Conditions: as each states them.
-/
namespace Go.Proofs.Ytjpkmpihmilgoaa.Vc
open Go.RowKit

def setI (M : List (List Int)) (c g v : Int) : List (List Int) := M.set c.toNat ((gl M c).set g.toNat v)
def nextP (x : PS) (c g : Int) : Option (PS × Int) :=
  match imageP x c g with
  | none => none
  | some d => if 0 ≤ d then some (x, d) else
    match defP x (gl x.im 0).length with
    | none => none
    | some y => if g < ((gl x.im 0).length : Int) then some (⟨setI (setI y.im c g (x.ls.length : Int)) (x.ls.length : Int) g c, y.ls⟩, (x.ls.length : Int)) else none

theorem St.toBack {w0 w : World} {pre a ks : List Ck} (h : St w0 w (pre ++ (a ++ ks))) : St w0 w (a ++ (pre ++ ks)) := h.perm (by
  rw [← List.append_assoc, ← List.append_assoc]
  exact List.perm_append_comm.append_right ks)
/-- the state of a struct with its memory -/
def LSt (w0 : World) (pre : List Ck) (ks : List Ck) (y : PS) (x : LS) (w : World) : Prop := x.ok ∧ x.p = y ∧ St w0 w (pre ++ (x.cks ++ ks))
theorem LS.rowsI {w0 w : World} {pre ks : List Ck} {x : LS} (hok : x.ok) (h : St w0 w (pre ++ (x.cks ++ ks))) : RowsI w x.A x.n x.rs x.im := by
  have h1 : St w0 w (x.cks ++ (pre ++ ks)) := h.toBack
  have h2 : St w0 w (mat 36 2 x.A x.n x.c x.rs x.im ++ (pre ++ ks)) := h1.tail
  exact h2.rowsI hok.2.1
theorem LS.rdI {w0 w : World} {pre ks : List Ck} {x : LS} (h : St w0 w (pre ++ (x.cks ++ ks))) : RdI w x.B x.m x.ls := by
  have h1 : St w0 w (x.cks ++ (pre ++ ks)) := h.toBack
  exact h1.rdI 0 rfl
theorem l11Next_c {w0 w : World} {ks : List Ck} (x : LS) (c g : Int) (y : PS) (d : Int) (hok : x.ok) (hS : St w0 w (x.cks ++ ks)) (hp : nextP x.p c g = some (y, d)) :
    Ret Try.prog 78 [x.val, .int .i64 c, .int .i64 g] w (fun v w' => ∃ x' : LS, x'.ok ∧ x'.p = y ∧ v = .tuple #[x'.val, .int .i64 d] ∧ St w0 w' (x'.cks ++ ks)) := by
  unfold nextP at hp
  split at hp
  case h_1 => cases hp
  rename_i d0 hd0
  have hcc : 0 ≤ c ∧ c < (x.im.length : Int) ∧ 0 ≤ g ∧ g < ((gl x.im c).length : Int) := by
    have hd1 : (if 0 ≤ c ∧ c < (x.im.length : Int) ∧ 0 ≤ g ∧ g < ((gl x.im c).length : Int) then (if gi (gl x.im c) g < 0 then some (-1) else findP x.ls 2000 (gi (gl x.im c) g)) else none) = some d0 := hd0
    split at hd1
    case isFalse => cases hd1
    rename_i h; exact h
  obtain ⟨ci, rfl⟩ : ∃ ci : Nat, c = ci := ⟨c.toNat, by omega⟩
  have hR0 := LS.rdI (pre := []) hS
  have hI0 := LS.rowsI (pre := []) hok hS
  refine Ret.of_cd Try.func78 rfl Try.ntmps78 rfl (postc2 rfl rfl) ?_
  refine Cd.seq ?_
  refine Cd.region ?_
  refine Ops.box3 hS rfl rfl ?_
  intro Ab w1 hS1
  skip
  refine Ops.new3 hS1 rfl ?_
  intro Ac w2 hS2
  have hS2 : St w0 w2 ([Bx 72 3 Ac [.slice none 0 0, .slice none 0 0, .bool false], Bx 72 3 Ab x.cells] ++ (x.cks ++ ks)) := hS2
  have hR2 := LS.rdI hS2
  have hI2 := LS.rowsI hok hS2
  refine Ops.mv_int rfl rfl rfl ?_
  refine Ops.nil ?_
  refine thenQ_n ?_
  refine Cd.seq ?_
  refine Cd.seq ?_
  refine Cd.region ?_
  refine Ops.ld_agg 2 (hS2.rd 1 rfl) rfl rfl rfl ?_
  refine Ops.mv_int rfl rfl rfl ?_
  refine Ops.mv_int rfl rfl rfl ?_
  refine Ops.call (l11Image_c x.rs x.im x.ls (ci : Int) g d0 _ hI2 hR2 hd0) rfl rfl rfl ?_
  rintro _ w3 ⟨rfl, hst⟩
  have hS3 := hS2.later hst.below
  refine Ops.mv_int rfl rfl rfl ?_
  refine Ops.nil ?_
  refine thenQ_n ?_
  refine Cd.seq ?_
  refine Cd.region ?_
  refine Ops.mv_int rfl rfl rfl ?_
  refine Ops.geq rfl rfl rfl ?_
  refine Ops.nil ?_
  refine thenQ_n ?_
  refine Cd.cond_p _ rfl (fun h1 => ?_) (fun h1 => ?_)
  · rw [if_pos h1] at hp
    obtain ⟨rfl, rfl⟩ := Prod.mk.inj (Option.some.inj hp)
    refine Cd.seq ?_
    refine Cd.region ?_
    refine Ops.ld_agg 2 (hS3.rd 1 rfl) rfl rfl rfl ?_
    refine Ops.mv_int rfl rfl rfl ?_
    refine Ops.st_agg 3 0 hS3 rfl rfl rfl rfl rfl rfl rfl ?_
    intro w4 hS4
    refine Ops.mv_int rfl rfl rfl ?_
    refine Ops.nil ?_
    refine thenQ_n ?_
    refine Cd.ret ?_
    refine thenQ_r ?_
    skip
    refine retc2_r rfl (hS4.rd 0 rfl) rfl ?_
    exact ⟨x, hok, rfl, rfl, (hS4.sub ((List.Sublist.refl _).cons _)).sub ((List.Sublist.refl _).cons _)⟩
  · rw [if_neg h1] at hp
    split at hp
    case h_1 => cases hp
    rename_i y1 hy1
    split at hp
    case isFalse => cases hp
    rename_i hg
    obtain ⟨e1, e2⟩ := Prod.mk.inj (Option.some.inj hp)
    have hI3 := hI2.later hst.below
    have hn : 0 < x.n := by have := hok.2.1; omega
    have hrow := hI3.at_ (i := 0) (Int.le_refl _) (by omega)
    have hrl : (rg x.rs 0).n = (gl x.im 0).length := hrow.1.symm
    refine Cd.skip ?_
    refine thenQ_n ?_
    refine Cd.seq ?_
    refine Cd.drawP [6, 10] [.ex (.agg #[.slice (x.A) (x.n) (x.c), .slice (x.B) (x.m) (x.cB), .bool (false)]), .ex (.pointer (ptrAt (Ab) 0)), .ex (.slice (x.A) (x.n) (x.c)), .ex (.pointer (ptrAt (x.A) ((0 : Int)).toNat)), .ex (.slice ((rg (x.rs) ((0 : Int))).a) ((rg (x.rs) ((0 : Int))).n) ((rg (x.rs) ((0 : Int))).c)), .ex (.int .i64 ((((rg (x.rs) ((0 : Int))).n : Nat) : Int))), .pr (fun v w' => ∃ x' : LS, v = .tuple #[x'.val, .int .i64 (x.m : Int)] ∧ LSt w0 [Bx 72 3 Ac [.slice none 0 0, .slice none 0 0, .bool false], Bx 72 3 Ab x.cells] ks y1 x' w'), .al (fun v => ∃ u0, v = .tuple #[u0, .int .i64 (x.m : Int)]) (fun v w' => ∃ x' : LS, v = .tuple #[x'.val, .int .i64 (x.m : Int)] ∧ LSt w0 [Bx 72 3 Ac [.slice none 0 0, .slice none 0 0, .bool false], Bx 72 3 Ab x.cells] ks y1 x' w'), .pr (fun v w' => ∃ x' : LS, v = x'.val ∧ LSt w0 [Bx 72 3 Ac [.slice none 0 0, .slice none 0 0, .bool false], Bx 72 3 Ab x.cells] ks y1 x' w'), .ex (.int .i64 (x.m : Int)), .pr (fun _ w' => ∃ x' : LS, LSt w0 [Bx 72 3 Ac [.slice none 0 0, .slice none 0 0, .bool false], Bx 72 3 Ab x'.cells] ks y1 x' w'), .ex (.int .i64 (x.m : Int))] (by kernel_rfl) (by kernel_rfl) (List.forall_mem_cons.2 ⟨Ye.lasts_ex _, (List.forall_mem_cons.2 ⟨Ye.lasts_ex _, (List.forall_mem_cons.2 ⟨Ye.lasts_ex _, (List.forall_mem_cons.2 ⟨Ye.lasts_ex _, (List.forall_mem_cons.2 ⟨Ye.lasts_ex _, (List.forall_mem_cons.2 ⟨Ye.lasts_ex _, (List.forall_mem_cons.2 ⟨Ye.lasts_pr (fun v w w' h hb => by obtain ⟨x', hv, h1, h2, h3⟩ := h; exact ⟨x', hv, h1, h2, h3.later hb⟩), (List.forall_mem_cons.2 ⟨Ye.lasts_al (fun v w w' h hb => by obtain ⟨x', hv, h1, h2, h3⟩ := h; exact ⟨x', hv, h1, h2, h3.later hb⟩), (List.forall_mem_cons.2 ⟨Ye.lasts_pr (fun v w w' h hb => by obtain ⟨x', hv, h1, h2, h3⟩ := h; exact ⟨x', hv, h1, h2, h3.later hb⟩), (List.forall_mem_cons.2 ⟨Ye.lasts_ex _, (List.forall_mem_cons.2 ⟨Ye.lasts_pr (fun v w w' h hb => by obtain ⟨x', h1, h2, h3⟩ := h; exact ⟨x', h1, h2, h3.later hb⟩), (List.forall_mem_cons.2 ⟨Ye.lasts_ex _, (fun _ h => by cases h)⟩)⟩)⟩)⟩)⟩)⟩)⟩)⟩)⟩)⟩)⟩)⟩) ⟨?_, ?_, ?_, ?_, ?_, ?_, ?_, ?_, ?_, ?_, ?_, ?_, trivial⟩ ?_
    · intro e1 w1 cc hlo hhi hb0 hp hun hq
      show Ops _ _ _ _ _ _ _
      replace hlo := le_of_lo hlo (b := 0) (by kernel_rfl)
      replace hhi := le_of_hi hhi (b := 0) (by kernel_rfl)
      obtain rfl : cc = 0 := by omega
      have hb := hb0 rfl
      refine Ops.ld_agg 2 ((hS3.rd 1 rfl).below hb) rfl rfl rfl ?_
      refine Ops.nil ?_
      exact AfterP.dn rfl (Below.refl _ _) (by exact rfl)
    · intro e1 w1 cc hlo hhi hb0 hp hun hq
      show Ops _ _ _ _ _ _ _
      replace hlo := le_of_lo hlo (b := 0) (by kernel_rfl)
      replace hhi := le_of_hi hhi (b := 0) (by kernel_rfl)
      obtain rfl : cc = 0 := by omega
      have hb := hb0 rfl
      refine Ops.fld ((hS3.rd 1 rfl).below hb) rfl rfl rfl rfl inferInstance ?_
      refine Ops.nil ?_
      exact AfterP.dn rfl (Below.refl _ _) (by exact rfl)
    · intro e1 w1 cc hlo hhi hb0 hp hun hq
      show Ops _ _ _ _ _ _ _
      replace hlo := le_of_lo hlo (b := 0) (by kernel_rfl)
      replace hhi := le_of_hi hhi (b := 0) (by kernel_rfl)
      obtain rfl : cc = 0 := by omega
      have hb := hb0 rfl
      refine Ops.ldf_s ((hS3.rd 1 rfl).below hb) rfl rfl rfl rfl rfl ?_
      refine Ops.nil ?_
      exact AfterP.dn rfl (Below.refl _ _) (by exact rfl)
    · intro e1 w1 cc hlo hhi hb0 hp hun hq
      show Ops _ _ _ _ _ _ _
      replace hlo := le_of_lo hlo (b := 0) (by kernel_rfl)
      replace hhi := le_of_hi hhi (b := 0) (by kernel_rfl)
      obtain rfl : cc = 0 := by omega
      have hb := hb0 rfl
      refine Ops.idx (hI3.top.later hb).2 rfl rfl rfl (by omega) (by omega) ?_
      refine Ops.nil ?_
      exact AfterP.dn rfl (Below.refl _ _) (by exact rfl)
    · intro e1 w1 cc hlo hhi hb0 hp hun hq
      show Ops _ _ _ _ _ _ _
      replace hlo := le_of_lo hlo (b := 0) (by kernel_rfl)
      replace hhi := le_of_hi hhi (b := 0) (by kernel_rfl)
      obtain rfl : cc = 0 := by omega
      have hb := hb0 rfl
      refine Ops.ld_sl (hI3.top.later hb) rfl (by omega) rfl rfl ?_
      refine Ops.nil ?_
      exact AfterP.dn rfl (Below.refl _ _) (by exact rfl)
    · intro e1 w1 cc hlo hhi hb0 hp hun hq
      show Ops _ _ _ _ _ _ _
      refine Ops.len rfl rfl ?_
      refine Ops.nil ?_
      exact AfterP.dn rfl (Below.refl _ _) (by exact rfl)
    · intro e1 w1 cc hlo hhi hb0 hp hun hq
      show Ops _ _ _ _ _ _ _
      replace hlo := le_of_lo hlo (b := 0) (by kernel_rfl)
      replace hhi := le_of_hi hhi (b := 0) (by kernel_rfl)
      obtain rfl : cc = 0 := by omega
      have hb := hb0 rfl
      refine Ops.call (l11Define_c x (gl x.im 0).length y1 hok ((hS3.later (hb0 rfl)).toBack (pre := [_, _])) hy1) rfl (by rw [← hrl]; rfl) rfl ?_
      rintro _ w4 ⟨x', hok', hp', rfl, hT⟩
      refine Ops.nil ?_
      exact AfterU.dn rfl ⟨x', rfl, hok', hp', hT.toBack⟩
    · intro e1 w1 cc hlo hhi hb0 hp hun hq
      show Ops _ _ _ _ _ _ _
      replace hlo := le_of_lo hlo (b := 1) (by kernel_rfl)
      replace hhi := le_of_hi hhi (b := 1) (by kernel_rfl)
      obtain rfl : cc = 1 := by omega
      have hph := hp 6 _ _ (by kernel_rfl) rfl rfl (by kernel_rfl)
      obtain ⟨x', hv, hT⟩ := (hp 6 _ _ (by kernel_rfl) rfl rfl (by kernel_rfl))
      refine Ops.mv_tup rfl (by exact hv) rfl ?_
      refine Ops.nil ?_
      exact AfterP.dn rfl (Below.refl _ _) ⟨⟨_, rfl⟩, x', rfl, hT⟩
    · intro e1 w1 cc hlo hhi hb0 hp hun hq
      show Ops _ _ _ _ _ _ _
      replace hlo := le_of_lo hlo (b := 1) (by kernel_rfl)
      replace hhi := le_of_hi hhi (b := 1) (by kernel_rfl)
      obtain rfl : cc = 1 := by omega
      have hph := hp 6 _ _ (by kernel_rfl) rfl rfl (by kernel_rfl)
      obtain ⟨x', hv, hT⟩ := ((hp 7 _ _ (by kernel_rfl) rfl rfl).2 (by kernel_rfl))
      refine Ops.extract (by exact hv) rfl rfl ?_
      refine Ops.nil ?_
      exact AfterP.dn rfl (Below.refl _ _) ⟨x', rfl, hT⟩
    · intro e1 w1 cc hlo hhi hb0 hp hun hq
      show Ops _ _ _ _ _ _ _
      obtain ⟨u0, hv⟩ := (hp 7 _ _ (by kernel_rfl) rfl rfl).1
      refine Ops.extract (by exact hv) rfl rfl ?_
      refine Ops.nil ?_
      exact AfterP.dn rfl (Below.refl _ _) rfl
    · intro e1 w1 cc hlo hhi hb0 hp hun hq
      show Ops _ _ _ _ _ _ _
      replace hlo := le_of_lo hlo (b := 1) (by kernel_rfl)
      replace hhi := le_of_hi hhi (b := 1) (by kernel_rfl)
      obtain rfl : cc = 1 := by omega
      have hph := hp 6 _ _ (by kernel_rfl) rfl rfl (by kernel_rfl)
      obtain ⟨x', hv, h1, h2, h3⟩ := (hp 8 _ _ (by kernel_rfl) rfl rfl (by kernel_rfl))
      refine Ops.st_agg 3 1 h3 rfl rfl (by exact hv) rfl rfl rfl rfl ?_
      intro w11 hT11
      refine Ops.nil ?_
      exact AfterU.st rfl ⟨x', h1, h2, hT11⟩
    · intro e1 w1 cc hlo hhi hb0 hp hun hq
      show Ops _ _ _ _ _ _ _
      refine Ops.mv_int rfl rfl rfl ?_
      refine Ops.nil ?_
      exact AfterP.dn rfl (Below.refl _ _) (by exact rfl)
    intro u w5 _ hu _ _
    obtain ⟨x', hok', hp', hT⟩ := hu 10 _ rfl (by kernel_rfl)
    have hxm : x.ls.length = x.m := hok.2.2
    have hy2 := hy1
    have hy1 : (if x.ls.length = x.im.length ∧ x.ls.length < 2000 ∧ (gl x.im 0).length ≤ 100 then some (⟨x.im ++ [List.replicate (gl x.im 0).length (-1)], x.ls ++ [(x.ls.length : Int)]⟩ : PS) else none) = some y1 := hy1
    split at hy1
    case isFalse => cases hy1
    rename_i hb1
    obtain rfl := Option.some.inj hy1
    have him : x'.im = x.im ++ [List.replicate (gl x.im 0).length (-1)] := congrArg PS.im hp'
    have hls : x'.ls = x.ls ++ [(x.ls.length : Int)] := congrArg PS.ls hp'
    have hgg : g < ((gl x.im 0).length : Int) := hg
    have hn' : x'.n = x.n + 1 := by have := hok'.2.1; rw [him, List.length_append] at this; have h5 := hok.2.1; simp at this; omega
    have hT0 : St w0 w5 ([Bx 72 3 Ac [.slice none 0 0, .slice none 0 0, .bool false], Bx 72 3 Ab x'.cells] ++ (x'.cks ++ ks)) := hT
    have hT5 : St w0 w5 ([Bx 72 3 Ac [.slice none 0 0, .slice none 0 0, .bool false], Bx 72 3 Ab x'.cells, CkI 2 x'.B x'.m x'.cB x'.ls] ++ (mat 36 2 x'.A x'.n x'.c x'.rs x'.im ++ ks)) := hT
    have hI5 := LS.rowsI hok' hT0
    have hin : x.im.length = x.n := hok.2.1
    have hrow5 := hI5.at_ (i := (ci : Int)) hcc.1 (by omega)
    have egl : gl x'.im (ci : Int) = gl x.im (ci : Int) := by
      rw [him]
      simp only [gl, Int.toNat_natCast, List.getD_eq_getElem?_getD]
      rw [List.getElem?_append_left (by omega)]
    have egm : gl x'.im (x.m : Int) = List.replicate (gl x.im 0).length (-1) := by
      rw [him]
      simp only [gl, Int.toNat_natCast, List.getD_eq_getElem?_getD]
      rw [List.getElem?_append_right (by omega)]
      simp [show x.m - x.im.length = 0 by omega]
    have hr5 : (rg x'.rs (ci : Int)).n = (gl x.im (ci : Int)).length := by rw [← hrow5.1, egl]
    have hrl' : x'.rs.length = x'.im.length := by rw [hok'.1, hok'.2.1]
    refine thenQ_n ?_
    refine Cd.seq ?_
    refine Cd.seq ?_
    refine Cd.region ?_
    refine Ops.fld (hT5.rd 1 rfl) rfl rfl rfl rfl inferInstance ?_
    refine Ops.ldf_b (hT5.rd 1 rfl) rfl rfl rfl rfl rfl ?_
    refine Ops.nil ?_
    refine thenQ_n ?_
    refine Cd.cond_f rfl ?_
    refine Cd.skip ?_
    refine thenQ_n ?_
    refine Cd.seq ?_
    refine Cd.region ?_
    refine Ops.fld (hT5.rd 1 rfl) rfl rfl rfl rfl inferInstance ?_
    refine Ops.ldf_s (hT5.rd 1 rfl) rfl rfl rfl rfl rfl ?_
    refine Ops.mv_int rfl rfl rfl ?_
    refine Ops.idx hI5.top.2 rfl rfl rfl (by omega) (by omega) ?_
    refine Ops.ld_sl hI5.top rfl (by omega) rfl rfl ?_
    refine Ops.mv_int rfl rfl rfl ?_
    refine Ops.mv_int rfl rfl rfl ?_
    refine Ops.idx hrow5.2 rfl rfl rfl (by omega) (by omega) ?_
    skip
    refine Ops.st_row ci hT5 hrl' (by rw [hok'.1]; omega) rfl rfl (by omega) ?_
    intro w6 hT6
    have hok6 : ({ x' with im := x'.im.set ci ((gl x'.im (ci : Int)).set g.toNat (x.m : Int)) } : LS).ok := ⟨hok'.1, by show (x'.im.set _ _).length = _; rw [List.length_set]; exact hok'.2.1, hok'.2.2⟩
    generalize hx6 : ({ x' with im := x'.im.set ci ((gl x'.im (ci : Int)).set g.toNat (x.m : Int)) } : LS) = x6 at hok6
    have hA6 : x6.A = x'.A ∧ x6.n = x'.n ∧ x6.c = x'.c ∧ x6.rs = x'.rs ∧ x6.B = x'.B ∧ x6.m = x'.m ∧ x6.cB = x'.cB ∧ x6.ls = x'.ls ∧ x6.im = x'.im.set ci ((gl x'.im (ci : Int)).set g.toNat (x.m : Int)) := by subst hx6; exact ⟨rfl, rfl, rfl, rfl, rfl, rfl, rfl, rfl, rfl⟩
    obtain ⟨q1, q2, q3, q4, q5, q6, q7, q8, q9⟩ := hA6
    have hT6' : St w0 w6 ([Bx 72 3 Ac [.slice none 0 0, .slice none 0 0, .bool false], Bx 72 3 Ab x'.cells] ++ (x6.cks ++ ks)) := by
      show St w0 w6 ([Bx _ 3 Ac _, Bx _ 3 Ab x'.cells] ++ ((CkI _ x6.B x6.m x6.cB x6.ls :: mat _ _ x6.A x6.n x6.c x6.rs x6.im) ++ ks))
      rw [q1, q2, q3, q4, q5, q6, q7, q8, q9]
      exact hT6
    have hI6 := LS.rowsI hok6 hT6'
    have hrow6 := hI6.at_ (i := (x.m : Int)) (by omega) (by omega)
    have eg6 : gl x6.im (x.m : Int) = List.replicate (gl x.im 0).length (-1) := by
      rw [q9, gl_set (by rw [him, List.length_append]; omega), if_neg (by omega), egm]
    have hr6 : (rg x6.rs (x.m : Int)).n = (gl x.im 0).length := by rw [← hrow6.1, eg6, List.length_replicate]
    refine Ops.nil ?_
    refine thenQ_n ?_
    refine Cd.seq ?_
    refine Cd.region ?_
    refine Ops.fld (hT6'.rd 1 rfl) rfl rfl rfl rfl inferInstance ?_
    refine Ops.ldf_s (hT6'.rd 1 rfl) rfl rfl rfl rfl rfl ?_
    refine Ops.mv_int rfl rfl rfl ?_
    rw [q1, q2, q4] at hI6
    rw [q4] at hrow6 hr6
    refine Ops.idx hI6.top.2 rfl rfl rfl (by omega) (by omega) ?_
    refine Ops.ld_sl hI6.top rfl (by omega) rfl rfl ?_
    refine Ops.mv_int rfl rfl rfl ?_
    refine Ops.mv_int rfl rfl rfl ?_
    refine Ops.idx hrow6.2 rfl rfl rfl (by omega) (by omega) ?_
    skip
    have hT7 : St w0 w6 ([Bx 72 3 Ac [.slice none 0 0, .slice none 0 0, .bool false], Bx 72 3 Ab x'.cells, CkI 2 x'.B x'.m x'.cB x'.ls] ++ (mat 36 2 x'.A x'.n x'.c x'.rs x6.im ++ ks)) := by
      rw [q9]; exact hT6
    refine Ops.st_row x.m hT7 (by rw [q9, List.length_set]; exact hrl') (by rw [hok'.1]; omega) rfl rfl (by omega) ?_
    intro w8 hT8
    refine Ops.nil ?_
    refine thenQ_n ?_
    refine Cd.seq ?_
    refine Cd.region ?_
    refine Ops.ld_agg 2 (hT8.rd 1 rfl) rfl rfl rfl ?_
    refine Ops.mv_int rfl rfl rfl ?_
    refine Ops.st_agg 3 0 hT8 rfl rfl rfl rfl rfl rfl rfl ?_
    intro w9 hT9
    refine Ops.mv_int rfl rfl rfl ?_
    refine Ops.nil ?_
    refine thenQ_n ?_
    refine Cd.ret ?_
    skip
    refine retc2_r rfl (hT9.rd 0 rfl) rfl ?_
    refine ⟨{ x' with im := x6.im.set x.m ((gl x6.im (x.m : Int)).set g.toNat (ci : Int)) }, ⟨hok'.1, by show (x6.im.set _ _).length = _; rw [List.length_set, q9, List.length_set]; exact hok'.2.1, hok'.2.2⟩, ?_, ?_, (hT9.sub ((List.Sublist.refl _).cons _)).sub ((List.Sublist.refl _).cons _)⟩
    · rw [← e1]
      show (⟨x6.im.set x.m ((gl x6.im (x.m : Int)).set g.toNat (ci : Int)), x'.ls⟩ : PS) = _
      rw [q9, him, hls]
      unfold setI
      simp only [Int.toNat_natCast]
      have e9 : x.p.ls.length = x.m := hxm
      rw [e9]
    · rw [← e2]
      have e9 : x.p.ls.length = x.m := hxm
      rw [e9]
      rfl
end Go.Proofs.Ytjpkmpihmilgoaa.Vc
/-
  The program's coset enumeration, walked: find, image, link, define. Conditions: as each states them.
-/
namespace Go.Proofs.Ytjpkmpihmilgoaa.Vc
open Go.RowKit

/-! plain -/
def linkM (M : List (List Int)) (c d g : Int) : List (List Int) := setI (setI M c g d) d g c
theorem setI_len (M : List (List Int)) (c g v : Int) : (setI M c g v).length = M.length := by simp [setI]
theorem linkM_len (M : List (List Int)) (c d g : Int) : (linkM M c d g).length = M.length := by simp [linkM, setI_len]

/-! memory -/
/-- the state in the box at T, with what it holds -/
abbrev LS.pt (T : Option Addr) (x : LS) : List Ck := Bx 86 3 T x.cells :: x.cks
theorem LS.ptRows {w0 w : World} {T : Option Addr} {ks : List Ck} {x : LS} (hok : x.ok) (h : St w0 w (x.pt T ++ ks)) : RowsI w x.A x.n x.rs x.im := LS.rowsI (pre := [Bx 86 3 T x.cells]) hok h
theorem LS.ptRd {w0 w : World} {T : Option Addr} {ks : List Ck} {x : LS} (h : St w0 w (x.pt T ++ ks)) : RdI w x.B x.m x.ls := LS.rdI (pre := [Bx 86 3 T x.cells]) h

theorem find_c {w0 w : World} {ks : List Ck} {T : Option Addr} (x : LS) (k0 : Nat) (c0 d : Int) (hok : x.ok) (hS : St w0 w (x.pt T ++ ks)) (hf : findP x.ls k0 c0 = some d) :
    Ret Try.prog 85 [.pointer T, .int .i64 c0] w (fun v w' => v = .int .i64 d ∧ w' = w) := by
  have hR := LS.ptRd hS
  have hl := hR.1
  refine Ret.of_cd Try.func85 rfl Try.ntmps85 rfl (post1 rfl) ?_
  refine Cd.seq ?_
  refine Cd.region ?_
  refine Ops.mv_int rfl rfl rfl ?_
  refine Ops.nil ?_
  refine thenQ_n ?_
  refine Cd.seq ?_
  refine Cd.block ?_
  refine Cd.loop (α := Int × Nat) (fun s => [(0, .pointer T), (1, .int .i64 s.1)]) (fun s w' => w' = w ∧ findP x.ls s.2 s.1 = some d) (fun s => s.2) (c0, k0) ⟨rfl, rfl, trivial⟩ ⟨rfl, hf⟩ ?_
  rintro ⟨c, k⟩ e w1 ⟨rfl, hf⟩
  obtain ⟨q, rfl⟩ : ∃ q, k = q + 1 := by cases k with | zero => cases hf | succ q => exact ⟨q, rfl⟩
  have hf : (if 0 ≤ c ∧ c < (x.ls.length : Int) then (if gi x.ls c = c then some c else findP x.ls q (gi x.ls c)) else none) = some d := hf
  split at hf
  case isFalse => cases hf
  rename_i hc
  refine Cd.seq ?_
  refine Cd.seq ?_
  refine Cd.region ?_
  refine Ops.mv_ptr rfl rfl rfl ?_
  refine Ops.nilp (hS.rd 0 rfl) (Nat.succ_pos _) rfl rfl ?_
  refine Ops.fld (hS.rd 0 rfl) rfl rfl rfl rfl inferInstance ?_
  refine Ops.ldf_s (hS.rd 0 rfl) rfl rfl rfl rfl rfl ?_
  refine Ops.mv_int rfl rfl rfl ?_
  refine Ops.idx hR.2 rfl rfl rfl (by omega) (by omega) ?_
  refine Ops.ld_int hR rfl (by omega) rfl rfl ?_
  refine Ops.mv_int rfl rfl rfl ?_
  refine Ops.neq rfl rfl rfl ?_
  refine Ops.nil ?_
  refine thenQ_n ?_
  refine Cd.cond_p _ rfl (fun h1 => ?_) (fun h1 => ?_)
  · rw [if_neg h1] at hf
    refine Cd.skip ?_
    refine thenQ_n ?_
    refine Cd.block ?_
    refine Cd.region ?_
    refine Ops.mv_ptr rfl rfl rfl ?_
    refine Ops.nilp (hS.rd 0 rfl) (Nat.succ_pos _) rfl rfl ?_
    refine Ops.fld (hS.rd 0 rfl) rfl rfl rfl rfl inferInstance ?_
    refine Ops.ldf_s (hS.rd 0 rfl) rfl rfl rfl rfl rfl ?_
    refine Ops.mv_int rfl rfl rfl ?_
    refine Ops.idx hR.2 rfl rfl rfl (by omega) (by omega) ?_
    refine Ops.ld_int hR rfl (by omega) rfl rfl ?_
    refine Ops.mv_int rfl rfl rfl ?_
    refine Ops.nil ?_
    refine blockQ_n ?_
    refine thenQ_n ?_
    exact ⟨(gi x.ls c, q), Nat.lt_succ_self q, ⟨rfl, rfl, trivial⟩, rfl, hf⟩
  · have h1 : gi x.ls c = c := Decidable.not_not.1 h1
    rw [if_pos h1] at hf
    obtain rfl := Option.some.inj hf
    refine Cd.exit ?_
    refine thenQ_x ?_
    refine thenQ_x ?_
    refine blockQ_x ?_
    refine thenQ_n ?_
    refine Cd.seq ?_
    refine Cd.region ?_
    refine Ops.mv_int rfl rfl rfl ?_
    refine Ops.mv_int rfl rfl rfl ?_
    refine Ops.nil ?_
    refine thenQ_n ?_
    refine Cd.ret ?_
    refine ret1_i rfl ?_
    exact ⟨rfl, rfl⟩

theorem image_c {w0 w : World} {ks : List Ck} {T : Option Addr} (x : LS) (c0 g d : Int) (hok : x.ok) (hS : St w0 w (x.pt T ++ ks)) (hf : imageP x.p c0 g = some d) :
    Ret Try.prog 73 [.pointer T, .int .i64 c0, .int .i64 g] w (fun v w' => v = .int .i64 d ∧ w' = w) := by
  have hI := LS.ptRows hok hS
  have hl := hI.len
  have hf : (if 0 ≤ c0 ∧ c0 < (x.im.length : Int) ∧ 0 ≤ g ∧ g < ((gl x.im c0).length : Int) then (if gi (gl x.im c0) g < 0 then some (-1) else findP x.ls 2000 (gi (gl x.im c0) g)) else none) = some d := hf
  split at hf
  case isFalse => cases hf
  rename_i hc
  have hrow := hI.at_ (i := c0) hc.1 (by omega)
  have hrl := hrow.1
  refine Ret.of_cd Try.func73 rfl Try.ntmps73 rfl (post1 rfl) ?_
  refine Cd.seq ?_
  refine Cd.region ?_
  refine Ops.mv_int rfl rfl rfl ?_
  refine Ops.nil ?_
  refine thenQ_n ?_
  refine Cd.seq ?_
  refine Cd.seq ?_
  refine Cd.region ?_
  refine Ops.mv_ptr rfl rfl rfl ?_
  refine Ops.nilp (hS.rd 0 rfl) (Nat.succ_pos _) rfl rfl ?_
  refine Ops.fld (hS.rd 0 rfl) rfl rfl rfl rfl inferInstance ?_
  refine Ops.ldf_s (hS.rd 0 rfl) rfl rfl rfl rfl rfl ?_
  refine Ops.mv_int rfl rfl rfl ?_
  refine Ops.idx hI.top.2 rfl rfl rfl (by omega) (by omega) ?_
  refine Ops.ld_sl hI.top rfl (by omega) rfl rfl ?_
  refine Ops.mv_int rfl rfl rfl ?_
  refine Ops.idx hrow.2 rfl rfl rfl (by omega) (by omega) ?_
  refine Ops.ld_int hrow rfl (by omega) rfl rfl ?_
  refine Ops.mv_int rfl rfl rfl ?_
  refine Ops.nil ?_
  refine thenQ_n ?_
  refine Cd.seq ?_
  refine Cd.region ?_
  refine Ops.mv_int rfl rfl rfl ?_
  refine Ops.geq rfl rfl rfl ?_
  refine Ops.nil ?_
  refine thenQ_n ?_
  refine Cd.cond_p _ rfl (fun h1 => ?_) (fun h1 => ?_)
  · rw [if_neg (by omega)] at hf
    refine Cd.seq ?_
    refine Cd.region ?_
    refine Ops.mv_ptr rfl rfl rfl ?_
    refine Ops.mv_int rfl rfl rfl ?_
    refine Ops.call (find_c x 2000 _ d hok hS hf) rfl rfl rfl ?_
    rintro _ w2 ⟨rfl, rfl⟩
    refine Ops.mv_int rfl rfl rfl ?_
    refine Ops.nil ?_
    refine thenQ_n ?_
    refine Cd.ret ?_
    refine thenQ_r ?_
    refine ret1_i rfl ?_
    exact ⟨rfl, rfl⟩
  · rw [if_pos (by omega)] at hf
    obtain rfl := Option.some.inj hf
    refine Cd.skip ?_
    refine thenQ_n ?_
    refine Cd.seq ?_
    refine Cd.region ?_
    refine Ops.mv_int rfl rfl rfl ?_
    refine Ops.nil ?_
    refine thenQ_n ?_
    refine Cd.ret ?_
    refine ret1_i rfl ?_
    exact ⟨rfl, rfl⟩

theorem link_c {w0 w : World} {ks : List Ck} {T : Option Addr} (x : LS) (c d g : Int) (hok : x.ok) (hS : St w0 w (x.pt T ++ ks)) (hc : 0 ≤ c ∧ c < (x.im.length : Int)) (hd : 0 ≤ d ∧ d < (x.im.length : Int)) (hg : 0 ≤ g ∧ g < ((gl x.im c).length : Int) ∧ g < ((gl x.im d).length : Int)) :
    Ret Try.prog 84 [.pointer T, .int .i64 c, .int .i64 d, .int .i64 g] w (fun _ w' => ({ x with im := linkM x.im c d g } : LS).ok ∧ St w0 w' (({ x with im := linkM x.im c d g } : LS).pt T ++ ks)) := by
  have hI := LS.ptRows hok hS
  have hl := hI.len
  obtain ⟨ci, rfl⟩ : ∃ ci : Nat, c = ci := ⟨c.toNat, by omega⟩
  obtain ⟨di, rfl⟩ : ∃ di : Nat, d = di := ⟨d.toNat, by omega⟩
  have hrc := hI.at_ (i := (ci : Int)) hc.1 (by omega)
  have hrd := hI.at_ (i := (di : Int)) hd.1 (by omega)
  have hlc := hrc.1
  have hld := hrd.1
  have hrl : x.rs.length = x.im.length := by rw [hok.1, hok.2.1]
  have hS0 : St w0 w ([Bx 86 3 T x.cells, CkI 2 x.B x.m x.cB x.ls] ++ (mat 36 2 x.A x.n x.c x.rs x.im ++ ks)) := hS
  have hok1 : ({ x with im := setI x.im (ci : Int) g (di : Int) } : LS).ok := ⟨hok.1, by show (setI _ _ _ _).length = _; rw [setI_len]; exact hok.2.1, hok.2.2⟩
  have hok2 : ({ x with im := linkM x.im (ci : Int) (di : Int) g } : LS).ok := ⟨hok.1, by show (linkM _ _ _ _).length = _; rw [linkM_len]; exact hok.2.1, hok.2.2⟩
  have hgd : g < ((gl (setI x.im (ci : Int) g (di : Int)) (di : Int)).length : Int) := by
    unfold setI
    rw [gl_set (by omega)]
    split
    · rename_i h; rw [List.length_set, ← hlc] at *; omega
    · omega
  have hld1 : (gl (setI x.im (ci : Int) g (di : Int)) (di : Int)).length = (rg x.rs (di : Int)).n := by
    unfold setI
    rw [gl_set (by omega)]
    split
    · rename_i h
      rw [List.length_set, hlc]
      congr 2
      omega
    · exact hld
  refine Ret.of_cd Try.func84 rfl Try.ntmps84 rfl (post0 rfl) ?_
  skip
  refine Cd.drawN [19, 21] [.ex (.pointer (T)), .ex (.pointer (T)), .ex (.pointer (ptrAt (T) 0)), .ex (.slice (x.A) (x.n) (x.c)), .ex (.int .i64 ((ci : Int))), .ex (.pointer (ptrAt (x.A) ((ci : Int)).toNat)), .ex (.slice ((rg (x.rs) ((ci : Int))).a) ((rg (x.rs) ((ci : Int))).n) ((rg (x.rs) ((ci : Int))).c)), .ex (.int .i64 (g)), .ex (.pointer (T)), .ex (.pointer (T)), .ex (.pointer (ptrAt (T) 0)), .ex (.slice (x.A) (x.n) (x.c)), .ex (.int .i64 ((di : Int))), .ex (.pointer (ptrAt (x.A) ((di : Int)).toNat)), .ex (.slice ((rg (x.rs) ((di : Int))).a) ((rg (x.rs) ((di : Int))).n) ((rg (x.rs) ((di : Int))).c)), .ex (.int .i64 (g)), .ex (.int .i64 ((di : Int))), .ex (.int .i64 ((ci : Int))), .ex (.pointer (ptrAt ((rg (x.rs) ((ci : Int))).a) (g).toNat)), .pr (fun _ w' => St w0 w' ([Bx 86 3 T x.cells, CkI 2 x.B x.m x.cB x.ls] ++ (mat 36 2 x.A x.n x.c x.rs (setI x.im (ci : Int) g (di : Int)) ++ ks))), .ex (.pointer (ptrAt ((rg (x.rs) ((di : Int))).a) (g).toNat)), .pr (fun _ w' => St w0 w' ([Bx 86 3 T x.cells, CkI 2 x.B x.m x.cB x.ls] ++ (mat 36 2 x.A x.n x.c x.rs (linkM x.im (ci : Int) (di : Int) g) ++ ks)))] (by kernel_rfl) (by kernel_rfl) (List.forall_mem_cons.2 ⟨Yd.lasts_ex _, (List.forall_mem_cons.2 ⟨Yd.lasts_ex _, (List.forall_mem_cons.2 ⟨Yd.lasts_ex _, (List.forall_mem_cons.2 ⟨Yd.lasts_ex _, (List.forall_mem_cons.2 ⟨Yd.lasts_ex _, (List.forall_mem_cons.2 ⟨Yd.lasts_ex _, (List.forall_mem_cons.2 ⟨Yd.lasts_ex _, (List.forall_mem_cons.2 ⟨Yd.lasts_ex _, (List.forall_mem_cons.2 ⟨Yd.lasts_ex _, (List.forall_mem_cons.2 ⟨Yd.lasts_ex _, (List.forall_mem_cons.2 ⟨Yd.lasts_ex _, (List.forall_mem_cons.2 ⟨Yd.lasts_ex _, (List.forall_mem_cons.2 ⟨Yd.lasts_ex _, (List.forall_mem_cons.2 ⟨Yd.lasts_ex _, (List.forall_mem_cons.2 ⟨Yd.lasts_ex _, (List.forall_mem_cons.2 ⟨Yd.lasts_ex _, (List.forall_mem_cons.2 ⟨Yd.lasts_ex _, (List.forall_mem_cons.2 ⟨Yd.lasts_ex _, (List.forall_mem_cons.2 ⟨Yd.lasts_ex _, (List.forall_mem_cons.2 ⟨Yd.lasts_pr (fun v w w' h hb => h.later hb), (List.forall_mem_cons.2 ⟨Yd.lasts_ex _, (List.forall_mem_cons.2 ⟨Yd.lasts_pr (fun v w w' h hb => h.later hb), (fun _ h => by cases h)⟩)⟩)⟩)⟩)⟩)⟩)⟩)⟩)⟩)⟩)⟩)⟩)⟩)⟩)⟩)⟩)⟩)⟩)⟩)⟩)⟩)⟩) ⟨?_, ?_, ?_, ?_, ?_, ?_, ?_, ?_, ?_, ?_, ?_, ?_, ?_, ?_, ?_, ?_, ?_, ?_, ?_, ?_, ?_, ?_, trivial⟩ ?_
  · intro e1 w1 cc hlo hhi hb0 hp hun hq
    show Ops _ _ _ _ _ _ _
    refine Ops.mv_ptr rfl rfl rfl ?_
    refine Ops.nil ?_
    exact AfterN.dn rfl (Below.refl _ _) (by exact rfl)
  · intro e1 w1 cc hlo hhi hb0 hp hun hq
    show Ops _ _ _ _ _ _ _
    replace hlo := le_of_lo hlo (b := 0) (by kernel_rfl)
    replace hhi := le_of_hi hhi (b := 0) (by kernel_rfl)
    obtain rfl : cc = 0 := by omega
    have hb := hb0 rfl
    refine Ops.nilp ((hS.rd 0 rfl).below hb) (Nat.succ_pos _) rfl rfl ?_
    refine Ops.nil ?_
    exact AfterN.dn rfl (Below.refl _ _) (by exact rfl)
  · intro e1 w1 cc hlo hhi hb0 hp hun hq
    show Ops _ _ _ _ _ _ _
    replace hlo := le_of_lo hlo (b := 0) (by kernel_rfl)
    replace hhi := le_of_hi hhi (b := 0) (by kernel_rfl)
    obtain rfl : cc = 0 := by omega
    have hb := hb0 rfl
    refine Ops.fld ((hS.rd 0 rfl).below hb) rfl rfl rfl rfl inferInstance ?_
    refine Ops.nil ?_
    exact AfterN.dn rfl (Below.refl _ _) (by exact rfl)
  · intro e1 w1 cc hlo hhi hb0 hp hun hq
    show Ops _ _ _ _ _ _ _
    replace hlo := le_of_lo hlo (b := 0) (by kernel_rfl)
    replace hhi := le_of_hi hhi (b := 0) (by kernel_rfl)
    obtain rfl : cc = 0 := by omega
    have hb := hb0 rfl
    refine Ops.ldf_s ((hS.rd 0 rfl).below hb) rfl rfl rfl rfl rfl ?_
    refine Ops.nil ?_
    exact AfterN.dn rfl (Below.refl _ _) (by exact rfl)
  · intro e1 w1 cc hlo hhi hb0 hp hun hq
    show Ops _ _ _ _ _ _ _
    refine Ops.mv_int rfl rfl rfl ?_
    refine Ops.nil ?_
    exact AfterN.dn rfl (Below.refl _ _) (by exact rfl)
  · intro e1 w1 cc hlo hhi hb0 hp hun hq
    show Ops _ _ _ _ _ _ _
    replace hlo := le_of_lo hlo (b := 0) (by kernel_rfl)
    replace hhi := le_of_hi hhi (b := 0) (by kernel_rfl)
    obtain rfl : cc = 0 := by omega
    have hb := hb0 rfl
    refine Ops.idx (hI.top.later hb).2 rfl rfl rfl (by omega) (by omega) ?_
    refine Ops.nil ?_
    exact AfterN.dn rfl (Below.refl _ _) (by exact rfl)
  · intro e1 w1 cc hlo hhi hb0 hp hun hq
    show Ops _ _ _ _ _ _ _
    replace hlo := le_of_lo hlo (b := 0) (by kernel_rfl)
    replace hhi := le_of_hi hhi (b := 0) (by kernel_rfl)
    obtain rfl : cc = 0 := by omega
    have hb := hb0 rfl
    refine Ops.ld_sl (hI.top.later hb) rfl (by omega) rfl rfl ?_
    refine Ops.nil ?_
    exact AfterN.dn rfl (Below.refl _ _) (by exact rfl)
  · intro e1 w1 cc hlo hhi hb0 hp hun hq
    show Ops _ _ _ _ _ _ _
    refine Ops.mv_int rfl rfl rfl ?_
    refine Ops.nil ?_
    exact AfterN.dn rfl (Below.refl _ _) (by exact rfl)
  · intro e1 w1 cc hlo hhi hb0 hp hun hq
    show Ops _ _ _ _ _ _ _
    refine Ops.mv_ptr rfl rfl rfl ?_
    refine Ops.nil ?_
    exact AfterN.dn rfl (Below.refl _ _) (by exact rfl)
  · intro e1 w1 cc hlo hhi hb0 hp hun hq
    show Ops _ _ _ _ _ _ _
    replace hlo := le_of_lo hlo (b := 0) (by kernel_rfl)
    replace hhi := le_of_hi hhi (b := 0) (by kernel_rfl)
    obtain rfl : cc = 0 := by omega
    have hb := hb0 rfl
    refine Ops.nilp ((hS.rd 0 rfl).below hb) (Nat.succ_pos _) rfl rfl ?_
    refine Ops.nil ?_
    exact AfterN.dn rfl (Below.refl _ _) (by exact rfl)
  · intro e1 w1 cc hlo hhi hb0 hp hun hq
    show Ops _ _ _ _ _ _ _
    replace hlo := le_of_lo hlo (b := 0) (by kernel_rfl)
    replace hhi := le_of_hi hhi (b := 0) (by kernel_rfl)
    obtain rfl : cc = 0 := by omega
    have hb := hb0 rfl
    refine Ops.fld ((hS.rd 0 rfl).below hb) rfl rfl rfl rfl inferInstance ?_
    refine Ops.nil ?_
    exact AfterN.dn rfl (Below.refl _ _) (by exact rfl)
  · intro e1 w1 cc hlo hhi hb0 hp hun hq
    show Ops _ _ _ _ _ _ _
    replace hlo := le_of_lo hlo (b := 0) (by kernel_rfl)
    replace hhi := le_of_hi hhi (b := 0) (by kernel_rfl)
    obtain rfl : cc = 0 := by omega
    have hb := hb0 rfl
    refine Ops.ldf_s ((hS.rd 0 rfl).below hb) rfl rfl rfl rfl rfl ?_
    refine Ops.nil ?_
    exact AfterN.dn rfl (Below.refl _ _) (by exact rfl)
  · intro e1 w1 cc hlo hhi hb0 hp hun hq
    show Ops _ _ _ _ _ _ _
    refine Ops.mv_int rfl rfl rfl ?_
    refine Ops.nil ?_
    exact AfterN.dn rfl (Below.refl _ _) (by exact rfl)
  · intro e1 w1 cc hlo hhi hb0 hp hun hq
    show Ops _ _ _ _ _ _ _
    replace hlo := le_of_lo hlo (b := 0) (by kernel_rfl)
    replace hhi := le_of_hi hhi (b := 0) (by kernel_rfl)
    obtain rfl : cc = 0 := by omega
    have hb := hb0 rfl
    refine Ops.idx (hI.top.later hb).2 rfl rfl rfl (by omega) (by omega) ?_
    refine Ops.nil ?_
    exact AfterN.dn rfl (Below.refl _ _) (by exact rfl)
  · intro e1 w1 cc hlo hhi hb0 hp hun hq
    show Ops _ _ _ _ _ _ _
    replace hlo := le_of_lo hlo (b := 0) (by kernel_rfl)
    replace hhi := le_of_hi hhi (b := 0) (by kernel_rfl)
    obtain rfl : cc = 0 := by omega
    have hb := hb0 rfl
    refine Ops.ld_sl (hI.top.later hb) rfl (by omega) rfl rfl ?_
    refine Ops.nil ?_
    exact AfterN.dn rfl (Below.refl _ _) (by exact rfl)
  · intro e1 w1 cc hlo hhi hb0 hp hun hq
    show Ops _ _ _ _ _ _ _
    refine Ops.mv_int rfl rfl rfl ?_
    refine Ops.nil ?_
    exact AfterN.dn rfl (Below.refl _ _) (by exact rfl)
  · intro e1 w1 cc hlo hhi hb0 hp hun hq
    show Ops _ _ _ _ _ _ _
    refine Ops.mv_int rfl rfl rfl ?_
    refine Ops.nil ?_
    exact AfterN.dn rfl (Below.refl _ _) (by exact rfl)
  · intro e1 w1 cc hlo hhi hb0 hp hun hq
    show Ops _ _ _ _ _ _ _
    refine Ops.mv_int rfl rfl rfl ?_
    refine Ops.nil ?_
    exact AfterN.dn rfl (Below.refl _ _) (by exact rfl)
  · intro e1 w1 cc hlo hhi hb0 hp hun hq
    show Ops _ _ _ _ _ _ _
    replace hlo := le_of_lo hlo (b := 0) (by kernel_rfl)
    replace hhi := le_of_hi hhi (b := 0) (by kernel_rfl)
    obtain rfl : cc = 0 := by omega
    have hb := hb0 rfl
    refine Ops.idx (hrc.later hb).2 rfl rfl rfl (by omega) (by omega) ?_
    refine Ops.nil ?_
    exact AfterN.dn rfl (Below.refl _ _) (by exact rfl)
  · intro e1 w1 cc hlo hhi hb0 hp hun hq
    show Ops _ _ _ _ _ _ _
    replace hlo := le_of_lo hlo (b := 0) (by kernel_rfl)
    replace hhi := le_of_hi hhi (b := 0) (by kernel_rfl)
    obtain rfl : cc = 0 := by omega
    have hb := hb0 rfl
    refine Ops.st_row ci (hS0.later hb) hrl (by omega) rfl rfl (by omega) ?_
    intro w9 hT9
    refine Ops.nil ?_
    exact AfterT.st rfl hT9
  · intro e1 w1 cc hlo hhi hb0 hp hun hq
    show Ops _ _ _ _ _ _ _
    replace hlo := le_of_lo hlo (b := 1) (by kernel_rfl)
    replace hhi := le_of_hi hhi (b := 1) (by kernel_rfl)
    obtain rfl : cc = 1 := by omega
    have hph := hp 19 _ _ (by kernel_rfl) rfl rfl (by kernel_rfl)
    have hI9 : RdI _ (rg x.rs (di : Int)).a (rg x.rs (di : Int)).n (gl (setI x.im (ci : Int) g (di : Int)) (di : Int)) := (LS.ptRows (T := T) (x := { x with im := setI x.im (ci : Int) g (di : Int) }) hok1 hph).at_ (i := (di : Int)) (by omega) (by show (di : Int) < (x.n : Int); omega)
    refine Ops.idx (hI9).2 rfl rfl rfl (by omega) (by omega) ?_
    refine Ops.nil ?_
    exact AfterN.dn rfl (Below.refl _ _) (by exact rfl)
  · intro e1 w1 cc hlo hhi hb0 hp hun hq
    show Ops _ _ _ _ _ _ _
    replace hlo := le_of_lo hlo (b := 1) (by kernel_rfl)
    replace hhi := le_of_hi hhi (b := 1) (by kernel_rfl)
    obtain rfl : cc = 1 := by omega
    have hph := hp 19 _ _ (by kernel_rfl) rfl rfl (by kernel_rfl)
    have hI9 : RdI _ (rg x.rs (di : Int)).a (rg x.rs (di : Int)).n (gl (setI x.im (ci : Int) g (di : Int)) (di : Int)) := (LS.ptRows (T := T) (x := { x with im := setI x.im (ci : Int) g (di : Int) }) hok1 hph).at_ (i := (di : Int)) (by omega) (by show (di : Int) < (x.n : Int); omega)
    refine Ops.st_row di hph (by rw [setI_len]; exact hrl) (by omega) rfl rfl (by omega) ?_
    intro w9 hT9
    refine Ops.nil ?_
    exact AfterT.st rfl hT9
  intro u w5 _ hu
  have hT := hu 21 _ rfl (by kernel_rfl)
  refine ret0_n ?_
  exact ⟨hok2, hT⟩
end Go.Proofs.Ytjpkmpihmilgoaa.Vc
/-
  The program's coset enumeration, walked: define. Conditions: as each states them.
-/
namespace Go.Proofs.Ytjpkmpihmilgoaa.Vc
open Go.RowKit

theorem define_c {w0 w : World} {ks : List Ck} {T : Option Addr} (x : LS) (c g : Int) (y : PS) (hok : x.ok) (hS : St w0 w (x.pt T ++ ks)) (hp : defP x.p (gl x.im 0).length = some y) (h0 : 0 < x.im.length) (hc : 0 ≤ c ∧ c < (x.im.length : Int)) (hg : 0 ≤ g ∧ g < ((gl x.im c).length : Int) ∧ g < ((gl x.im 0).length : Int)) :
    Ret Try.prog 72 [.pointer T, .int .i64 c, .int .i64 g] w (fun v w' => ∃ x' : LS, x'.ok ∧ x'.p = ⟨linkM y.im c (x.ls.length : Int) g, y.ls⟩ ∧ v = .int .i64 (x.ls.length : Int) ∧ St w0 w' (x'.pt T ++ ks)) := by
  have hI := LS.ptRows hok hS
  have hl := hI.len
  have hp : (if x.ls.length = x.im.length ∧ x.ls.length < 2000 ∧ (gl x.im 0).length ≤ 100 then some (⟨x.im ++ [List.replicate (gl x.im 0).length (-1)], x.ls ++ [(x.ls.length : Int)]⟩ : PS) else none) = some y := hp
  split at hp
  case isFalse => cases hp
  rename_i hb
  obtain rfl := Option.some.inj hp
  have hr0 := hI.at_ (i := 0) (Int.le_refl _) (by omega)
  have hr0l := hr0.1
  have hnm : x.n = x.m := by have := hok.2.1; have := hok.2.2; omega
  have hrl : x.rs.length = x.im.length := by rw [hok.1, hok.2.1]
  have hm2 : x.n < 2000 := by omega
  have hS0 : St w0 w (Bx 86 3 T x.cells :: CkI 2 x.B x.m x.cB x.ls :: CkR 36 x.A x.n x.c x.rs :: (rowsCk 2 x.rs x.im ++ ks)) := hS
  have hS1 : St w0 w (Bx 86 3 T [.slice x.A x.n x.c, .slice x.B x.m x.cB, .bool false] :: CkI 2 x.B x.m x.cB x.ls :: CkR 36 x.A x.n x.c x.rs :: (rowsCk 2 x.rs x.im ++ ks)) := hS0
  generalize hN : (gl x.im 0).length = N at hr0l hb hg ⊢
  subst hr0l
  generalize hNN : (rg x.rs 0).n = N at hb hg ⊢
  refine Ret.of_cd Try.func72 rfl Try.ntmps72 rfl (post1 rfl) ?_
  refine Cd.seq ?_
  refine Cd.region ?_
  refine Ops.mv_int rfl rfl rfl ?_
  refine Ops.nil ?_
  refine thenQ_n ?_
  refine Cd.seq ?_
  refine Cd.region ?_
  refine Ops.mv_ptr rfl rfl rfl ?_
  refine Ops.nilp (hS0.rd 0 rfl) (Nat.succ_pos _) rfl rfl ?_
  refine Ops.fld (hS0.rd 0 rfl) rfl rfl rfl rfl inferInstance ?_
  refine Ops.ldf_s (hS0.rd 0 rfl) rfl rfl rfl rfl rfl ?_
  skip
  refine Ops.call (sizeR_c x.A x.n x.c w) rfl rfl rfl ?_
  rintro _ uw ⟨rfl, rfl⟩
  refine Ops.mv_int rfl rfl rfl ?_
  refine Ops.nil ?_
  refine thenQ_n ?_
  refine Cd.seq ?_
  refine Cd.seq ?_
  refine Cd.region ?_
  refine Ops.mv_int rfl rfl rfl ?_
  refine Ops.geq rfl rfl rfl ?_
  refine Ops.nil ?_
  refine thenQ_n ?_
  refine Cd.cond_pf rfl (by omega) ?_
  refine Cd.skip ?_
  refine thenQ_n ?_
  refine Cd.seq ?_
  refine Cd.drawN [15, 18] [.ex (.pointer (T)), .ex (.pointer (T)), .ex (.pointer (T)), .ex (.pointer (ptrAt (T) 0)), .ex (.slice (x.A) (x.n) (x.c)), .pr (fun v w' => ∃ A1, v = .slice A1 1 1 ∧ St uw w' [CkI 2 A1 1 1 [-1]]), .ex (.pointer (T)), .ex (.pointer (T)), .ex (.pointer (ptrAt (T) 0)), .ex (.slice (x.A) (x.n) (x.c)), .ex (.pointer (ptrAt (x.A) ((0 : Int)).toNat)), .ex (.slice ((rg (x.rs) ((0 : Int))).a) ((rg (x.rs) ((0 : Int))).n) ((rg (x.rs) ((0 : Int))).c)), .ex (.int .i64 ((((rg (x.rs) ((0 : Int))).n : Nat) : Int))), .pr (fun v w' => ∃ A2, v = .slice A2 N N ∧ St uw w' [CkI 2 A2 N N (List.replicate N (-1))]), .pr (fun v w' => ∃ A2 A3, v = .slice A3 1 1 ∧ St uw w' [CkR 36 A3 1 1 [⟨A2, N, N⟩], CkI 2 A2 N N (List.replicate N (-1))]), .pr (fun v w' => ∃ A2 A4 c4, v = .slice A4 (x.n + 1) c4 ∧ St w0 w' (CkI 2 A2 N N (List.replicate N (-1)) :: Bx 86 3 T [.slice x.A x.n x.c, .slice x.B x.m x.cB, .bool false] :: CkI 2 x.B x.m x.cB x.ls :: CkR 36 A4 (x.n + 1) c4 (x.rs ++ [⟨A2, N, N⟩]) :: (rowsCk 2 x.rs x.im ++ ks))), .ex (.pointer (T)), .ex (.pointer (ptrAt (T) 0)), .pr (fun _ w' => ∃ A2 A4 c4, St w0 w' (CkI 2 A2 N N (List.replicate N (-1)) :: Bx 86 3 T [.slice A4 (x.n + 1) c4, .slice x.B x.m x.cB, .bool false] :: CkI 2 x.B x.m x.cB x.ls :: CkR 36 A4 (x.n + 1) c4 (x.rs ++ [⟨A2, N, N⟩]) :: (rowsCk 2 x.rs x.im ++ ks)))] (by kernel_rfl) (by kernel_rfl) (List.forall_mem_cons.2 ⟨Yd.lasts_ex _, (List.forall_mem_cons.2 ⟨Yd.lasts_ex _, (List.forall_mem_cons.2 ⟨Yd.lasts_ex _, (List.forall_mem_cons.2 ⟨Yd.lasts_ex _, (List.forall_mem_cons.2 ⟨Yd.lasts_ex _, (List.forall_mem_cons.2 ⟨Yd.lasts_pr (fun v w w' h hb => by obtain ⟨A1, hv, h1⟩ := h; exact ⟨A1, hv, h1.later hb⟩), (List.forall_mem_cons.2 ⟨Yd.lasts_ex _, (List.forall_mem_cons.2 ⟨Yd.lasts_ex _, (List.forall_mem_cons.2 ⟨Yd.lasts_ex _, (List.forall_mem_cons.2 ⟨Yd.lasts_ex _, (List.forall_mem_cons.2 ⟨Yd.lasts_ex _, (List.forall_mem_cons.2 ⟨Yd.lasts_ex _, (List.forall_mem_cons.2 ⟨Yd.lasts_ex _, (List.forall_mem_cons.2 ⟨Yd.lasts_pr (fun v w w' h hb => by obtain ⟨A1, hv, h1⟩ := h; exact ⟨A1, hv, h1.later hb⟩), (List.forall_mem_cons.2 ⟨Yd.lasts_pr (fun v w w' h hb => by obtain ⟨A2, A3, hv, h1⟩ := h; exact ⟨A2, A3, hv, h1.later hb⟩), (List.forall_mem_cons.2 ⟨Yd.lasts_pr (fun v w w' h hb => by obtain ⟨A2, A4, c4, hv, h1⟩ := h; exact ⟨A2, A4, c4, hv, h1.later hb⟩), (List.forall_mem_cons.2 ⟨Yd.lasts_ex _, (List.forall_mem_cons.2 ⟨Yd.lasts_ex _, (List.forall_mem_cons.2 ⟨Yd.lasts_pr (fun v w w' h hb => by obtain ⟨A2, A4, c4, h1⟩ := h; exact ⟨A2, A4, c4, h1.later hb⟩), (fun _ h => by cases h)⟩)⟩)⟩)⟩)⟩)⟩)⟩)⟩)⟩)⟩)⟩)⟩)⟩)⟩)⟩)⟩)⟩)⟩)⟩) ⟨?_, ?_, ?_, ?_, ?_, ?_, ?_, ?_, ?_, ?_, ?_, ?_, ?_, ?_, ?_, ?_, ?_, ?_, ?_, trivial⟩ ?_
  · intro e1 w1 cc hlo hhi hb0 hp hun hq
    show Ops _ _ _ _ _ _ _
    refine Ops.mv_ptr rfl rfl rfl ?_
    refine Ops.nil ?_
    exact AfterN.dn rfl (Below.refl _ _) (by exact rfl)
  · intro e1 w1 cc hlo hhi hb0 hp hun hq
    show Ops _ _ _ _ _ _ _
    refine Ops.mv_ptr rfl rfl rfl ?_
    refine Ops.nil ?_
    exact AfterN.dn rfl (Below.refl _ _) (by exact rfl)
  · intro e1 w1 cc hlo hhi hb0 hp hun hq
    show Ops _ _ _ _ _ _ _
    replace hlo := le_of_lo hlo (b := 0) (by kernel_rfl)
    replace hhi := le_of_hi hhi (b := 0) (by kernel_rfl)
    obtain rfl : cc = 0 := by omega
    have hb := hb0 rfl
    refine Ops.nilp ((hS1.rd 0 rfl).below hb) (Nat.succ_pos _) rfl rfl ?_
    refine Ops.nil ?_
    exact AfterN.dn rfl (Below.refl _ _) (by exact rfl)
  · intro e1 w1 cc hlo hhi hb0 hp hun hq
    show Ops _ _ _ _ _ _ _
    replace hlo := le_of_lo hlo (b := 0) (by kernel_rfl)
    replace hhi := le_of_hi hhi (b := 0) (by kernel_rfl)
    obtain rfl : cc = 0 := by omega
    have hb := hb0 rfl
    refine Ops.fld ((hS1.rd 0 rfl).below hb) rfl rfl rfl rfl inferInstance ?_
    refine Ops.nil ?_
    exact AfterN.dn rfl (Below.refl _ _) (by exact rfl)
  · intro e1 w1 cc hlo hhi hb0 hp hun hq
    show Ops _ _ _ _ _ _ _
    replace hlo := le_of_lo hlo (b := 0) (by kernel_rfl)
    replace hhi := le_of_hi hhi (b := 0) (by kernel_rfl)
    obtain rfl : cc = 0 := by omega
    have hb := hb0 rfl
    refine Ops.ldf_s ((hS1.rd 0 rfl).below hb) rfl rfl rfl rfl rfl ?_
    refine Ops.nil ?_
    exact AfterN.dn rfl (Below.refl _ _) (by exact rfl)
  · intro e1 w1 cc hlo hhi hb0 hp hun hq
    show Ops _ _ _ _ _ _ _
    replace hlo := le_of_lo hlo (b := 0) (by kernel_rfl)
    replace hhi := le_of_hi hhi (b := 0) (by kernel_rfl)
    obtain rfl : cc = 0 := by omega
    have hb := hb0 rfl
    refine Ops.bs1I (St.refl _) rfl rfl rfl ?_
    intro A1 w2 hst
    have hb := hb0 rfl
    refine Ops.nil ?_
    exact AfterN.dn rfl hst.below ⟨A1, rfl, ((St.refl uw).later hb).call hst⟩
  · intro e1 w1 cc hlo hhi hb0 hp hun hq
    show Ops _ _ _ _ _ _ _
    refine Ops.mv_ptr rfl rfl rfl ?_
    refine Ops.nil ?_
    exact AfterN.dn rfl (Below.refl _ _) (by exact rfl)
  · intro e1 w1 cc hlo hhi hb0 hp hun hq
    show Ops _ _ _ _ _ _ _
    replace hlo := le_of_lo hlo (b := 0) (by kernel_rfl)
    replace hhi := le_of_hi hhi (b := 0) (by kernel_rfl)
    obtain rfl : cc = 0 := by omega
    have hb := hb0 rfl
    refine Ops.nilp ((hS1.rd 0 rfl).below hb) (Nat.succ_pos _) rfl rfl ?_
    refine Ops.nil ?_
    exact AfterN.dn rfl (Below.refl _ _) (by exact rfl)
  · intro e1 w1 cc hlo hhi hb0 hp hun hq
    show Ops _ _ _ _ _ _ _
    replace hlo := le_of_lo hlo (b := 0) (by kernel_rfl)
    replace hhi := le_of_hi hhi (b := 0) (by kernel_rfl)
    obtain rfl : cc = 0 := by omega
    have hb := hb0 rfl
    refine Ops.fld ((hS1.rd 0 rfl).below hb) rfl rfl rfl rfl inferInstance ?_
    refine Ops.nil ?_
    exact AfterN.dn rfl (Below.refl _ _) (by exact rfl)
  · intro e1 w1 cc hlo hhi hb0 hp hun hq
    show Ops _ _ _ _ _ _ _
    replace hlo := le_of_lo hlo (b := 0) (by kernel_rfl)
    replace hhi := le_of_hi hhi (b := 0) (by kernel_rfl)
    obtain rfl : cc = 0 := by omega
    have hb := hb0 rfl
    refine Ops.ldf_s ((hS1.rd 0 rfl).below hb) rfl rfl rfl rfl rfl ?_
    refine Ops.nil ?_
    exact AfterN.dn rfl (Below.refl _ _) (by exact rfl)
  · intro e1 w1 cc hlo hhi hb0 hp hun hq
    show Ops _ _ _ _ _ _ _
    replace hlo := le_of_lo hlo (b := 0) (by kernel_rfl)
    replace hhi := le_of_hi hhi (b := 0) (by kernel_rfl)
    obtain rfl : cc = 0 := by omega
    have hb := hb0 rfl
    refine Ops.idx (hI.top.later hb).2 rfl rfl rfl (by omega) (by omega) ?_
    refine Ops.nil ?_
    exact AfterN.dn rfl (Below.refl _ _) (by exact rfl)
  · intro e1 w1 cc hlo hhi hb0 hp hun hq
    show Ops _ _ _ _ _ _ _
    replace hlo := le_of_lo hlo (b := 0) (by kernel_rfl)
    replace hhi := le_of_hi hhi (b := 0) (by kernel_rfl)
    obtain rfl : cc = 0 := by omega
    have hb := hb0 rfl
    refine Ops.ld_sl (hI.top.later hb) rfl (by omega) rfl rfl ?_
    refine Ops.nil ?_
    exact AfterN.dn rfl (Below.refl _ _) (by exact rfl)
  · intro e1 w1 cc hlo hhi hb0 hp hun hq
    show Ops _ _ _ _ _ _ _
    refine Ops.len rfl rfl ?_
    refine Ops.nil ?_
    exact AfterN.dn rfl (Below.refl _ _) (by exact rfl)
  · intro e1 w1 cc hlo hhi hb0 hp hun hq
    show Ops _ _ _ _ _ _ _
    replace hlo := le_of_lo hlo (b := 0) (by kernel_rfl)
    replace hhi := le_of_hi hhi (b := 0) (by kernel_rfl)
    obtain rfl : cc = 0 := by omega
    have hb := hb0 rfl
    obtain ⟨A1, hv, h1⟩ := (hp 5 _ _ (by kernel_rfl) rfl rfl (by kernel_rfl))
    have hb := hb0 rfl
    refine Ops.call (Repeat_c A1 1 (-1) N _ (h1.rdI 0 rfl) (by omega)) rfl (by rw [← hNN]; exact congrArg (fun v => [v, Value.int .i64 (((rg x.rs 0).n : Nat) : Int)]) hv) rfl ?_
    rintro _ w2 ⟨A2, rfl, hst⟩
    refine Ops.nil ?_
    exact AfterN.dn rfl hst.below ⟨A2, rfl, ((St.refl uw).later hb).call hst⟩
  · intro e1 w1 cc hlo hhi hb0 hp hun hq
    show Ops _ _ _ _ _ _ _
    replace hlo := le_of_lo hlo (b := 0) (by kernel_rfl)
    replace hhi := le_of_hi hhi (b := 0) (by kernel_rfl)
    obtain rfl : cc = 0 := by omega
    have hb := hb0 rfl
    obtain ⟨A2, hv, h1⟩ := (hp 13 _ _ (by kernel_rfl) rfl rfl (by kernel_rfl))
    have hb := hb0 rfl
    refine Ops.bs1R (St.refl _) (by exact hv) rfl rfl ?_
    intro A3 w2 hst
    refine Ops.nil ?_
    exact AfterN.dn rfl hst.below ⟨A2, A3, rfl, h1.call hst⟩
  · intro e1 w1 cc hlo hhi hb0 hp hun hq
    show Ops _ _ _ _ _ _ _
    replace hlo := le_of_lo hlo (b := 0) (by kernel_rfl)
    replace hhi := le_of_hi hhi (b := 0) (by kernel_rfl)
    obtain rfl : cc = 0 := by omega
    have hb := hb0 rfl
    obtain ⟨A2, A3, hv, h1⟩ := (hp 14 _ _ (by kernel_rfl) rfl rfl (by kernel_rfl))
    have h2 := hS1.call h1
    refine Ops.appR 4 h2 rfl (h2.rdR 0 rfl) rfl (by exact hv) rfl (by omega) (by omega) rfl ?_
    intro A4 c4 w3 hT
    refine Ops.nil ?_
    exact AfterT.dn rfl ⟨A2, A4, c4, rfl, hT.tail⟩
  · intro e1 w1 cc hlo hhi hb0 hp hun hq
    show Ops _ _ _ _ _ _ _
    replace hlo := le_of_lo hlo (b := 1) (by kernel_rfl)
    replace hhi := le_of_hi hhi (b := 1) (by kernel_rfl)
    obtain rfl : cc = 1 := by omega
    have hph := hp 15 _ _ (by kernel_rfl) rfl rfl (by kernel_rfl)
    obtain ⟨A2, A4, c4, h42, hT⟩ := hph
    refine Ops.nilp ((hT.rd 1 rfl)) (Nat.succ_pos _) rfl rfl ?_
    refine Ops.nil ?_
    exact AfterN.dn rfl (Below.refl _ _) (by exact rfl)
  · intro e1 w1 cc hlo hhi hb0 hp hun hq
    show Ops _ _ _ _ _ _ _
    replace hlo := le_of_lo hlo (b := 1) (by kernel_rfl)
    replace hhi := le_of_hi hhi (b := 1) (by kernel_rfl)
    obtain rfl : cc = 1 := by omega
    have hph := hp 15 _ _ (by kernel_rfl) rfl rfl (by kernel_rfl)
    obtain ⟨A2, A4, c4, h42, hT⟩ := hph
    refine Ops.fld ((hT.rd 1 rfl)) rfl rfl rfl rfl inferInstance ?_
    refine Ops.nil ?_
    exact AfterN.dn rfl (Below.refl _ _) (by exact rfl)
  · intro e1 w1 cc hlo hhi hb0 hp hun hq
    show Ops _ _ _ _ _ _ _
    replace hlo := le_of_lo hlo (b := 1) (by kernel_rfl)
    replace hhi := le_of_hi hhi (b := 1) (by kernel_rfl)
    obtain rfl : cc = 1 := by omega
    have hph := hp 15 _ _ (by kernel_rfl) rfl rfl (by kernel_rfl)
    obtain ⟨A2, A4, c4, h42, hT⟩ := hph
    refine Ops.stf 1 hT rfl rfl (by exact h42) rfl rfl ?_
    intro w24 hT24
    refine Ops.nil ?_
    exact AfterT.st rfl ⟨A2, A4, c4, hT24⟩
  intro u w7 _ hu
  obtain ⟨A2, A4, c4, hS7⟩ := hu 18 _ rfl (by kernel_rfl)
  refine thenQ_n ?_
  refine Cd.seq ?_
  refine Cd.region ?_
  refine Ops.mv_ptr rfl rfl rfl ?_
  refine Ops.mv_ptr rfl rfl rfl ?_
  refine Ops.nilp (hS7.rd 1 rfl) (Nat.succ_pos _) rfl rfl ?_
  refine Ops.fld (hS7.rd 1 rfl) rfl rfl rfl rfl inferInstance ?_
  refine Ops.ldf_s (hS7.rd 1 rfl) rfl rfl rfl rfl rfl ?_
  refine Ops.mv_int rfl rfl rfl ?_
  refine Ops.bs1I hS7 rfl rfl rfl ?_
  intro A8 w8 hS8
  refine Ops.appI 3 hS8 rfl (hS8.rdI 0 rfl) rfl rfl rfl (by omega) (by omega) rfl ?_
  intro A9 c9 w9 hS9
  have hS9 : St w0 w9 (CkI 2 A2 N N (List.replicate N (-1)) :: Bx 86 3 T [.slice A4 (x.n + 1) c4, .slice x.B x.m x.cB, .bool false] :: CkI 2 A9 (x.m + 1) c9 (x.ls ++ [(x.n : Int)]) :: CkR 36 A4 (x.n + 1) c4 (x.rs ++ [⟨A2, N, N⟩]) :: (rowsCk 2 x.rs x.im ++ ks)) := hS9.tail
  skip
  refine Ops.nilp (hS9.rd 1 rfl) (Nat.succ_pos _) rfl rfl ?_
  refine Ops.fld (hS9.rd 1 rfl) rfl rfl rfl rfl inferInstance ?_
  refine Ops.stf 1 hS9 rfl rfl rfl rfl rfl ?_
  intro w10 hS10
  have hS10 : St w0 w10 (CkI 2 A2 N N (List.replicate N (-1)) :: Bx 86 3 T [.slice A4 (x.n + 1) c4, .slice A9 (x.m + 1) c9, .bool false] :: CkI 2 A9 (x.m + 1) c9 (x.ls ++ [(x.n : Int)]) :: CkR 36 A4 (x.n + 1) c4 (x.rs ++ [⟨A2, N, N⟩]) :: (rowsCk 2 x.rs x.im ++ ks)) := hS10
  have hlen : x.ls.length = x.n := by omega
  have hokY : (⟨A4, x.n + 1, c4, x.rs ++ [⟨A2, N, N⟩], x.im ++ [List.replicate N (-1)], A9, x.m + 1, c9, x.ls ++ [(x.n : Int)]⟩ : LS).ok := ⟨by simp [hok.1], by simp [hok.2.1], by simp [hok.2.2]⟩
  have hSY : St w0 w10 ((⟨A4, x.n + 1, c4, x.rs ++ [⟨A2, N, N⟩], x.im ++ [List.replicate N (-1)], A9, x.m + 1, c9, x.ls ++ [(x.n : Int)]⟩ : LS).pt T ++ ks) := by
    show St w0 w10 (Bx 86 3 T [.slice A4 (x.n + 1) c4, .slice A9 (x.m + 1) c9, .bool false] :: CkI 2 A9 (x.m + 1) c9 (x.ls ++ [(x.n : Int)]) :: CkR 36 A4 (x.n + 1) c4 (x.rs ++ [⟨A2, N, N⟩]) :: (rowsCk 2 (x.rs ++ [⟨A2, N, N⟩]) (x.im ++ [List.replicate N (-1)]) ++ ks))
    rw [rowsCk_append (by omega), List.append_assoc]
    refine hS10.perm ?_
    refine (List.perm_middle (l₁ := [_, _, _]) (a := CkI 2 A2 N N (List.replicate N (-1)))).symm.trans ?_
    refine List.Perm.cons _ (List.Perm.cons _ (List.Perm.cons _ ?_))
    exact List.perm_middle.symm
  have glo : ∀ (i : Int), 0 ≤ i → i < (x.im.length : Int) → gl (x.im ++ [List.replicate N (-1)]) i = gl x.im i := by
    intro i hi0 hi1
    simp only [gl, List.getD_eq_getElem?_getD]
    rw [List.getElem?_append_left (by omega)]
  have gln : gl (x.im ++ [List.replicate N (-1)]) (x.n : Int) = List.replicate N (-1) := by
    simp only [gl, List.getD_eq_getElem?_getD, Int.toNat_natCast]
    rw [List.getElem?_append_right (by omega)]
    simp [show x.n - x.im.length = 0 by omega]
  refine Ops.nil ?_
  refine thenQ_n ?_
  refine Cd.seq ?_
  refine Cd.region ?_
  refine Ops.mv_ptr rfl rfl rfl ?_
  refine Ops.mv_int rfl rfl rfl ?_
  refine Ops.mv_int rfl rfl rfl ?_
  refine Ops.mv_int rfl rfl rfl ?_
  refine Ops.call (link_c (ks := ks) _ c (x.n : Int) g hokY hSY (by simp; omega) (by simp; omega) (by
    rw [glo c hc.1 hc.2, gln, List.length_replicate]
    exact ⟨hg.1, hg.2.1, hg.2.2⟩)) rfl rfl rfl ?_
  rintro _ w11 ⟨hok11, hS11⟩
  refine Ops.nil ?_
  refine thenQ_n ?_
  refine Cd.seq ?_
  refine Cd.region ?_
  refine Ops.mv_int rfl rfl rfl ?_
  refine Ops.mv_int rfl rfl rfl ?_
  refine Ops.nil ?_
  refine thenQ_n ?_
  refine Cd.ret ?_
  refine ret1_i rfl ?_
  refine ⟨_, hok11, ?_, by rw [hlen], hS11⟩
  simp only [LS.p, hlen]
end Go.Proofs.Ytjpkmpihmilgoaa.Vc
/-
  Rows of structs of two cells, a slice and a number: the rules of the operations on them. Conditions: as each rule names them.
-/
namespace Go.Proofs.Ytjpkmpihmilgoaa.Vc
open Go.RowKit

structure CV where
  s : SlV
  v : Int
def flatC : List CV → List Value
  | [] => []
  | x :: r => x.s.v :: .int .i64 x.v :: flatC r
/-- a row of such structs of one's own: k of them, room for q -/
def CkC (t : TypeId) (A : Option Addr) (k q : Nat) (cs : List CV) : Ck := ⟨A, 2 * k, min (2 * q) maxLen, t, flatC cs⟩
/-- .. that can be read -/
def RdC (w : World) (A : Option Addr) (k : Nat) (cs : List CV) : Prop := cs.length = k ∧ Rd w A (2 * k) (fun j => (flatC cs).getD j undef)
/-- the address behind some -/
def cutC (A : Option Addr) (q l : Nat) : Option Addr := if q = l then A else ptrAt A (l * 2)
section
variable {w0 w : World} {ks : List Ck} {i : Nat} {t : TypeId} {A : Option Addr} {k q : Nat} {cs : List CV}
/-- a new block, of which a part is held -/
theorem St.allocP (h : St w0 w ks) (cs : List Value) (e : TypeId) (n c : Nat) (hn : n ≤ c) (hc : c ≤ cs.length) (hm : c ≤ maxLen) (hM : isM cs = false) : St w0 (w.alloc (.cells cs.toArray e)) (⟨some ⟨w.heap.size, 0, Option.none⟩, n, c, e, cs.take n⟩ :: ks) := by
  have hb : Below w.heap.size w (w.alloc (.cells cs.toArray e)) := (Below.refl _ _).alloc (Nat.le_refl _) _
  have h1 := h.later hb
  refine ⟨h1.below, fun k hk => ?_, ?_⟩
  · rcases List.mem_cons.1 hk with rfl | hk
    · refine .ofC (isM_take n hM) ⟨by simp; omega, hn, hm, .inr ⟨_, 0, cs.toArray, rfl, h.below.size, heap_alloc_new w _, by simp; omega, fun j hj => ?_⟩⟩
      have hj : j < n := hj
      simp [List.getElem?_take, hj]
    · exact h1.own k hk
  · simp only [List.filterMap_cons, Ck.blk, Option.map_some, List.nodup_cons]
    refine ⟨fun hin => ?_, h.apart⟩
    obtain ⟨k', hk', hkb⟩ := List.mem_filterMap.1 hin
    have := ((h.own k' hk').lt hkb).2
    omega
theorem perm_set {α : Type} : ∀ (l : List α) (i : Nat) (x y : α), l[i]? = some y → (x :: l).Perm (y :: l.set i x)
  | [], i, x, y, h => by simp at h
  | u :: l, 0, x, y, h => by simp at h; subst h; exact List.Perm.swap _ _ _
  | u :: l, i + 1, x, y, h => by
    simp only [List.getElem?_cons_succ] at h
    simp only [List.set_cons_succ]
    exact (List.Perm.swap _ _ _).trans (((perm_set l i x y h).cons u).trans (List.Perm.swap _ _ _))
theorem zero2 {z z0 z1 : Value} (hz : z.cells = #[z0, z1]) (m : Nat) : (Builtin.zeroCells z.cells m).toList.length = 2 * m := by
  rw [hz]
  simp [Builtin.zeroCells]
  omega
end
section
variable {P : Program} {N : Nat} {ops : Array Oper} {K : Env → World → Prop} {rest : List Oper} {e : Env} {w0 w w' : World} {ks : List Ck} {d : Nat} {ty : TypeId} {pos : String} {af : Array Edge}
theorem Ops.bld2c {t : TypeId} {f0 f1 : Field} {z0 z1 y0 y1 : Value} {b b0 b1 : Nat} [Und P t (.struct #[f0, f1])] [Inf P t (.agg #[z0, z1]) 2 b] {x0 x1 : Operand} {v0 v1 : Value} (hI0 : Inf P f0.type y0 1 b0) (hI1 : Inf P f1.type y1 1 b1) (ho : f0.offset = 0) (ho1 : f1.offset = 1) (h0 : ev e x0 = v0) (h1 : ev e x1 = v1) (c0 : v0.oneCell' = true) (c1 : v1.oneCell' = true) (hb : Nat.blt d N = true)
    (hK : Ops P N ops K rest (upd e d (.agg #[v0, v1])) w) : Ops P N ops K (⟨some d, .build t #[(0, x0), (1, x1)], ty, pos, af, none⟩ :: rest) e w := by
  obtain ⟨inf, hi, hz0, hs, hby⟩ := Inf.get P t
  obtain ⟨inf0, hi0, hz00, hs0, hby0⟩ := hI0.get P f0.type
  obtain ⟨inf1, hi1, hz01, hs1, hby1⟩ := hI1.get P f1.type
  have e0 : v0.cells = #[v0] := by cases v0 <;> simp [Value.oneCell'] at c0 <;> rfl
  have e1 : v1.cells = #[v1] := by cases v1 <;> simp [Value.oneCell'] at c1 <;> rfl
  have ez : (Value.agg #[z0, z1]).cells = #[z0, z1] := rfl
  refine .val (w' := w) ?_ hb hK
  simp [execOp, Instr.build, run_underlying (Und.out (P := P) (t := t)), sizeOf, typeInfo, zeroValue, hi, hz0, hi0, hs0, hi1, hs1, ho, ho1, h0, h1, e0, e1, ez, Instr.fill]

end
end Go.Proofs.Ytjpkmpihmilgoaa.Vc
/-
  Rows of pairs of numbers: the rules of the operations on them. Conditions: as each rule names them.
-/
namespace Go.Proofs.Ytjpkmpihmilgoaa.Vc
open Go.RowKit

structure PV where
  s : Int
  v : Int
def flatQ : List PV → List Value
  | [] => []
  | x :: r => .int .i64 x.s :: .int .i64 x.v :: flatQ r
theorem flatQ_len : ∀ l : List PV, (flatQ l).length = 2 * l.length
  | [] => rfl
  | x :: r => by
    simp only [flatQ, List.length_cons]
    rw [flatQ_len r]
    omega
theorem flatQ_app : ∀ a b : List PV, flatQ (a ++ b) = flatQ a ++ flatQ b
  | [], _ => rfl
  | x :: r, b => by
    simp only [List.cons_append, flatQ]
    rw [flatQ_app r b]
theorem flatQ_get : ∀ {l : List PV} {i : Nat} (h : i < l.length), (flatQ l)[2 * i]? = some (.int .i64 l[i].s) ∧ (flatQ l)[2 * i + 1]? = some (.int .i64 l[i].v)
  | x :: r, 0, _ => ⟨rfl, rfl⟩
  | x :: r, i + 1, h => by
    have := flatQ_get (l := r) (i := i) (by simpa using h)
    simp only [flatQ, List.getElem_cons_succ]
    rw [show 2 * (i + 1) = 2 * i + 1 + 1 by omega]
    simpa using this
theorem flatQ_drop : ∀ (l : List PV) (i : Nat), (flatQ l).drop (2 * i) = flatQ (l.drop i)
  | [], i => by simp [flatQ]
  | x :: r, 0 => rfl
  | x :: r, i + 1 => by
    rw [show 2 * (i + 1) = 2 * i + 1 + 1 by omega]
    simp only [flatQ, List.drop_succ_cons]
    rw [flatQ_drop r i]
theorem isM_Q (l : List PV) : isM (flatQ l) = false := by cases l <;> rfl
/-- a row of such pairs of one's own: k of them, room for q, behind z that have been cut off -/
def CkQ (t : TypeId) (A : Option Addr) (k q z : Nat) (cs : List PV) : Ck := ⟨A, 2 * k, min (2 * (q + z)) maxLen - 2 * z, t, flatQ cs⟩
/-- .. that can be read -/
def RdQ (w : World) (A : Option Addr) (k : Nat) (cs : List PV) : Prop := cs.length = k ∧ Rd w A (2 * k) (fun j => (flatQ cs).getD j undef)
theorem RdQ.below {w w' : World} {A : Option Addr} {k : Nat} {cs : List PV} (h : RdQ w A k cs) (hb : Below w.heap.size w w') : RdQ w' A k cs := ⟨h.1, Rd.below h.2 hb⟩
section
variable {w0 w : World} {ks : List Ck} {i : Nat} {t : TypeId} {A : Option Addr} {k q z : Nat} {cs : List PV}
theorem St.rdQ (h : St w0 w ks) (i : Nat) (hk : ks[i]? = some (CkQ t A k q z cs)) : RdQ w A k cs := by
  have h1 : (flatQ cs).length = 2 * k := (h.getC hk (isM_Q _)).1
  rw [flatQ_len] at h1
  exact ⟨by omega, h.rd i hk⟩
theorem St.capQ (h : St w0 w ks) (i : Nat) (hk : ks[i]? = some (CkQ t A k q z cs)) : k ≤ q ∧ 2 * k ≤ maxLen := by
  have h1 : 2 * k ≤ min (2 * (q + z)) maxLen - 2 * z := (h.get hk).cap.1
  omega
theorem RdQ.at_ (h : RdQ w A k cs) {j : Nat} (hj : j < k) : Rd w (ptrAt A (j * 2)) 2 (fun m => [.int .i64 (cs[j]'(by rw [h.1]; exact hj)).s, .int .i64 (cs[j]'(by rw [h.1]; exact hj)).v].getD m undef) := by
  have hl : j < cs.length := by rw [h.1]; exact hj
  have := (h.2.behind (o := j * 2) (m := 2) (by omega))
  refine this.congr fun m hm => ?_
  have hg := flatQ_get hl
  rcases (show m = 0 ∨ m = 1 by omega) with rfl | rfl
  · rw [show j * 2 + 0 = 2 * j by omega, List.getD_eq_getElem?_getD, hg.1]; rfl
  · rw [show j * 2 + 1 = 2 * j + 1 by omega, List.getD_eq_getElem?_getD, hg.2]; rfl
end
section
variable {P : Program} {N : Nat} {ops : Array Oper} {K : Env → World → Prop} {rest : List Oper} {e : Env} {w0 w w' : World} {ks : List Ck} {d : Nat} {ty : TypeId} {pos : String} {af : Array Edge}
theorem Ops.idxQ {t el : TypeId} {z : Value} {b : Nat} [Und P t (.slice el)] [Inf P el z 2 b] {x ix : Operand} {A : Option Addr} {n c : Nat} {k : IntKind} {i : Int} {cs : List PV} (hR : RdQ w A n cs)
    (hx : ev e x = .slice A n c) (hy : ev e ix = .int k i) (hb : Nat.blt d N = true) (h0 : 0 ≤ i) (h1 : i < (n : Int)) (hK : Ops P N ops K rest (upd e d (.pointer (ptrAt A (i.toNat * 2)))) w) :
    Ops P N ops K (⟨some d, .indexAddr t x ix, ty, pos, af, none⟩ :: rest) e w := by
  obtain ⟨p, hp, _⟩ := hR.2 i.toNat (by omega)
  obtain ⟨q, rfl⟩ : ∃ q, A = some q := by cases A with | none => simp [ptrAt] at hp | some q => exact ⟨q, rfl⟩
  obtain ⟨inf, hi, _, hs, _⟩ := Inf.get P el
  refine .val (w' := w) ?_ hb hK
  simp [execOp, Instr.indexAt, hx, hy, asIntOf, run_underlying (Und.out (P := P) (t := t)), h0, h1, sizeOf, typeInfo, hi, hs, ptrAt]
theorem Ops.cut_lQ {t el : TypeId} {z : Value} {b : Nat} [hU : Und P t (.slice el)] [Inf P el z 2 b] {x lo : Operand} {A : Option Addr} {n c : Nat} {k : IntKind} {l : Int} (hx : ev e x = .slice A n c) (hl : ev e lo = .int k l) (hb : Nat.blt d N = true) (h0 : 0 ≤ l ∧ l ≤ (n : Int))
    (hK : Ops P N ops K rest (upd e d (.slice (cutC A c l.toNat) (n - l.toNat) (c - l.toNat))) w) : Ops P N ops K (⟨some d, .slice t x (some lo) none none, ty, pos, af, none⟩ :: rest) e w := by
  obtain ⟨inf, hi, hz0, hs, hby⟩ := Inf.get P el
  refine .val (w' := w) ?_ hb hK
  have := run_sliceBound (P := P) w k l n .sliceB h0.1 h0.2
  simp [execOp, hx, hl, Instr.sliceAt, run_underlying hU.out, Instr.slice, Instr.sliceBounds, this, sizeOf, typeInfo, hi, hs, cutC, ptrAt]
theorem Ops.bs1_Q {t el : TypeId} {z z0 z1 : Value} {b : Nat} [Und P t (.slice el)] [Inf P el z 2 b] {x0 : Operand} {u0 v0 : Int} (hS : St w0 w ks) (h0 : ev e x0 = .agg #[.int .i64 u0, .int .i64 v0]) (hz : z.cells = #[z0, z1]) (hb : Nat.blt d N = true)
    (hK : ∀ A w', St w0 w' (CkQ el A 1 1 0 [⟨u0, v0⟩] :: ks) → Ops P N ops K rest (upd e d (.slice A 1 1)) w') : Ops P N ops K (⟨some d, .buildSlice t 1 #[(0, x0)], ty, pos, af, none⟩ :: rest) e w := by
  obtain ⟨inf, hi, hz0, hs, hby⟩ := Inf.get P el
  refine .val (w' := w.alloc (.cells #[.int .i64 u0, .int .i64 v0] el)) ?_ hb (hK _ _ (hS.alloc [.int .i64 u0, .int .i64 v0] el (by simp [maxLen]) rfl))
  simp [execOp, Instr.buildSlice, run_underlying (Und.out (P := P) (t := t)), sizeOf, typeInfo, zeroValue, hi, hs, hz0, hz, Instr.fill, newRow, h0, arr_range, List.range_succ, Value.cells]
theorem run_appendQ_st {t el : TypeId} {z z0 z1 : Value} {b : Nat} [hU : Und P t (.slice el)] [Inf P el z 2 b] (hz : z.cells = #[z0, z1]) {A : Option Addr} {n c q : Nat} {cs : List PV} (i : Nat) (hS : St w0 w ks) (hk : ks[i]? = some (CkQ el A n c q cs)) {A' : Option Addr} {m c' : Nat} {ds : List PV} (hR : RdQ w A' m ds)
    (h63 : 2 * (n + m + q) ≤ maxLen) (hbytes : (n + m) * b ≤ 140737488355328) (ty : TypeId) :
    ∃ A2 c2 q2 w', (Builtin.append_ #[t, t] ty #[.slice A n c, .slice A' m c']).run P w = .ok (.slice A2 (n + m) c2) w' ∧ q2 ≤ q ∧ St w0 w' (ks.set i (CkQ el A2 (n + m) c2 q2 (cs ++ ds))) := by
  obtain ⟨inf, hi, hz0, hs, hby⟩ := Inf.get P el
  have hown := hS.getC hk (isM_Q _)
  have hcap := hS.capQ i hk
  have hcl := (hS.rdQ i hk).1
  obtain ⟨hl, hnc, hcm, h4⟩ := hown
  have hilt := (List.getElem?_eq_some_iff.1 hk).1
  by_cases hm : m = 0
  · subst hm
    have hd0 : ds = [] := List.eq_nil_of_length_eq_zero hR.1
    subst hd0
    refine ⟨A, c, q, w, ?_, Nat.le_refl _, ?_⟩
    · cases A' with
      | none => cases A <;> simp [Builtin.append_, run_underlying hU.out, sizeOf, typeInfo, hi, Builtin.lenOf, Builtin.firstCells, hcap.1, storeCells]
      | some a =>
        cases A <;> simp [Builtin.append_, run_underlying hU.out, sizeOf, typeInfo, hi, Builtin.lenOf, Builtin.firstCells, hcap.1, storeCells, loadCells, loadCellsFrom]
    · rw [List.append_nil, Nat.add_zero]
      have : ks.set i (CkQ el A n c q cs) = ks := by
        apply List.ext_getElem?
        intro j
        rw [List.getElem?_set]
        split
        · rename_i e; subst e; rw [hk]
          try simp [hilt]
        · rfl
      rw [this]; exact hS
  · obtain ⟨a, rfl⟩ : ∃ a, A' = some a := by
      obtain ⟨p, hp, _⟩ := hR.2 0 (by omega)
      cases A' with | none => simp [ptrAt] at hp | some q' => exact ⟨q', rfl⟩
    have hnl : (flatQ ds).length = m * 2 := by rw [flatQ_len, hR.1]; omega
    have hnews : ∀ j v, (flatQ ds)[j]? = some v → w.cell? (a.add j) = some v := by
      intro j v hj
      have hjm : j < 2 * m := by have := (List.getElem?_eq_some_iff.1 hj).1; omega
      obtain ⟨p, hp, hc⟩ := hR.2 j hjm
      simp only [ptrAt, Option.map_some, Option.some.injEq] at hp
      rw [hp, hc]
      show some ((flatQ ds).getD j undef) = some v
      rw [List.getD_eq_getElem?_getD, hj]
      rfl
    have h1' : ∀ u ∈ flatQ ds, u.oneCell' = true := by
      intro u hu
      obtain ⟨j, hj, rfl⟩ := List.mem_iff_getElem.1 hu
      have gen : ∀ (l : List PV), ∀ u ∈ flatQ l, u.oneCell' = true := by
        intro l
        induction l with
        | nil => intro u h; cases h
        | cons x l ih =>
          intro u h
          simp only [flatQ, List.mem_cons] at h
          rcases h with rfl | rfl | h
          · rfl
          · rfl
          · exact ih u h
      exact gen ds _ (List.getElem_mem hj)
    have hcsl : (flatQ cs).length = 2 * n := by rw [flatQ_len, hcl]
    -- a new row in the old one's stead
    have fresh : ∀ (xs : List Value) (c2 : Nat), n + m ≤ c2 → xs.length = 2 * c2 → xs.take (2 * (n + m)) = flatQ cs ++ flatQ ds → isM xs = false →
        St w0 (w.drew.alloc (.cells xs.toArray el)) (ks.set i (CkQ el (some ⟨w.heap.size, 0, none⟩) (n + m) c2 0 (cs ++ ds))) := by
      intro xs c2 h5 h7 h8 h9
      have hA := hS.drew.allocP xs el (2 * (n + m)) (min (2 * c2) maxLen) (by omega) (by omega) (by omega) h9
      rw [h8, ← flatQ_app] at hA
      exact (hA.perm (perm_set ks i _ _ hk)).tail
    have h63' : ((n + m : Nat) : Int) ≤ 9223372036854775807 := by simp only [maxLen] at h63; omega
    have h63n : n + m ≤ maxLen := by omega
    rcases h4 with ⟨hA, h0⟩ | ⟨g, o, cur, hA, hg, hh, hsz, hc⟩
    · have hA : A = none := hA
      subst hA
      have h0 : min (2 * (c + q)) maxLen - 2 * q = 0 := h0
      have hc0 : c = 0 := by simp only [maxLen] at h0 h63; omega
      have hn0 : n = 0 := by omega
      subst hc0 hn0
      have hvs : cs = [] := List.eq_nil_of_length_eq_zero hcl
      subst hvs
      have hr := run_append_nil (P := P) w t ty el inf z hU.out hi hz0 a m c' (flatQ ds) (by rw [hnl, hs]) hnews (by omega) (by omega) (by rw [hby]; rw [Nat.zero_add] at hbytes; omega)
      have hge := grownCap_ge w m 0 el
      have hzl := zero2 hz (grownCap w m 0 el - m)
      refine ⟨some ⟨w.heap.size, 0, none⟩, grownCap w m 0 el, 0, _, ?_, Nat.zero_le _, fresh (flatQ ds ++ (Builtin.zeroCells z.cells (grownCap w m 0 el - m)).toList) (grownCap w m 0 el) (by omega) (by rw [List.length_append, hzl, hnl]; omega) (by
        rw [List.take_append_of_le_length (by omega), List.take_of_length_le (by omega)]
        rfl) (isM_appN (isM_Q _) (by intro hn; rw [hn] at hnl; simp at hnl; omega))⟩
      rw [Nat.zero_add, hr]
      congr 3
      apply Array.ext'
      simp
    · have hA : A = some ⟨g, o, none⟩ := hA
      have hh : w.heap[g]? = some (.cells cur el (0, 0)) := hh
      have hsz : o + (min (2 * (c + q)) maxLen - 2 * q) ≤ cur.size := hsz
      have hc : ∀ j, j < 2 * n → cur[o + j]? = (flatQ cs)[j]? := hc
      by_cases hroom : n + m ≤ c
      · have hf := run_firstCells_some (P := P) w inf.size m a m c' (flatQ ds) (by rw [hnl, hs]) hnews
        have hst := run_storeCells_at P g (o + 2 * n) el (flatQ ds) 0 cur w hh (by rw [hnl]; omega) h1'
        simp only [Nat.add_zero] at hst
        refine ⟨some ⟨g, o, none⟩, c, q, w.setRow g (cur.toList.take (o + 2 * n) ++ flatQ ds ++ cur.toList.drop (o + 2 * n + (flatQ ds).length)).toArray, ?_, Nat.le_refl _, hS.turn (k := CkQ el A n c q cs) (k' := CkQ el (some ⟨g, o, none⟩) (n + m) c q (cs ++ ds)) (g := g) hk (by simp [Ck.blk, CkQ, hA]) (by simp [Ck.blk, CkQ]) ?_ ?_⟩
        · rw [hA]
          rw [hs] at hf
          simp [Builtin.append_, run_underlying hU.out, sizeOf, typeInfo, hi, hs, Builtin.lenOf, hroom, Addr.add_lit, hf]
          rw [show n * 2 = 2 * n by omega]
          simp [hst]
        · exact ⟨⟨rfl, rfl, rfl, by simp, fun x _ hx => setRow_other w g x _ (fun e => hx (by rw [e]))⟩, Nat.le_refl _⟩
        · refine .ofC (isM_Q _) ⟨by show (flatQ (cs ++ ds)).length = 2 * (n + m); rw [flatQ_len, List.length_append, hcl, hR.1], by show 2 * (n + m) ≤ min (2 * (c + q)) maxLen - 2 * q; omega, hcm, .inr ⟨g, o, _, rfl, hg, setRow_heap w g cur _ el _ hh, ?_, fun j hj => ?_⟩⟩
          · show o + (min (2 * (c + q)) maxLen - 2 * q) ≤ _
            simp
            omega
          · have hj' : j < 2 * (n + m) := hj
            show ((cur.toList.take (o + 2 * n) ++ flatQ ds ++ cur.toList.drop (o + 2 * n + (flatQ ds).length)).toArray)[o + j]? = (flatQ (cs ++ ds))[j]?
            rw [flatQ_app]
            have hcl2 : cur.toList.length = cur.size := by simp
            rw [List.getElem?_toArray]
            by_cases hjn : j < 2 * n
            · rw [List.append_assoc, List.getElem?_append_left (by simp; omega), List.getElem?_take, if_pos (by omega), List.getElem?_append_left (by omega)]
              rw [Array.getElem?_toList]
              exact hc j hjn
            · rw [List.append_assoc, List.getElem?_append_right (by simp; omega), List.getElem?_append_left (by simp; omega), List.getElem?_append_right (by omega)]
              congr 1
              simp
              omega
      · have holds : ∀ j v, (flatQ cs)[j]? = some v → w.cell? ((⟨g, o, none⟩ : Addr).add j) = some v := by
          intro j v hj
          have hjn : j < 2 * n := by have := (List.getElem?_eq_some_iff.1 hj).1; omega
          rw [add_none]
          simp only [World.cell?, hh]
          simpa [hc j hjn] using hj
        have hr := run_append_grow (P := P) w t ty el inf z hU.out hi hz0 ⟨g, o, none⟩ n c (flatQ cs) (by rw [hcsl, hs]; omega) holds a m c' (flatQ ds) (by rw [hnl, hs]) hnews (by omega) h63' (growslice_fits (by omega) (by rw [hby]; exact hbytes))
        have hge := grownCap_ge w (n + m) c el
        have hzl := zero2 hz (grownCap w (n + m) c el - (n + m))
        refine ⟨some ⟨w.heap.size, 0, none⟩, grownCap w (n + m) c el, 0, _, ?_, Nat.zero_le _, fresh (flatQ cs ++ flatQ ds ++ (Builtin.zeroCells z.cells (grownCap w (n + m) c el - (n + m))).toList) (grownCap w (n + m) c el) (by omega) (by rw [List.length_append, List.length_append, hzl, hnl, hcsl]; omega) (by
          rw [List.take_append_of_le_length (by rw [List.length_append]; omega), List.take_of_length_le (by rw [List.length_append]; omega)]) (isM_appN (isM_app (isM_Q _) (isM_Q _)) (by intro hn; have := congrArg List.length hn; rw [List.length_append, hnl] at this; simp at this; omega))⟩
        rw [hA, hr]
        congr 3
        apply Array.ext'
        simp
theorem Ops.appQ {t el : TypeId} {z z0 z1 : Value} {b : Nat} [hU : Und P t (.slice el)] [Inf P el z 2 b] {x y : Operand} (i : Nat) {A : Option Addr} {n c q : Nat} {cs : List PV} {A' : Option Addr} {m c' : Nat} {ds : List PV} (hS : St w0 w ks) (hk : ks[i]? = some (CkQ el A n c q cs)) (hR : RdQ w A' m ds) (hx : ev e x = .slice A n c) (hy : ev e y = .slice A' m c') (hz : z.cells = #[z0, z1])
    (h63 : n + m + q ≤ 4611686018427387903) (hbytes : (n + m) * b ≤ 140737488355328) (hb : Nat.blt d N = true)
    (hK : ∀ A2 c2 q2 w', q2 ≤ q → St w0 w' (ks.set i (CkQ el A2 (n + m) c2 q2 (cs ++ ds))) → Ops P N ops K rest (upd e d (.slice A2 (n + m) c2)) w') :
    Ops P N ops K (⟨some d, .call ⟨.builtin .append, #[x, y], #[t, t]⟩, ty, pos, af, none⟩ :: rest) e w := by
  obtain ⟨A2, c2, q2, w', hr, hq2, hS'⟩ := run_appendQ_st (P := P) (t := t) hz i hS hk hR (by simp only [maxLen]; omega) hbytes ty (c' := c')
  refine .val (w' := w') ?_ hb (hK _ _ _ _ hq2 hS')
  simp [execOp, resolve, invoke, builtin, hx, hy, hr]
end

/-- such a row, cut at its head -/
theorem St.cutQ {w0 w : World} {ks : List Ck} {i : Nat} {t : TypeId} {A : Option Addr} {n c q l : Nat} {xs : List PV} (hS : St w0 w ks) (hk : ks[i]? = some (CkQ t A n c q xs)) (hl : l ≤ n) (hm : 2 * (n + q) ≤ maxLen) : St w0 w (ks.set i (CkQ t (cutC A c l) (n - l) (c - l) (q + l) (xs.drop l))) := by
  have hxl := (hS.rdQ i hk).1
  have hcp := hS.capQ i hk
  obtain ⟨h1, h2, h3, h4⟩ := hS.getC hk (isM_Q _)
  have h2 : 2 * n ≤ min (2 * (c + q)) maxLen - 2 * q := h2
  have h3 : min (2 * (c + q)) maxLen - 2 * q ≤ maxLen := h3
  rcases h4 with ⟨hA, hc0⟩ | ⟨g, o, cur, hA, hg, hh, hs, hc⟩
  · have hA : A = Option.none := hA
    have hc0 : min (2 * (c + q)) maxLen - 2 * q = 0 := hc0
    obtain rfl : n = 0 := by omega
    obtain rfl : l = 0 := by omega
    obtain rfl := List.eq_nil_of_length_eq_zero hxl
    subst hA
    have e : cutC Option.none c 0 = Option.none := by unfold cutC; split <;> rfl
    rw [e]
    show St w0 w (ks.set i (CkQ t Option.none 0 c q []))
    rw [set_id hk]
    exact hS
  · have hA : A = some ⟨g, o, Option.none⟩ := hA
    have hs2 : o + (min (2 * (c + q)) maxLen - 2 * q) ≤ cur.size := hs
    have hh2 : w.heap[g]? = some (.cells cur t (0, 0)) := hh
    have hc2 : ∀ j, j < 2 * n → cur[o + j]? = (flatQ xs)[j]? := hc
    subst hA
    have hcut : ∃ o', cutC (some ⟨g, o, Option.none⟩) c l = some ⟨g, o', Option.none⟩ ∧ o' + (min (2 * (c - l + (q + l))) maxLen - 2 * (q + l)) ≤ cur.size ∧ (0 < n - l → o' = o + 2 * l) := by
      unfold cutC
      split
      · exact ⟨o, rfl, by omega, fun h => by omega⟩
      · exact ⟨o + l * 2, by simp [ptrAt, add_none], by omega, fun _ => by omega⟩
    obtain ⟨o', e1, e2, e3⟩ := hcut
    refine hS.turn hk rfl (by simp [Ck.blk, CkQ, e1]) ⟨⟨rfl, rfl, rfl, Nat.le_refl _, fun _ _ _ => rfl⟩, Nat.le_refl _⟩ (.ofC (isM_Q _) ⟨by show (flatQ (xs.drop l)).length = 2 * (n - l); rw [flatQ_len, List.length_drop, hxl], by show 2 * (n - l) ≤ min (2 * (c - l + (q + l))) maxLen - 2 * (q + l); omega, by show min (2 * (c - l + (q + l))) maxLen - 2 * (q + l) ≤ maxLen; omega, .inr ⟨g, o', cur, e1, hg, hh2, e2, fun j hj => ?_⟩⟩)
    have hj : j < 2 * (n - l) := hj
    show cur[o' + j]? = (flatQ (xs.drop l))[j]?
    have h9 : l + (n - l) = n := Nat.add_sub_cancel' hl
    rw [e3 (by omega), Nat.add_assoc, hc2 (2 * l + j) (by omega), ← flatQ_drop]
    simp [List.getElem?_drop]
section
variable {P : Program} {N : Nat} {ops : Array Oper} {K : Env → World → Prop} {rest : List Oper} {e : Env} {w0 w w' : World} {ks : List Ck} {d : Nat} {ty : TypeId} {pos : String} {af : Array Edge}
/-- the address of an array's element -/
theorem Ops.idxA {t el : TypeId} {l : Nat} {z : Value} {b : Nat} [Und P t (.array l el)] [Inf P el z 1 b] {x ix : Operand} {A : Option Addr} {n o : Nat} {k : IntKind} {i : Int} {f : Nat → Value} (hR : Rd w A n f) (ho : o < n)
    (hx : ev e x = .pointer (ptrAt A o)) (hy : ev e ix = .int k i) (hb : Nat.blt d N = true) (h0 : 0 ≤ i) (h1 : i < (l : Int)) (hK : Ops P N ops K rest (upd e d (.pointer (ptrAt A (o + i.toNat)))) w) :
    Ops P N ops K (⟨some d, .indexAddr t x ix, ty, pos, af, none⟩ :: rest) e w := by
  obtain ⟨p, hp, _⟩ := hR o ho
  obtain ⟨inf, hi, _, hs, _⟩ := Inf.get P el
  have hq : ptrAt A (o + i.toNat) = some (p.add i.toNat) := by
    rw [← ptrAt_ptrAt, hp]; rfl
  rw [hq] at hK
  rw [hp] at hx
  refine .val (w' := w) ?_ hb hK
  simp [execOp, Instr.indexAt, hx, hy, asIntOf, Instr.sureAddr, run_underlying (Und.out (P := P) (t := t)), h0, h1, sizeOf, typeInfo, hi, hs]
/-- an array of two built -/
theorem Ops.bldA {t el : TypeId} {z0 z1 y : Value} {b b' : Nat} [Und P t (.array 2 el)] [Inf P t (.agg #[z0, z1]) 2 b] (hI : Inf P el y 1 b') {x0 x1 : Operand} {v0 v1 : Value} (h0 : ev e x0 = v0) (h1 : ev e x1 = v1) (c0 : v0.oneCell' = true) (c1 : v1.oneCell' = true) (hb : Nat.blt d N = true)
    (hK : Ops P N ops K rest (upd e d (.agg #[v0, v1])) w) : Ops P N ops K (⟨some d, .build t #[(0, x0), (1, x1)], ty, pos, af, none⟩ :: rest) e w := by
  obtain ⟨inf, hi, hz0, hs, hby⟩ := Inf.get P t
  obtain ⟨inf0, hi0, hz00, hs0, hby0⟩ := hI.get P el
  have e0 : v0.cells = #[v0] := by cases v0 <;> simp [Value.oneCell'] at c0 <;> rfl
  have e1 : v1.cells = #[v1] := by cases v1 <;> simp [Value.oneCell'] at c1 <;> rfl
  have ez : (Value.agg #[z0, z1]).cells = #[z0, z1] := rfl
  refine .val (w' := w) ?_ hb hK
  simp [execOp, Instr.build, run_underlying (Und.out (P := P) (t := t)), sizeOf, typeInfo, zeroValue, hi, hz0, hi0, hs0, h0, h1, e0, e1, ez, Instr.fill]
end
end Go.Proofs.Ytjpkmpihmilgoaa.Vc
/-
  The program's coset enumeration, walked: cosets identified. Conditions: as each states them.
-/
namespace Go.Proofs.Ytjpkmpihmilgoaa.Vc
open Go.RowKit

/-- one row's images given over -/
def idRowI (lo hi : Int) : Nat → Nat → List (List Int) → List PV → Option (List (List Int) × List PV)
  | 0, _, _, _ => none
  | k + 1, g, im, zs =>
    if g < (gl im hi).length then
      if gi (gl im hi) g < 0 then idRowI lo hi k (g + 1) im zs
      else if g < (gl im lo).length then
        if 0 ≤ gi (gl im lo) g then (if zs.length < 1000000 then idRowI lo hi k (g + 1) im (zs ++ [⟨gi (gl im hi) g, gi (gl im lo) g⟩]) else none)
        else idRowI lo hi k (g + 1) (setI im lo g (gi (gl im hi) g)) zs
      else none
    else some (im, zs)
def identI : Nat → PS → List PV → Option PS
  | 0, _, _ => none
  | k + 1, x, zs =>
    match zs with
    | [] => some x
    | p :: r =>
      match findP x.ls 2000 p.s, findP x.ls 2000 p.v with
      | some a, some b =>
        if a = b then identI k x r
        else
          if 0 ≤ min a b ∧ max a b < (x.im.length : Int) ∧ max a b < (x.ls.length : Int) ∧ x.im.length ≤ 2000 then
            match idRowI (min a b) (max a b) 1000 0 x.im (p :: r) with
            | some (im, zs') => identI k ⟨im, x.ls.set (max a b).toNat (min a b)⟩ (zs'.drop 1)
            | none => none
          else none
      | _, _ => none
structure IdI where
  k : Nat
  g : Nat
  A : Option Addr
  c : Nat
  z : Nat
  zs : List PV
  im : List (List Int)
  ls : List Int

theorem identify_c {w0 w : World} {ks : List Ck} {T : Option Addr} (x : LS) (c d : Int) (y : PS) (k0 : Nat) (hk0 : k0 ≤ 1000000) (hok : x.ok) (hS : St w0 w (x.pt T ++ ks)) (hp : identI k0 x.p [⟨c, d⟩] = some y) :
    Ret Try.prog 83 [.pointer T, .int .i64 c, .int .i64 d] w (fun _ w' => ∃ x' : LS, x'.ok ∧ x'.p = y ∧ St w0 w' (x'.pt T ++ ks)) := by
  obtain ⟨A, n, cc, rs, im, B, m, cB, ls⟩ := x
  obtain ⟨h1, h2, h3⟩ := hok
  have h1 : rs.length = n := h1
  have h2 : im.length = n := h2
  have h3 : ls.length = m := h3
  refine Ret.of_cd Try.func83 rfl Try.ntmps83 rfl (post0 rfl) ?_
  refine Cd.seq ?_
  refine Cd.region ?_
  refine Ops.mv_int rfl rfl rfl ?_
  refine Ops.mv_int rfl rfl rfl ?_
  refine Ops.bldA (by exact inferInstance) rfl rfl rfl rfl rfl ?_
  refine Ops.bs1_Q hS rfl rfl rfl ?_
  intro A6 w1 hS1
  have hS1 : St w0 w1 ([CkQ 109 A6 1 1 0 [⟨c, d⟩], Bx 86 3 T [.slice A n cc, .slice B m cB, .bool false], CkI 2 B m cB ls] ++ (mat 36 2 A n cc rs im ++ ks)) := hS1
  refine Ops.mv_sl rfl rfl rfl ?_
  refine Ops.nil ?_
  refine thenQ_n ?_
  refine Cd.block ?_
  refine Cd.loop (α := IdI) (fun s => [(0, .pointer T), (6, .slice s.A s.zs.length s.c)])
    (fun s w' => St w0 w' ([CkQ 109 s.A s.zs.length s.c s.z s.zs, Bx 86 3 T [.slice A n cc, .slice B m cB, .bool false], CkI 2 B m cB s.ls] ++ (mat 36 2 A n cc rs s.im ++ ks)) ∧ s.im.length = n ∧ s.ls.length = m ∧ s.zs.length ≤ 1000001 ∧ s.z + s.k ≤ 1000000 ∧ identI s.k ⟨s.im, s.ls⟩ s.zs = some y) (fun s => s.k)
    ⟨k0, 0, A6, 1, 0, [⟨c, d⟩], im, ls⟩ ⟨rfl, rfl, trivial⟩ ⟨hS1, h2, h3, by show 1 ≤ 1000001; omega, by show 0 + k0 ≤ 1000000; omega, hp⟩ ?_
  rintro ⟨k, g0, A6, c6, z, zs, im, ls⟩ e w2 ⟨hS2, h2, h3, hzl, hzk, hf⟩
  dsimp only at hS2 h2 h3 hzl hzk hf ⊢
  obtain ⟨q, rfl⟩ : ∃ q, k = q + 1 := by cases k with | zero => cases hf | succ q => exact ⟨q, rfl⟩
  have hcp := hS2.capQ 0 rfl
  refine Cd.seq ?_
  refine Cd.seq ?_
  refine Cd.region ?_
  refine Ops.mv_sl rfl rfl rfl ?_
  refine Ops.len rfl rfl ?_
  refine Ops.gtr rfl rfl rfl ?_
  refine Ops.nil ?_
  refine thenQ_n ?_
  refine Cd.cond_p _ rfl (fun hi => ?_) (fun hi => ?_)
  · obtain ⟨p, r, rfl⟩ : ∃ p r, zs = p :: r := by cases zs with | nil => simp at hi | cons p r => exact ⟨p, r, rfl⟩
    rw [identI] at hf
    dsimp only at hf
    split at hf
    case h_2 => cases hf
    rename_i a b hfa hfb
    have hQ := hS2.rdQ 0 rfl
    have hat := hQ.at_ (j := 0) (by simp)
    have hokx : (⟨A, n, cc, rs, im, B, m, cB, ls⟩ : LS).ok := ⟨h1, h2, h3⟩
    have hT2 : St w0 w2 ((⟨A, n, cc, rs, im, B, m, cB, ls⟩ : LS).pt T ++ (CkQ 109 A6 (p :: r).length c6 z (p :: r) :: ks)) := hS2.perm (by
      show List.Perm (CkQ _ A6 (p :: r).length c6 z (p :: r) :: ([Bx _ 3 T _, CkI _ B m cB ls] ++ (mat _ _ A n cc rs im ++ ks))) _
      rw [← List.append_assoc]
      exact (List.perm_middle (l₁ := [Bx 86 3 T _, CkI 2 B m cB ls] ++ mat 36 2 A n cc rs im)).symm)
    refine Cd.skip ?_
    refine thenQ_n ?_
    refine Cd.seq ?_
    refine Cd.block ?_
    refine Cd.seq ?_
    refine Cd.draw [.ex (.pointer (T)), .ex (.slice (A6) ((p :: r).length) (c6)), .ex (.pointer (ptrAt A6 (0 * 2))), .ex (.pointer (ptrAt (ptrAt A6 (0 * 2)) (0 + 0))), .ex (.int .i64 (p.s)), .ex (.int .i64 (a)), .ex (.pointer (T)), .ex (.slice (A6) ((p :: r).length) (c6)), .ex (.pointer (ptrAt A6 (0 * 2))), .ex (.pointer (ptrAt (ptrAt A6 (0 * 2)) (0 + 1))), .ex (.int .i64 (p.v)), .ex (.int .i64 (b)), .ex (.int .i64 (a)), .ex (.int .i64 (b))] (by kernel_rfl) (by kernel_rfl) rfl (List.forall_mem_cons.2 ⟨Yd.lasts_ex _, (List.forall_mem_cons.2 ⟨Yd.lasts_ex _, (List.forall_mem_cons.2 ⟨Yd.lasts_ex _, (List.forall_mem_cons.2 ⟨Yd.lasts_ex _, (List.forall_mem_cons.2 ⟨Yd.lasts_ex _, (List.forall_mem_cons.2 ⟨Yd.lasts_ex _, (List.forall_mem_cons.2 ⟨Yd.lasts_ex _, (List.forall_mem_cons.2 ⟨Yd.lasts_ex _, (List.forall_mem_cons.2 ⟨Yd.lasts_ex _, (List.forall_mem_cons.2 ⟨Yd.lasts_ex _, (List.forall_mem_cons.2 ⟨Yd.lasts_ex _, (List.forall_mem_cons.2 ⟨Yd.lasts_ex _, (List.forall_mem_cons.2 ⟨Yd.lasts_ex _, (List.forall_mem_cons.2 ⟨Yd.lasts_ex _, (fun _ h => by cases h)⟩)⟩)⟩)⟩)⟩)⟩)⟩)⟩)⟩)⟩)⟩)⟩)⟩)⟩) ⟨?_, ?_, ?_, ?_, ?_, ?_, ?_, ?_, ?_, ?_, ?_, ?_, ?_, ?_, trivial⟩ ?_
    · intro e1 w1 hb hp hun
      refine Ops.mv_ptr rfl rfl rfl ?_
      refine Ops.nil ?_
      exact After.dn (Below.refl _ _) (by exact rfl)
    · intro e1 w1 hb hp hun
      refine Ops.mv_sl rfl rfl rfl ?_
      refine Ops.nil ?_
      exact After.dn (Below.refl _ _) (by exact rfl)
    · intro e1 w1 hb hp hun
      refine Ops.idxQ (hQ.below hb) rfl rfl rfl (by omega) (by simp) ?_
      refine Ops.nil ?_
      exact After.dn (Below.refl _ _) rfl
    · intro e1 w1 hb hp hun
      refine Ops.idxA (o := 0) (hat.below hb) (by omega) (by rw [ptrAt_zero (ptrAt A6 (0 * 2))]; rfl) rfl rfl (by omega) (by omega) ?_
      refine Ops.nil ?_
      exact After.dn (Below.refl _ _) rfl
    · intro e1 w1 hb hp hun
      refine Ops.ldf_i (j := 0) (hat.below hb) rfl rfl rfl rfl rfl ?_
      refine Ops.nil ?_
      exact After.dn (Below.refl _ _) rfl
    · intro e1 w1 hb hp hun
      refine Ops.call (find_c _ 2000 _ a hokx (hT2.later hb) hfa) rfl rfl rfl ?_
      rintro _ w2 ⟨rfl, hst⟩
      subst hst
      refine Ops.nil ?_
      exact After.dn (Below.refl _ _) (by exact rfl)
    · intro e1 w1 hb hp hun
      refine Ops.mv_ptr rfl rfl rfl ?_
      refine Ops.nil ?_
      exact After.dn (Below.refl _ _) (by exact rfl)
    · intro e1 w1 hb hp hun
      refine Ops.mv_sl rfl rfl rfl ?_
      refine Ops.nil ?_
      exact After.dn (Below.refl _ _) (by exact rfl)
    · intro e1 w1 hb hp hun
      refine Ops.idxQ (hQ.below hb) rfl rfl rfl (by omega) (by simp) ?_
      refine Ops.nil ?_
      exact After.dn (Below.refl _ _) rfl
    · intro e1 w1 hb hp hun
      refine Ops.idxA (o := 0) (hat.below hb) (by omega) (by rw [ptrAt_zero (ptrAt A6 (0 * 2))]; rfl) rfl rfl (by omega) (by omega) ?_
      refine Ops.nil ?_
      exact After.dn (Below.refl _ _) rfl
    · intro e1 w1 hb hp hun
      refine Ops.ldf_i (j := 1) (hat.below hb) rfl rfl rfl rfl rfl ?_
      refine Ops.nil ?_
      exact After.dn (Below.refl _ _) rfl
    · intro e1 w1 hb hp hun
      refine Ops.call (find_c _ 2000 _ b hokx (hT2.later hb) hfb) rfl rfl rfl ?_
      rintro _ w2 ⟨rfl, hst⟩
      subst hst
      refine Ops.nil ?_
      exact After.dn (Below.refl _ _) (by exact rfl)
    · intro e1 w1 hb hp hun
      refine Ops.mv_int rfl rfl rfl ?_
      refine Ops.nil ?_
      exact After.dn (Below.refl _ _) (by exact rfl)
    · intro e1 w1 hb hp hun
      refine Ops.mv_int rfl rfl rfl ?_
      refine Ops.nil ?_
      exact After.dn (Below.refl _ _) (by exact rfl)
    intro u w6 hb6 _
    have hS6 := hS2.later hb6
    refine thenQ_n ?_
    refine Cd.seq ?_
    refine Cd.seq ?_
    refine Cd.region ?_
    refine Ops.mv_int rfl rfl rfl ?_
    refine Ops.mv_int rfl rfl rfl ?_
    refine Ops.eql rfl rfl rfl ?_
    refine Ops.nil ?_
    refine thenQ_n ?_
    refine Cd.cond_p _ rfl (fun hab => ?_) (fun hab => ?_)
    · rw [if_pos hab] at hf
      refine Cd.exit ?_
      refine thenQ_x ?_
      refine blockQ_x ?_
      refine thenQ_n ?_
      refine Cd.region ?_
      refine Ops.mv_sl rfl rfl rfl ?_
      refine Ops.cut_lQ rfl rfl rfl (by simp; omega) ?_
      refine Ops.mv_sl rfl rfl rfl ?_
      refine Ops.nil ?_
      refine thenQ_n ?_
      have hS7 := hS6.cutQ (i := 0) (l := 1) rfl (by simp) (by simp only [maxLen]; simp at hzl ⊢; omega)
      exact ⟨⟨q, 0, cutC A6 c6 1, c6 - 1, z + 1, r, im, ls⟩, Nat.lt_succ_self q, ⟨rfl, rfl, trivial⟩, hS7, h2, h3, by show r.length ≤ 1000001; simp at hzl; omega, by show z + 1 + q ≤ 1000000; omega, hf⟩
    · rw [if_neg hab] at hf
      split at hf
      case isFalse => cases hf
      rename_i hbd
      split at hf
      case h_2 => cases hf
      rename_i im' zs' hrowp
      refine Cd.skip ?_
      refine thenQ_n ?_
      refine Cd.seq ?_
      refine Cd.region ?_
      refine Ops.mv_int rfl rfl rfl ?_
      refine Ops.mv_int rfl rfl rfl ?_
      refine Ops.minI rfl rfl rfl ?_
      refine Ops.mv_int rfl rfl rfl ?_
      refine Ops.mv_int rfl rfl rfl ?_
      refine Ops.maxI rfl rfl rfl ?_
      refine Ops.mv_int rfl rfl rfl ?_
      refine Ops.mv_int rfl rfl rfl ?_
      refine Ops.nil ?_
      refine thenQ_n ?_
      refine Cd.seq ?_
      refine Cd.region ?_
      refine Ops.mv_ptr rfl rfl rfl ?_
      have hlh : min a b < max a b := by omega
      generalize min a b = lo at hbd hrowp hf hlh ⊢
      generalize max a b = hi' at hbd hrowp hf hlh ⊢
      obtain ⟨loN, rfl⟩ : ∃ q : Nat, lo = q := ⟨lo.toNat, by omega⟩
      obtain ⟨hiN, rfl⟩ : ∃ q : Nat, hi' = q := ⟨hi'.toNat, by omega⟩
      rw [Int.toNat_natCast] at hf
      have hRr := hS6.rdI 2 rfl
      refine Ops.nilp (hS6.rd 1 rfl) (Nat.succ_pos _) rfl rfl ?_
      refine Ops.fld (hS6.rd 1 rfl) rfl rfl rfl rfl inferInstance ?_
      refine Ops.ldf_s (hS6.rd 1 rfl) rfl rfl rfl rfl rfl ?_
      refine Ops.mv_int rfl rfl rfl ?_
      refine Ops.mv_int rfl rfl rfl ?_
      refine Ops.idx hRr.2 rfl rfl rfl (by omega) (by omega) ?_
      skip
      refine Ops.st_int 2 hS6 rfl rfl rfl (by omega) ?_
      intro w8 hS8
      have hS8 : St w0 w8 ([CkQ 109 A6 (p :: r).length c6 z (p :: r), Bx 86 3 T [.slice A n cc, .slice B m cB, .bool false], CkI 2 B m cB (ls.set hiN (loN : Int))] ++ (mat 36 2 A n cc rs (im) ++ ks)) := hS8
      have hokx' : (⟨A, n, cc, rs, im, B, m, cB, ls.set hiN (loN : Int)⟩ : LS).ok := ⟨h1, h2, by show (ls.set _ _).length = m; rw [List.length_set]; exact h3⟩
      have hI8 : RowsI w8 A n rs im := LS.rowsI (x := ⟨A, n, cc, rs, im, B, m, cB, ls.set hiN (loN : Int)⟩) hokx' (pre := [CkQ 109 A6 (p :: r).length c6 z (p :: r), Bx 86 3 T [.slice A n cc, .slice B m cB, .bool false]]) hS8
      have hrh8 := hI8.at_ (i := (hiN : Int)) (by omega) (by omega)
      refine Ops.nil ?_
      refine thenQ_n ?_
      refine Cd.seq ?_
      refine Cd.region ?_
      refine Ops.mv_ptr rfl rfl rfl ?_
      refine Ops.nilp (hS8.rd 1 rfl) (Nat.succ_pos _) rfl rfl ?_
      refine Ops.fld (hS8.rd 1 rfl) rfl rfl rfl rfl inferInstance ?_
      refine Ops.ldf_s (hS8.rd 1 rfl) rfl rfl rfl rfl rfl ?_
      refine Ops.mv_int rfl rfl rfl ?_
      refine Ops.idx hI8.top.2 rfl rfl rfl (by omega) (by omega) ?_
      refine Ops.ld_sl hI8.top rfl (by omega) rfl rfl ?_
      refine Ops.len rfl rfl ?_
      refine Ops.mv_int rfl rfl rfl ?_
      refine Ops.nil ?_
      refine thenQ_n ?_
      refine Cd.block ?_
      refine Cd.loop (α := IdI) (fun s => [(0, .pointer T), (6, .slice s.A s.zs.length s.c), (7, .int .i64 (loN : Int)), (8, .int .i64 (hiN : Int)), (55, .slice (rg rs (hiN : Int)).a (rg rs (hiN : Int)).n (rg rs (hiN : Int)).c), (56, .int .i64 ((rg rs (hiN : Int)).n : Int)), (57, .int .i64 (s.g : Int))])
        (fun s w' => St w0 w' ([CkQ 109 s.A (s.zs).length s.c s.z (s.zs), Bx 86 3 T [.slice A n cc, .slice B m cB, .bool false], CkI 2 B m cB (ls.set hiN (loN : Int))] ++ (mat 36 2 A n cc rs (s.im) ++ ks)) ∧ s.im.length = n ∧ (gl s.im (hiN : Int)).length = (rg rs (hiN : Int)).n ∧ idRowI (loN : Int) (hiN : Int) s.k s.g s.im s.zs = some (im', zs') ∧ s.g + s.k ≤ 1000 ∧ s.zs.length ≤ 1000001 ∧ 0 < s.zs.length ∧ s.z + (q + 1) ≤ 1000000) (fun s => s.k)
        ⟨1000, 0, A6, c6, z, p :: r, im, []⟩ ⟨rfl, rfl, rfl, rfl, rfl, rfl, rfl, trivial⟩ ⟨hS8, h2, hrh8.1, hrowp, Nat.le_refl _, hzl, by simp, hzk⟩ ?_
      rintro ⟨k, g, A6, c6, z, zs, im, ls0⟩ e w9 ⟨hS9, h2, hghl, hg, hgk, hzl, hz0, hzk⟩
      dsimp only at hS9 h2 hghl hg hgk hzl hz0 hzk ⊢
      obtain ⟨t, rfl⟩ : ∃ q, k = q + 1 := by cases k with | zero => cases hg | succ q => exact ⟨q, rfl⟩
      rw [idRowI] at hg
      have hI9 : RowsI w9 A n rs im := LS.rowsI (x := ⟨A, n, cc, rs, im, B, m, cB, ls.set hiN (loN : Int)⟩) ⟨h1, h2, by show (ls.set _ _).length = m; rw [List.length_set]; exact h3⟩ (pre := [CkQ 109 A6 zs.length c6 z zs, Bx 86 3 T [.slice A n cc, .slice B m cB, .bool false]]) hS9
      have hrh := hI9.at_ (i := (hiN : Int)) (by omega) (by omega)
      have hrlo := hI9.at_ (i := (loN : Int)) (by omega) (by omega)
      have hh1 := hrh.1
      have hl1 := hrlo.1
      refine Cd.seq ?_
      refine Cd.region ?_
      refine Ops.lss rfl rfl rfl ?_
      refine Ops.nil ?_
      refine thenQ_n ?_
      refine Cd.seq ?_
      refine Cd.cond_p _ rfl (fun hgl => ?_) (fun hgl => ?_)
      · rw [if_pos (by omega)] at hg
        refine Cd.skip ?_
        refine thenQ_n ?_
        refine Cd.seq ?_
        refine Cd.block ?_
        refine Cd.seq ?_
        refine Cd.region ?_
        refine Ops.mv_int rfl rfl rfl ?_
        refine Ops.idx hrh.2 rfl rfl rfl (by omega) (by omega) ?_
        refine Ops.ld_int hrh rfl (by omega) rfl rfl ?_
        refine Ops.mv_int rfl rfl rfl ?_
        refine Ops.mv_int rfl rfl rfl ?_
        refine Ops.nil ?_
        refine thenQ_n ?_
        refine Cd.seq ?_
        refine Cd.seq ?_
        refine Cd.region ?_
        refine Ops.mv_int rfl rfl rfl ?_
        refine Ops.lss rfl rfl rfl ?_
        refine Ops.nil ?_
        refine thenQ_n ?_
        refine Cd.cond_p _ rfl (fun he => ?_) (fun he => ?_)
        · rw [if_pos he] at hg
          refine Cd.exit ?_
          refine thenQ_x ?_
          refine blockQ_x ?_
          refine thenQ_n ?_
          refine Cd.region ?_
          refine Ops.add rfl rfl rfl (by omega) ?_
          refine Ops.mv_int rfl rfl rfl ?_
          refine Ops.nil ?_
          refine thenQ_n ?_
          exact ⟨⟨t, g + 1, A6, c6, z, zs, im, ls0⟩, Nat.lt_succ_self t, ⟨rfl, rfl, rfl, rfl, rfl, rfl, rfl, trivial⟩, hS9, h2, hghl, hg, by show g + 1 + t ≤ 1000; omega, hzl, hz0, hzk⟩
        · rw [if_neg he] at hg
          split at hg
          case isFalse => cases hg
          rename_i hgl2
          refine Cd.skip ?_
          refine thenQ_n ?_
          refine Cd.seq ?_
          refine Cd.region ?_
          refine Ops.mv_ptr rfl rfl rfl ?_
          refine Ops.nilp (hS9.rd 1 rfl) (Nat.succ_pos _) rfl rfl ?_
          refine Ops.fld (hS9.rd 1 rfl) rfl rfl rfl rfl inferInstance ?_
          refine Ops.ldf_s (hS9.rd 1 rfl) rfl rfl rfl rfl rfl ?_
          refine Ops.mv_int rfl rfl rfl ?_
          refine Ops.idx hI9.top.2 rfl rfl rfl (by omega) (by omega) ?_
          refine Ops.ld_sl hI9.top rfl (by omega) rfl rfl ?_
          refine Ops.mv_int rfl rfl rfl ?_
          refine Ops.idx hrlo.2 rfl rfl rfl (by omega) (by omega) ?_
          refine Ops.ld_int hrlo rfl (by omega) rfl rfl ?_
          refine Ops.mv_int rfl rfl rfl ?_
          refine Ops.nil ?_
          refine thenQ_n ?_
          refine Cd.seq ?_
          refine Cd.region ?_
          refine Ops.mv_int rfl rfl rfl ?_
          refine Ops.geq rfl rfl rfl ?_
          refine Ops.nil ?_
          refine thenQ_n ?_
          refine Cd.cond_p _ rfl (fun hf0 => ?_) (fun hf0 => ?_)
          · rw [if_pos hf0] at hg
            split at hg
            case isFalse => cases hg
            rename_i hlen
            refine Cd.region ?_
            refine Ops.mv_sl rfl rfl rfl ?_
            refine Ops.mv_int rfl rfl rfl ?_
            refine Ops.mv_int rfl rfl rfl ?_
            refine Ops.bldA (by exact inferInstance) rfl rfl rfl rfl rfl ?_
            refine Ops.bs1_Q hS9 rfl rfl rfl ?_
            intro A10 w10 hS10
            refine Ops.appQ 1 hS10 rfl (hS10.rdQ 0 rfl) rfl rfl rfl (by omega) (by omega) rfl ?_
            intro A11 c11 z11 w11 hz11 hS11
            have hS11 : St w0 w11 ([CkQ 109 A11 (zs.length + 1) c11 z11 (zs ++ [⟨gi (gl im (hiN : Int)) (g : Int), gi (gl im (loN : Int)) (g : Int)⟩]), Bx 86 3 T [.slice A n cc, .slice B m cB, .bool false], CkI 2 B m cB (ls.set hiN (loN : Int))] ++ (mat 36 2 A n cc rs im ++ ks)) := hS11.tail
            refine Ops.mv_sl rfl rfl rfl ?_
            refine Ops.nil ?_
            refine blockQ_n ?_
            refine thenQ_n ?_
            refine Cd.region ?_
            refine Ops.add rfl rfl rfl (by omega) ?_
            refine Ops.mv_int rfl rfl rfl ?_
            refine Ops.nil ?_
            refine thenQ_n ?_
            refine ⟨⟨t, g + 1, A11, c11, z11, zs ++ [⟨gi (gl im (hiN : Int)) (g : Int), gi (gl im (loN : Int)) (g : Int)⟩], im, ls0⟩, Nat.lt_succ_self t, ⟨rfl, by show Value.slice _ _ _ = .slice _ _ _; rw [List.length_append]; rfl, rfl, rfl, rfl, rfl, rfl, trivial⟩, ?_, h2, hghl, hg, by show g + 1 + t ≤ 1000; omega, by simp; omega, by simp, by show z11 + (q + 1) ≤ 1000000; omega⟩
            dsimp only
            rw [List.length_append]
            exact hS11
          · rw [if_neg hf0] at hg
            refine Cd.region ?_
            refine Ops.mv_ptr rfl rfl rfl ?_
            refine Ops.nilp (hS9.rd 1 rfl) (Nat.succ_pos _) rfl rfl ?_
            refine Ops.fld (hS9.rd 1 rfl) rfl rfl rfl rfl inferInstance ?_
            refine Ops.ldf_s (hS9.rd 1 rfl) rfl rfl rfl rfl rfl ?_
            refine Ops.mv_int rfl rfl rfl ?_
            refine Ops.idx hI9.top.2 rfl rfl rfl (by omega) (by omega) ?_
            refine Ops.ld_sl hI9.top rfl (by omega) rfl rfl ?_
            refine Ops.mv_int rfl rfl rfl ?_
            refine Ops.mv_int rfl rfl rfl ?_
            refine Ops.idx hrlo.2 rfl rfl rfl (by omega) (by omega) ?_
            skip
            refine Ops.st_row loN hS9 (by omega) (by omega) rfl rfl (by omega) ?_
            intro w10 hS10
            refine Ops.nil ?_
            refine blockQ_n ?_
            refine thenQ_n ?_
            refine Cd.region ?_
            refine Ops.add rfl rfl rfl (by omega) ?_
            refine Ops.mv_int rfl rfl rfl ?_
            refine Ops.nil ?_
            refine thenQ_n ?_
            refine ⟨⟨t, g + 1, A6, c6, z, zs, im.set loN ((gl im (loN : Int)).set g (gi (gl im (hiN : Int)) (g : Int))), ls0⟩, Nat.lt_succ_self t, ⟨rfl, rfl, rfl, rfl, rfl, rfl, rfl, trivial⟩, hS10, by show (im.set _ _).length = n; rw [List.length_set]; exact h2, ?_, hg, by show g + 1 + t ≤ 1000; omega, hzl, hz0, hzk⟩
            show (gl (im.set _ _) (hiN : Int)).length = _
            rw [gl_set (by omega), if_neg (by omega)]
            exact hghl
      · rw [if_neg (by omega)] at hg
        have hg := Option.some.inj hg
        simp only [Prod.mk.injEq] at hg
        obtain ⟨rfl, rfl⟩ := hg
        refine Cd.exit ?_
        refine thenQ_x ?_
        refine thenQ_x ?_
        refine blockQ_x ?_
        refine blockQ_n ?_
        refine thenQ_n ?_
        refine Cd.region ?_
        refine Ops.mv_sl rfl rfl rfl ?_
        refine Ops.cut_lQ rfl rfl rfl (by omega) ?_
        refine Ops.mv_sl rfl rfl rfl ?_
        refine Ops.nil ?_
        refine thenQ_n ?_
        have hS10 := hS9.cutQ (i := 0) (l := 1) rfl (by omega) (by simp only [maxLen]; omega)
        refine ⟨⟨q, 0, cutC A6 c6 1, c6 - 1, z + 1, zs.drop 1, im, ls.set hiN (loN : Int)⟩, Nat.lt_succ_self q, ⟨rfl, by show Value.slice _ _ _ = .slice _ _ _; rw [List.length_drop]; rfl, trivial⟩, ?_, h2, by show (ls.set _ _).length = m; rw [List.length_set]; exact h3, by show (zs.drop 1).length ≤ 1000001; rw [List.length_drop]; omega, by show z + 1 + q ≤ 1000000; omega, hf⟩
        dsimp only
        rw [List.length_drop]
        exact hS10
  · obtain rfl : zs = [] := by cases zs with | nil => rfl | cons p r => simp at hi
    rw [identI] at hf
    obtain rfl := Option.some.inj hf
    refine Cd.exit ?_
    refine thenQ_x ?_
    refine thenQ_x ?_
    refine blockQ_x ?_
    refine ret0_n ?_
    exact ⟨⟨A, n, cc, rs, im, B, m, cB, ls⟩, ⟨h1, h2, h3⟩, rfl, hS2.tail⟩
end Go.Proofs.Ytjpkmpihmilgoaa.Vc
/-
  The program's coset enumeration, walked: a word closed at a coset. Conditions: as each states them.
-/
namespace Go.Proofs.Ytjpkmpihmilgoaa.Vc
open Go.RowKit

def nextI (x : PS) (c g : Int) : Option (PS × Int) :=
  match imageP x c g with
  | none => none
  | some d => if 0 ≤ d then some (x, d) else
    match defP x (gl x.im 0).length with
    | none => none
    | some y => if g < ((gl x.im 0).length : Int) then some (⟨linkM y.im c (x.ls.length : Int) g, y.ls⟩, (x.ls.length : Int)) else none
def walkI (x : PS) (d : Int) : List Int → Option (PS × Int)
  | [] => some (x, d)
  | g :: r => match nextI x d g with
    | none => none
    | some (y, e) => walkI y e r
def lastI (y : PS) (c d g : Int) : Option PS :=
  match imageP y d g, imageP y c g with
  | some e, some f => if 0 ≤ e then identI 100000 y [⟨e, c⟩] else if 0 ≤ f then identI 100000 y [⟨f, d⟩] else some ⟨linkM y.im c d g, y.ls⟩
  | _, _ => none
def closeI (x : PS) (c : Int) (ws : List Int) : Option PS :=
  if ws.length = 0 then some x else match walkI x c (ws.take (ws.length - 1)) with
    | none => none
    | some (y, d) => lastI y c d (gi ws ((ws.length - 1 : Nat) : Int))
theorem image_in {x : PS} {c g d : Int} (h : imageP x c g = some d) : 0 ≤ c ∧ c < (x.im.length : Int) ∧ 0 ≤ g ∧ g < ((gl x.im c).length : Int) := by
  unfold imageP at h
  split at h
  case isFalse => cases h
  rename_i hc; exact hc

theorem closeAt_c {w0 w : World} {ks : List Ck} {T : Option Addr} (x : LS) (c : Int) (Aw : Option Addr) (nw cw : Nat) (ws : List Int) (y : PS) (hok : x.ok) (hS : St w0 w (x.pt T ++ ks)) (hW : ∀ w', St w0 w' ks → RdI w' Aw nw ws) (hnw : nw ≤ 1000000) (hcw : nw ≤ cw) (hp : closeI x.p c ws = some y) :
    Ret Try.prog 70 [.pointer T, .slice Aw nw cw, .int .i64 c] w (fun _ w' => ∃ x' : LS, x'.ok ∧ x'.p = y ∧ St w0 w' (x'.pt T ++ ks)) := by
  have hwl : ws.length = nw := (hW w (hS.sub (List.sublist_append_right _ _))).1
  refine Ret.of_cd Try.func70 rfl Try.ntmps70 rfl (post0 rfl) ?_
  refine Cd.seq ?_
  refine Cd.seq ?_
  refine Cd.region ?_
  refine Ops.mv_sl rfl rfl rfl ?_
  refine Ops.len rfl rfl ?_
  refine Ops.eql rfl rfl rfl ?_
  refine Ops.nil ?_
  refine thenQ_n ?_
  refine Cd.cond_p _ rfl (fun h1 => ?_) (fun h1 => ?_)
  · unfold closeI at hp
    rw [if_pos (by omega)] at hp
    obtain rfl := Option.some.inj hp
    refine Cd.ret ?_
    refine thenQ_r ?_
    refine ret0_r ?_
    exact ⟨x, hok, rfl, hS⟩
  · unfold closeI at hp
    rw [if_neg (by omega)] at hp
    split at hp
    case h_1 => cases hp
    rename_i z d' hz
    obtain ⟨l, rfl⟩ : ∃ l, nw = l + 1 := ⟨nw - 1, by omega⟩
    rw [hwl, Nat.add_sub_cancel] at hz hp
    refine Cd.skip ?_
    refine thenQ_n ?_
    refine Cd.seq ?_
    refine Cd.region ?_
    refine Ops.mv_int rfl rfl rfl ?_
    refine Ops.mv_int rfl rfl rfl ?_
    refine Ops.nil ?_
    refine thenQ_n ?_
    refine Cd.seq ?_
    refine Cd.region ?_
    refine Ops.mv_sl rfl rfl rfl ?_
    refine Ops.len rfl rfl ?_
    refine Ops.sub rfl rfl rfl (by omega) ?_
    refine Ops.mv_int rfl rfl rfl ?_
    refine Ops.nil ?_
    refine thenQ_n ?_
    refine Cd.seq ?_
    refine Cd.seq ?_
    refine Cd.region ?_
    refine Ops.mv_sl rfl rfl rfl ?_
    refine Ops.mv_int rfl rfl rfl ?_
    rw [show ((l + 1 : Nat) : Int) - 1 = (l : Int) by omega]
    refine Ops.cut_h rfl rfl rfl (by omega) ?_
    rw [Int.toNat_natCast]
    refine Ops.len rfl rfl ?_
    refine Ops.mv_int rfl rfl rfl ?_
    refine Ops.nil ?_
    refine thenQ_n ?_
    refine Cd.block ?_
    refine Cd.loop (α := Nat × LS × Int) (fun s => [(0, .pointer T), (1, .slice Aw (l + 1) cw), (2, .int .i64 c), (6, .int .i64 s.2.2), (7, .int .i64 (l : Int)), (23, .slice Aw l cw), (24, .int .i64 (l : Int)), (25, .int .i64 (s.1 : Int))]) (fun s w' => s.2.1.ok ∧ s.1 ≤ l ∧ walkI s.2.1.p s.2.2 ((ws.take l).drop s.1) = some (z, d') ∧ St w0 w' (s.2.1.pt T ++ ks)) (fun s => l - s.1) (0, x, c) ⟨rfl, rfl, rfl, rfl, rfl, rfl, rfl, rfl, trivial⟩ ⟨hok, Nat.zero_le _, hz, hS⟩ ?_
    rintro ⟨i, x, d⟩ e w3 ⟨hok, hi, hcw, hS3⟩
    dsimp only at hok hi hcw hS3 ⊢
    have hRw := hW w3 (hS3.sub (List.sublist_append_right _ _))
    have htl : (ws.take l).length = l := by rw [List.length_take]; omega
    refine Cd.seq ?_
    refine Cd.region ?_
    refine Ops.lss rfl rfl rfl ?_
    refine Ops.nil ?_
    refine thenQ_n ?_
    refine Cd.seq ?_
    refine Cd.cond_p _ rfl (fun h2 => ?_) (fun h2 => ?_)
    · have hRt := hRw.take (l := l) (by omega)
      rw [List.drop_eq_getElem_cons (by omega), ← gi_mem (by omega)] at hcw
      simp only [walkI] at hcw
      split at hcw
      case h_1 => cases hcw
      rename_i y1 d1 hn
      refine Cd.skip ?_
      refine thenQ_n ?_
      refine Cd.seq ?_
      refine Cd.block ?_
      refine Cd.seq ?_
      refine Cd.region ?_
      refine Ops.idx hRt.2 rfl rfl rfl (by omega) (by omega) ?_
      refine Ops.ld_int hRt rfl (by omega) rfl rfl ?_
      generalize gi (ws.take l) (i : Int) = g at hn ⊢
      unfold nextI at hn
      split at hn
      case h_1 => cases hn
      rename_i d0 hd0
      have hin := image_in hd0
      refine Ops.mv_int rfl rfl rfl ?_
      refine Ops.nil ?_
      refine thenQ_n ?_
      refine Cd.seq ?_
      refine Cd.region ?_
      refine Ops.mv_ptr rfl rfl rfl ?_
      refine Ops.mv_int rfl rfl rfl ?_
      refine Ops.mv_int rfl rfl rfl ?_
      refine Ops.call (image_c x d g d0 hok hS3 hd0) rfl rfl rfl ?_
      rintro _ w4 ⟨rfl, rfl⟩
      refine Ops.mv_int rfl rfl rfl ?_
      refine Ops.nil ?_
      refine thenQ_n ?_
      refine Cd.join (α := LS) (fun _ => [(0, .pointer T), (1, .slice Aw (l + 1) cw), (2, .int .i64 c), (7, .int .i64 (l : Int)), (10, .int .i64 d1), (23, .slice Aw l cw), (24, .int .i64 (l : Int)), (25, .int .i64 (i : Int))]) (fun x' w' => x'.ok ∧ x'.p = y1 ∧ St w0 w' (x'.pt T ++ ks)) ?_ ?_
      · refine Cd.seq ?_
        refine Cd.region ?_
        refine Ops.mv_int rfl rfl rfl ?_
        refine Ops.lss rfl rfl rfl ?_
        refine Ops.nil ?_
        refine thenQ_n ?_
        refine Cd.cond_p _ rfl (fun h3 => ?_) (fun h3 => ?_)
        · rw [if_neg (by omega)] at hn
          split at hn
          case h_1 => cases hn
          rename_i y2 hy2
          split at hn
          case isFalse => cases hn
          rename_i hg0
          obtain ⟨rfl, rfl⟩ := Prod.mk.inj (Option.some.inj hn)
          refine Cd.region ?_
          refine Ops.mv_ptr rfl rfl rfl ?_
          refine Ops.mv_int rfl rfl rfl ?_
          refine Ops.mv_int rfl rfl rfl ?_
          refine Ops.call (define_c x d g y2 hok hS3 hy2 (by have := hin.1; have := hin.2.1; show 0 < x.im.length; have e : x.p.im = x.im := rfl; rw [e] at this; omega) ⟨hin.1, hin.2.1⟩ ⟨hin.2.2.1, hin.2.2.2, hg0⟩) rfl rfl rfl ?_
          rintro _ w5 ⟨x', hok', hp', rfl, hS5⟩
          refine Ops.mv_int rfl rfl rfl ?_
          refine Ops.nil ?_
          refine thenQ_n ?_
          exact ⟨x', ⟨rfl, rfl, rfl, rfl, rfl, rfl, rfl, rfl, trivial⟩, hok', hp', hS5⟩
        · rw [if_pos (by omega)] at hn
          obtain ⟨rfl, rfl⟩ := Prod.mk.inj (Option.some.inj hn)
          refine Cd.skip ?_
          refine thenQ_n ?_
          exact ⟨x, ⟨rfl, rfl, rfl, rfl, rfl, rfl, rfl, rfl, trivial⟩, hok, rfl, hS3⟩
      · rintro x' e w5 ⟨hok', hp', hS5⟩
        subst hp'
        refine Cd.seq ?_
        refine Cd.seq ?_
        refine Cd.region ?_
        refine Ops.mv_ptr rfl rfl rfl ?_
        refine Ops.nilp (hS5.rd 0 rfl) (Nat.succ_pos _) rfl rfl ?_
        refine Ops.fld (hS5.rd 0 rfl) rfl rfl rfl rfl inferInstance ?_
        refine Ops.ldf_b (hS5.rd 0 rfl) rfl rfl rfl rfl rfl ?_
        refine Ops.nil ?_
        refine thenQ_n ?_
        refine Cd.cond_f rfl ?_
        refine Cd.skip ?_
        refine thenQ_n ?_
        refine Cd.region ?_
        refine Ops.mv_int rfl rfl rfl ?_
        refine Ops.mv_int rfl rfl rfl ?_
        refine Ops.nil ?_
        refine blockQ_n ?_
        refine thenQ_n ?_
        refine Cd.region ?_
        refine Ops.add rfl rfl rfl (by omega) ?_
        refine Ops.mv_int rfl rfl rfl ?_
        refine Ops.nil ?_
        refine thenQ_n ?_
        exact ⟨(i + 1, x', d1), by show l - (i + 1) < l - i; omega, ⟨rfl, rfl, rfl, rfl, rfl, rfl, rfl, rfl, trivial⟩, hok', by show i + 1 ≤ l; omega, hcw, hS5⟩
    · obtain rfl : i = l := by omega
      rw [List.drop_eq_nil_of_le (by omega), walkI] at hcw
      obtain ⟨hz1, rfl⟩ := Prod.mk.inj (Option.some.inj hcw)
      subst hz1
      refine Cd.exit ?_
      refine thenQ_x ?_
      refine thenQ_x ?_
      refine blockQ_x ?_
      refine thenQ_n ?_
      refine Cd.seq ?_
      refine Cd.region ?_
      refine Ops.mv_sl rfl rfl rfl ?_
      refine Ops.mv_int rfl rfl rfl ?_
      refine Ops.idx hRw.2 rfl rfl rfl (by omega) (by omega) ?_
      refine Ops.ld_int hRw rfl (by omega) rfl rfl ?_
      generalize gi ws (i : Int) = g at hp ⊢
      unfold lastI at hp
      split at hp
      case h_2 => cases hp
      rename_i e0 f0 he0 hf0
      have hin1 := image_in he0
      have hin2 := image_in hf0
      refine Ops.mv_int rfl rfl rfl ?_
      refine Ops.nil ?_
      refine thenQ_n ?_
      refine Cd.seq ?_
      refine Cd.region ?_
      refine Ops.mv_ptr rfl rfl rfl ?_
      refine Ops.mv_int rfl rfl rfl ?_
      refine Ops.mv_int rfl rfl rfl ?_
      refine Ops.call (image_c x d g e0 hok hS3 he0) rfl rfl rfl ?_
      rintro _ w4 ⟨rfl, rfl⟩
      refine Ops.mv_ptr rfl rfl rfl ?_
      refine Ops.mv_int rfl rfl rfl ?_
      refine Ops.mv_int rfl rfl rfl ?_
      refine Ops.call (image_c x c g f0 hok hS3 hf0) rfl rfl rfl ?_
      rintro _ w4 ⟨rfl, rfl⟩
      refine Ops.mv_int rfl rfl rfl ?_
      refine Ops.mv_int rfl rfl rfl ?_
      refine Ops.nil ?_
      refine thenQ_n ?_
      refine Cd.block ?_
      refine Cd.seq ?_
      refine Cd.region ?_
      refine Ops.mv_int rfl rfl rfl ?_
      refine Ops.geq rfl rfl rfl ?_
      refine Ops.mv_bool rfl rfl rfl ?_
      refine Ops.nil ?_
      refine thenQ_n ?_
      refine Cd.cond_p _ rfl (fun h3 => ?_) (fun h3 => ?_)
      · rw [if_pos (by omega)] at hp
        refine Cd.region ?_
        refine Ops.mv_ptr rfl rfl rfl ?_
        refine Ops.mv_int rfl rfl rfl ?_
        refine Ops.mv_int rfl rfl rfl ?_
        refine Ops.call (identify_c x e0 c y 100000 (by omega) hok hS3 hp) rfl rfl rfl ?_
        rintro _ w5 ⟨x', hok', hp', hS5⟩
        refine Ops.nil ?_
        refine blockQ_n ?_
        refine ret0_n ?_
        exact ⟨x', hok', hp', hS5⟩
      · rw [if_neg (by omega)] at hp
        refine Cd.seq ?_
        refine Cd.region ?_
        refine Ops.mv_int rfl rfl rfl ?_
        refine Ops.geq rfl rfl rfl ?_
        refine Ops.mv_bool rfl rfl rfl ?_
        refine Ops.nil ?_
        refine thenQ_n ?_
        refine Cd.cond_p _ rfl (fun h4 => ?_) (fun h4 => ?_)
        · rw [if_pos (by omega)] at hp
          refine Cd.region ?_
          refine Ops.mv_ptr rfl rfl rfl ?_
          refine Ops.mv_int rfl rfl rfl ?_
          refine Ops.mv_int rfl rfl rfl ?_
          refine Ops.call (identify_c x f0 d y 100000 (by omega) hok hS3 hp) rfl rfl rfl ?_
          rintro _ w5 ⟨x', hok', hp', hS5⟩
          refine Ops.nil ?_
          refine blockQ_n ?_
          refine ret0_n ?_
          exact ⟨x', hok', hp', hS5⟩
        · rw [if_neg (by omega)] at hp
          obtain rfl := Option.some.inj hp
          refine Cd.region ?_
          refine Ops.mv_ptr rfl rfl rfl ?_
          refine Ops.mv_int rfl rfl rfl ?_
          refine Ops.mv_int rfl rfl rfl ?_
          refine Ops.mv_int rfl rfl rfl ?_
          refine Ops.call (link_c x c d g hok hS3 ⟨hin2.1, hin2.2.1⟩ ⟨hin1.1, hin1.2.1⟩ ⟨hin1.2.2.1, hin2.2.2.2, hin1.2.2.2⟩) rfl rfl rfl ?_
          rintro _ w5 ⟨hok', hS5⟩
          refine Ops.nil ?_
          refine blockQ_n ?_
          refine ret0_n ?_
          exact ⟨_, hok', rfl, hS5⟩
end Go.Proofs.Ytjpkmpihmilgoaa.Vc
/-
  Maps of one's own: made, looked up, written. Conditions: as each rule names them.
-/
namespace Go.Proofs.Ytjpkmpihmilgoaa.Vc
open Go.RowKit Go.MapKept

/-- a kind of keys -/
structure KeyT {κ : Type} (d : TypeDesc) (kv : κ → Value) : Prop where
  isKey : ∀ a, IsKey d (kv a)
  inj : ∀ a b, kv a = kv b → a = b
theorem keyI : KeyT (.int .i64) (Value.int .i64) := ⟨fun _ => rfl, fun a b h => by injection h⟩

section
variable {κ ν : Type} [DecidableEq κ]
def getA : List (κ × ν) → κ → Option ν
  | [], _ => none
  | (y, v) :: r, x => if y = x then some v else getA r x
def putA : List (κ × ν) → κ → ν → List (κ × ν)
  | [], x, v => [(x, v)]
  | (y, u) :: r, x, v => if y = x then (x, v) :: r else (y, u) :: putA r x v
def fndA : List (κ × ν) → κ → Option (Nat × ν)
  | [], _ => none
  | (y, v) :: r, x => if y = x then some (0, v) else (fndA r x).map fun p => (p.1 + 1, p.2)
theorem fndA_get : ∀ (L : List (κ × ν)) (x : κ), getA L x = (fndA L x).map (·.2)
  | [], _ => rfl
  | (y, v) :: r, x => by
    simp only [getA, fndA]
    split
    · rfl
    · rw [fndA_get r x, Option.map_map]; rfl
theorem fndA_some : ∀ {L : List (κ × ν)} {x : κ} {j : Nat} {v : ν}, fndA L x = some (j, v) → L[j]? = some (x, v) ∧ ∀ u, putA L x u = L.set j (x, u)
  | (y, w) :: r, x, j, v, h => by
    simp only [fndA] at h
    split at h
    · rename_i e
      simp only [Option.some.injEq, Prod.mk.injEq] at h
      obtain ⟨rfl, rfl⟩ := h
      subst e
      exact ⟨rfl, fun u => by simp [putA]⟩
    · rename_i e
      cases hf : fndA r x with
      | none => simp [hf] at h
      | some p =>
        simp only [hf, Option.map_some, Option.some.injEq, Prod.mk.injEq] at h
        obtain ⟨rfl, rfl⟩ := h
        obtain ⟨h1, h2⟩ := fndA_some (L := r) (x := x) (j := p.1) (v := p.2) hf
        exact ⟨by simpa using h1, fun u => by simp only [putA, if_neg e, h2 u, List.set_cons_succ]⟩
theorem fndA_none : ∀ {L : List (κ × ν)} {x : κ}, fndA L x = none → ∀ u, putA L x u = L ++ [(x, u)]
  | [], x, _, u => rfl
  | (y, w) :: r, x, h, u => by
    simp only [fndA] at h
    split at h
    · cases h
    · rename_i e
      rw [Option.map_eq_none_iff] at h
      simp only [putA, if_neg e, fndA_none h u, List.cons_append]
/-- the pairs as the map's entries -/
def prV (kv : κ → Value) (vv : ν → Value) (L : List (κ × ν)) : List (Value × Value) := L.map fun p => (kv p.1, vv p.2)
theorem findNow_A {d : TypeDesc} {kv : κ → Value} {vv : ν → Value} (K : KeyT d kv) (x : κ) : ∀ (l : List MapEntry) (L : List (κ × ν)) (i : Nat), l.map (fun e => (e.key, e.val)) = prV kv vv L → Instr.findNow d (kv x) l i = some ((fndA L x).map fun p => (i + p.1, vv p.2))
  | [], [], _, _ => rfl
  | [], _ :: _, _, h => by simp [prV] at h
  | _ :: _, [], _, h => by simp [prV] at h
  | e :: l, (y, v) :: L, i, h => by
    simp only [prV, List.map_cons, List.cons.injEq, Prod.mk.injEq] at h
    obtain ⟨⟨h1, h2⟩, h3⟩ := h
    obtain ⟨r, hr, hiff⟩ := sameNow_of_keys (K.isKey x) (K.isKey y)
    simp only [Instr.findNow, fndA]
    rw [h1, hr]
    cases r with
    | true =>
      have e1 := K.inj _ _ (hiff.1 rfl)
      subst e1
      simp [h2]
    | false =>
      have hne : ¬ y = x := fun q => by
        have := hiff.2 (by rw [q])
        cases this
      rw [if_neg hne]
      simp only
      rw [findNow_A K x l L (i + 1) h3, Option.map_map]
      congr 2
      funext p
      simp only [Function.comp]
      rw [Nat.add_assoc, Nat.add_comm 1]
end

/-- a map of one's own, as a row -/
def CkM (t : TypeId) (g : Nat) (kvs : List (Value × Value)) : Ck := ⟨some ⟨g, 0, none⟩, 0, 0, t, .tuple #[] :: flatM kvs⟩
/-- a map that can be read -/
def RdM (w : World) (g : Nat) (kvs : List (Value × Value)) : Prop := ∃ es cl, w.heap[g]? = some (.map es cl) ∧ es.toList.map (fun e => (e.key, e.val)) = kvs
section
variable {w0 w w' : World} {ks : List Ck} {t : TypeId} {g : Nat} {kvs : List (Value × Value)}
theorem St.ownM (h : St w0 w ks) (i : Nat) (hk : ks[i]? = some (CkM t g kvs)) : w0.heap.size ≤ g ∧ RdM w g kvs := by
  rcases (h.get hk).cases with ⟨_, _, _, g', es, cl, hA, hg, hh, hv⟩ | ⟨hm, _⟩
  · have hA : some (⟨g, 0, Option.none⟩ : Addr) = some ⟨g', 0, Option.none⟩ := hA
    simp only [Option.some.injEq, Addr.mk.injEq, and_true] at hA
    subst hA
    have hv : (.tuple #[] :: flatM kvs : List Value) = .tuple #[] :: flatM (es.toList.map fun e => (e.key, e.val)) := hv
    simp only [List.cons.injEq, true_and] at hv
    exact ⟨hg, es, cl, hh, (flatM_inj hv).symm⟩
  · cases hm
theorem St.rdM (h : St w0 w ks) (i : Nat) (hk : ks[i]? = some (CkM t g kvs)) : RdM w g kvs := (h.ownM i hk).2
/-- a new map -/
theorem St.allocM (h : St w0 w ks) (t : TypeId) : St w0 (w.alloc (.map #[] 0)) (CkM t w.heap.size [] :: ks) := by
  have hb : Below w.heap.size w (w.alloc (.map #[] 0)) := (Below.refl _ _).alloc (Nat.le_refl _) _
  have h1 := h.later hb
  refine ⟨h1.below, fun k hk => ?_, ?_⟩
  · rcases List.mem_cons.1 hk with rfl | hk
    · exact .ofM rfl ⟨rfl, rfl, _, #[], 0, rfl, h.below.size, heap_alloc_new w _, rfl⟩
    · exact h1.own k hk
  · simp only [List.filterMap_cons, CkM, Ck.blk, Option.map_some, List.nodup_cons]
    refine ⟨fun hin => ?_, h.apart⟩
    obtain ⟨k', hk', hkb⟩ := List.mem_filterMap.1 hin
    have := ((h.own k' hk').lt hkb).2
    omega
/-- what a store into a map of one's own does -/
theorem St.turnM {i : Nat} {kvs' : List (Value × Value)} {es' : Array MapEntry} {cl' : Nat} (h : St w0 w ks) (hk : ks[i]? = some (CkM t g kvs)) (hv : es'.toList.map (fun e => (e.key, e.val)) = kvs') : St w0 { w with heap := w.heap.setIfInBounds g (.map es' cl') } (ks.set i (CkM t g kvs')) := by
  obtain ⟨hg, es, cl, hh, _⟩ := h.ownM i hk
  refine h.turn (k := CkM t g kvs) (k' := CkM t g kvs') (g := g) hk rfl rfl ⟨⟨rfl, rfl, rfl, by simp, fun x _ hx => ?_⟩, Nat.le_refl _⟩ ?_
  · exact (heap_set hh).2 x fun e => hx (by rw [e])
  · refine .ofM rfl ⟨rfl, rfl, g, es', cl', rfl, hg, (heap_set hh).1, ?_⟩
    rw [hv]; rfl
end

section
variable {P : Program} {N : Nat} {ops : Array Oper} {K : Env → World → Prop} {rest : List Oper} {e : Env} {w0 w w' : World} {ks : List Ck} {d : Nat} {ty : TypeId} {pos : String} {af : Array Edge}
variable {κ ν : Type} [DecidableEq κ] {kd : TypeDesc} {kv : κ → Value} {vv : ν → Value}
theorem Ops.mv_map {op : Op} {x : Operand} {g : Option Nat} (hop : mvOf op = some x) (hx : ev e x = .map g) (hb : Nat.blt d N = true) (hK : Ops P N ops K rest (upd e d (.map g)) w) : Ops P N ops K (⟨some d, op, ty, pos, af, none⟩ :: rest) e w := .mv hop hx hb hK
theorem Ops.mkmap {t : TypeId} (hS : St w0 w ks) (hb : Nat.blt d N = true) (hK : ∀ g w', St w0 w' (CkM t g [] :: ks) → Ops P N ops K rest (upd e d (.map (some g))) w') :
    Ops P N ops K (⟨some d, .makeMap t none, ty, pos, af, none⟩ :: rest) e w :=
  .val (w' := w.alloc (.map #[] 0)) (by simp [execOp, run_makeMap]) hb (hK _ _ (hS.allocM t))
theorem run_look {t kt et : TypeId} {z : Value} {s b : Nat} [hU : Und P t (.map kt et)] [hk : Und P kt kd] [Inf P et z s b] (KT : KeyT kd kv) {g : Nat} {L : List (κ × ν)} {x : κ} (hR : RdM w g (prV kv vv L)) (ok : Bool) :
    (Instr.lookup t (.map (some g)) (kv x) ok).run P w = .ok (if ok then .tuple #[((getA L x).map vv).getD z, .bool (getA L x).isSome] else ((getA L x).map vv).getD z) w := by
  obtain ⟨es, cl, hh, hm⟩ := hR
  obtain ⟨inf, hi, hz0, _, _⟩ := Inf.get P et
  have hf := findNow_A (vv := vv) KT x es.toList L 0 hm
  rw [fndA_get]
  unfold Instr.lookup
  simp only [Sem.run_bind, run_underlying hU.out, Result.andThen, MapKept.run_getObj_map hh, MapKept.run_checkKey hk.out (KT.isKey x)]
  cases hfn : fndA L x with
  | none =>
    rw [hfn] at hf
    have hfk := MapKept.run_findKey (P := P) (w := w) hk.out hf
    cases ok <;> simp [hfk, zeroValue, typeInfo, hi, hz0]
  | some p =>
    rw [hfn] at hf
    have hfk := MapKept.run_findKey (P := P) (w := w) hk.out hf
    cases ok <;> simp [hfk]
theorem Ops.lookIok {t kt et : TypeId} {b : Nat} [Und P t (.map kt et)] [Und P kt kd] [Inf P et (.int .i64 0) 1 b] (KT : KeyT kd kv) {g : Nat} {L : List (κ × Int)} {m ix : Operand} (x : κ) (hR : RdM w g (prV kv (Value.int .i64) L)) (hx : ev e m = .map (some g)) (hy : ev e ix = kv x) (hb : Nat.blt d N = true)
    (hK : Ops P N ops K rest (upd e d (.tuple #[.int .i64 ((getA L x).getD 0), .bool (getA L x).isSome])) w) : Ops P N ops K (⟨some d, .lookup t m ix true, ty, pos, af, none⟩ :: rest) e w := by
  refine .val (w' := w) ?_ hb hK
  have := run_look (P := P) (t := t) (x := x) KT hR true
  have e1 : ((getA L x).map (Value.int .i64)).getD (.int .i64 0) = .int .i64 ((getA L x).getD 0) := by cases getA L x <;> rfl
  rw [e1] at this
  simp [execOp, hx, hy, this]
theorem run_upd {t kt et T : TypeId} [hU : Und P t (.map kt et)] [hk : Und P kt kd] (KT : KeyT kd kv) {g : Nat} {L : List (κ × ν)} (i : Nat) (x : κ) (u : ν) (hS : St w0 w ks) (hi : ks[i]? = some (CkM T g (prV kv vv L))) :
    ∃ w', (Instr.mapUpdate t (.map (some g)) (kv x) (vv u)).run P w = .ok () w' ∧ St w0 w' (ks.set i (CkM T g (prV kv vv (putA L x u)))) := by
  obtain ⟨_, es, cl, hh, hm⟩ := hS.ownM i hi
  have hf := findNow_A (vv := vv) KT x es.toList L 0 hm
  have hfk := MapKept.run_findKey (P := P) (w := w) hk.out hf
  cases hfn : fndA L x with
  | none =>
    refine ⟨{ w with heap := w.heap.setIfInBounds g (.map (es.push ⟨kv x, vv u, cl⟩) (cl + 1)) }, ?_, hS.turnM hi ?_⟩
    · simp [Instr.mapUpdate, run_underlying hU.out, MapKept.run_getObj_map hh, MapKept.run_checkKey hk.out (KT.isKey x), hfk, hfn, MapKept.run_setObj_map _ hh, Result.andThen]
    · rw [fndA_none hfn]
      simp only [Array.toList_push, List.map_append, hm, prV]
      rfl
  | some p =>
    obtain ⟨j, v⟩ := p
    obtain ⟨h1, h2⟩ := fndA_some hfn
    have hjl : j < L.length := (List.getElem?_eq_some_iff.1 h1).1
    have hel : es.toList.length = L.length := by have := congrArg List.length hm; simpa [prV] using this
    have hes : es.size = L.length := by simpa using hel
    have hje : j < es.size := by omega
    have hkey : es[j].key = kv x := by
      have := congrArg (fun l => l[j]?) hm
      simp [prV, h1, hje] at this
      exact this.1
    have hst := MapKept.run_keyThatStays (P := P) (w := w) (KT.isKey x)
    refine ⟨{ w with heap := w.heap.setIfInBounds g (.map (es.modify j fun e => { e with key := kv x, val := vv u }) cl) }, ?_, hS.turnM hi ?_⟩
    · simp [Instr.mapUpdate, run_underlying hU.out, MapKept.run_getObj_map hh, MapKept.run_checkKey hk.out (KT.isKey x), hfk, hfn, MapKept.run_setObj_map _ hh, Result.andThen, hje, hkey, hst]
    · rw [h2 u]
      apply List.ext_getElem?
      intro q
      have hq := congrArg (fun l => l[q]?) hm
      simp only [prV, List.getElem?_map, Array.getElem?_toList] at hq
      simp only [prV, List.getElem?_map, List.getElem?_set, Array.getElem?_toList, Array.getElem?_modify]
      by_cases e1 : j = q
      · subst e1
        simp [hje, hjl]
      · rw [if_neg e1, if_neg e1]
        exact hq
def updOf : Op → Option (TypeId × Operand × Operand × Operand)
  | .mapUpdate t m k x => some (t, m, k, x)
  | .insert t m k x => some (t, m, k, x)
  | _ => none
theorem Ops.upm {op : Op} {t kt et T : TypeId} {m k x : Operand} [hU : Und P t (.map kt et)] [Und P kt kd] (hop : updOf op = some (t, m, k, x)) (KT : KeyT kd kv) {g : Nat} {L : List (κ × ν)} (i : Nat) {a : κ} {u : ν} (hS : St w0 w ks) (hi : ks[i]? = some (CkM T g (prV kv vv L))) (hm : ev e m = .map (some g)) (hk : ev e k = kv a) (hx : ev e x = vv u)
    (hK : ∀ w', St w0 w' (ks.set i (CkM T g (prV kv vv (putA L a u)))) → Ops P N ops K rest e w') : Ops P N ops K (⟨none, op, ty, pos, af, none⟩ :: rest) e w := by
  obtain ⟨w', hrun, hS'⟩ := run_upd (P := P) (t := t) KT i a u hS hi
  refine .unit (w' := w') ?_ (hK _ hS')
  cases op <;> simp [updOf] at hop <;> obtain ⟨rfl, rfl, rfl, rfl⟩ := hop <;> simp [execOp, hm, hk, hx, hrun]
end
end Go.Proofs.Ytjpkmpihmilgoaa.Vc
