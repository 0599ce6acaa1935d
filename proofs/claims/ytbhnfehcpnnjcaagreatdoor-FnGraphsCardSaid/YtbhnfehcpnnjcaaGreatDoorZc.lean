/-
  The texts Frm, B6, B7, Drn, Agg, G1, G2, G3, Gct, G4, G5, F1, F2, Cyc, C1, C2 in one. Conditions: as each part states them.
-/
import Derived.Test.YtbhnfehcpnnjcaaGreatDoorZb
import Derived.KernelRfl
import Derived.Test.YtbhnfehcpnnjcaaGreatDoorZa
/-
 Forms of maniplexes, their order, and rooted forms, without a program. Conditions: as each states them.
-/
namespace Go.Proofs.YtbhnfehcpnnjcaaGreatDoor.Vc
open Go.RowKit

/-! scattered writes -/
def scat (init : List Int) (ix v : Nat → Int) : Nat → List Int
 | 0 => init
 | k + 1 => (scat init ix v k).set (ix k).toNat (v k)
theorem scat_len (init : List Int) (ix v : Nat → Int) : ∀ k, (scat init ix v k).length = init.length
 | 0 => rfl
 | k + 1 => by simp [scat, scat_len init ix v k]
def seqI (m : Nat) : List Int := (List.range m).map fun (k : Nat) => (k : Int)
theorem seqI_len (m : Nat) : (seqI m).length = m := by simp [seqI]
theorem seqI_get {m k : Nat} (h : k < m) : gi (seqI m) (k : Int) = k := by rw [gi_mem (by rw [seqI_len]; exact h)]; simp [seqI]
theorem seqI_mem {m : Nat} {x : Int} : x ∈ seqI m ↔ 0 ≤ x ∧ x < m := by
 simp only [seqI, List.mem_map, List.mem_range]
 exact ⟨fun ⟨k, hk, e⟩ => by omega, fun h => ⟨x.toNat, by omega, by omega⟩⟩
theorem seqI_succ (m : Nat) : seqI (m + 1) = seqI m ++ [(m : Int)] := by simp [seqI, List.range_succ]
/-! the inverse, and a system renumbered -/
def backI (N : Nat) (o : List Int) : List Int := scat (List.replicate N 0) (fun k => gi o k) (fun k => (k : Int)) o.length
/-- each of the N places once -/
structure Prm (N : Nat) (o : List Int) : Prop where
 len : o.length = N
 nodup : o.Nodup
 range : ∀ x ∈ o, 0 ≤ x ∧ x < (N : Int)
section
variable {N : Nat} {o : List Int}
end
/-- a move in new numbers: read along the order of the flags -/
def rowF (o b mv : List Int) : List Int := o.map fun x => gi b (gi mv x)
/-- .. and written place by place -/
def renI (N : Nat) (p mv : List Int) : List Int := scat (List.replicate N 0) (fun f => gi p f) (fun f => gi p (gi mv f)) N
/-- the form of a system from a flag -/
def formL (N : Nat) (xss : List (List Int)) (f : Int) : List (List Int) := xss.map fun mv => rowF (orbit N xss f) (backI N (orbit N xss f)) mv
theorem formL_len (N : Nat) (xss : List (List Int)) (f : Int) : (formL N xss f).length = xss.length := by simp [formL]

/-! lexicographic order -/
def cmpI (a b : Int) : Int := if a < b then -1 else if b < a then 1 else 0
def lexC : List Int → List Int → Int
 | [], [] => 0
 | [], _ :: _ => -1
 | _ :: _, [] => 1
 | a :: l, b :: r => if cmpI a b = 0 then lexC l r else cmpI a b
def lexCC : List (List Int) → List (List Int) → Int
 | [], [] => 0
 | [], _ :: _ => -1
 | _ :: _, [] => 1
 | a :: l, b :: r => if lexC a b = 0 then lexCC l r else lexC a b
theorem cmpI_zero {a b : Int} : cmpI a b = 0 ↔ a = b := by unfold cmpI; by_cases h : a < b <;> by_cases h' : b < a <;> simp [h, h'] <;> omega
theorem cmpI_neg {a b : Int} : cmpI a b < 0 ↔ a < b := by unfold cmpI; by_cases h : a < b <;> by_cases h' : b < a <;> simp [h, h'] <;> omega
theorem cmpI_swap (a b : Int) : cmpI b a = - cmpI a b := by unfold cmpI; split <;> split <;> omega
theorem lexC_zero : ∀ {a b : List Int}, lexC a b = 0 ↔ a = b
 | [], [] => by simp [lexC]
 | [], _ :: _ => by simp [lexC]
 | _ :: _, [] => by simp [lexC]
 | a :: l, b :: r => by
  simp only [lexC]
  split
  ·rename_i h
   rw [lexC_zero, cmpI_zero.1 h]
   simp
  ·rename_i h
   constructor
   ·intro h'; exact absurd h' h
   ·intro h'; exact absurd (cmpI_zero.2 (List.cons.inj h').1) h
theorem lexCC_zero : ∀ {a b : List (List Int)}, lexCC a b = 0 ↔ a = b
 | [], [] => by simp [lexCC]
 | [], _ :: _ => by simp [lexCC]
 | _ :: _, [] => by simp [lexCC]
 | a :: l, b :: r => by
  simp only [lexCC]
  split
  ·rename_i h
   rw [lexCC_zero, lexC_zero.1 h]
   simp
  ·rename_i h
   constructor
   ·intro h'; exact absurd h' h
   ·intro h'; exact absurd (lexC_zero.2 (List.cons.inj h').1) h
theorem lexC_swap : ∀ (a b : List Int), lexC b a = - lexC a b
 | [], [] => rfl
 | [], _ :: _ => rfl
 | _ :: _, [] => rfl
 | a :: l, b :: r => by
  simp only [lexC]
  rw [cmpI_swap a b, lexC_swap l r]
  by_cases h : cmpI a b = 0
  ·rw [if_pos h, if_pos (by omega)]
  ·rw [if_neg h, if_neg (by omega)]
theorem lexCC_swap : ∀ (a b : List (List Int)), lexCC b a = - lexCC a b
 | [], [] => rfl
 | [], _ :: _ => rfl
 | _ :: _, [] => rfl
 | a :: l, b :: r => by
  simp only [lexCC]
  rw [lexC_swap a b, lexCC_swap l r]
  by_cases h : lexC a b = 0
  ·rw [if_pos h, if_pos (by omega)]
  ·rw [if_neg h, if_neg (by omega)]
theorem lexC_trans : ∀ {a b c : List Int}, lexC a b < 0 → lexC b c < 0 → lexC a c < 0
 | [], [], _, h, _ => by simp [lexC] at h
 | [], _ :: _, [], _, h => by simp [lexC] at h
 | [], _ :: _, _ :: _, _, _ => by simp [lexC]
 | _ :: _, [], _, h, _ => by simp [lexC] at h
 | _ :: _, _ :: _, [], _, h => by simp [lexC] at h
 | a :: l, b :: r, c :: s, h, h' => by
  simp only [lexC] at h h' ⊢
  by_cases e1 : cmpI a b = 0
  ·have := cmpI_zero.1 e1
   subst this
   rw [if_pos e1] at h
   by_cases e2 : cmpI a c = 0
   ·rw [if_pos e2] at h' ⊢
    exact lexC_trans h h'
   ·rw [if_neg e2] at h' ⊢
    exact h'
  ·rw [if_neg e1] at h
   have hab := cmpI_neg.1 h
   by_cases e2 : cmpI b c = 0
   ·have := cmpI_zero.1 e2
    subst this
    rw [if_neg e1]
    exact h
   ·rw [if_neg e2] at h'
    have hbc := cmpI_neg.1 h'
    have hac : cmpI a c < 0 := cmpI_neg.2 (by omega)
    rw [if_neg (by omega)]
    exact hac
theorem lexCC_trans : ∀ {a b c : List (List Int)}, lexCC a b < 0 → lexCC b c < 0 → lexCC a c < 0
 | [], [], _, h, _ => by simp [lexCC] at h
 | [], _ :: _, [], _, h => by simp [lexCC] at h
 | [], _ :: _, _ :: _, _, _ => by simp [lexCC]
 | _ :: _, [], _, h, _ => by simp [lexCC] at h
 | _ :: _, _ :: _, [], _, h => by simp [lexCC] at h
 | a :: l, b :: r, c :: s, h, h' => by
  simp only [lexCC] at h h' ⊢
  by_cases e1 : lexC a b = 0
  ·have := lexC_zero.1 e1
   subst this
   rw [if_pos e1] at h
   by_cases e2 : lexC a c = 0
   ·rw [if_pos e2] at h' ⊢
    exact lexCC_trans h h'
   ·rw [if_neg e2] at h' ⊢
    exact h'
  ·rw [if_neg e1] at h
   by_cases e2 : lexC b c = 0
   ·have := lexC_zero.1 e2
    subst this
    rw [if_neg e1]
    exact h
   ·rw [if_neg e2] at h'
    have hac : lexC a c < 0 := lexC_trans h h'
    rw [if_neg (by omega)]
    exact hac

/-! the least form -/
def leastTo (N : Nat) (xss : List (List Int)) : Nat → List (List Int)
 | 0 => formL N xss 0
 | k + 1 => if lexCC (formL N xss k) (leastTo N xss k) < 0 then formL N xss k else leastTo N xss k
def leastL (N : Nat) (xss : List (List Int)) : List (List Int) := leastTo N xss N
/-! rooted forms are their own forms from the flag 0 -/
section
variable {n F : Nat}
/-- how many flags are numbered ahead of a place -/
def mtL (L : List (List Int)) (n : Nat) : Nat → Nat
 | 0 => 1
 | a + 1 => max (mtL L n a) ((cell L (a % n) (a / n : Nat)).toNat + 1)
def RG (L : List (List Int)) (n a : Nat) : Prop := 0 ≤ cell L (a % n) (a / n : Nat) ∧ cell L (a % n) (a / n : Nat) ≤ mtL L n a ∧ a / n < mtL L n a
theorem push_seq {m : Nat} {v : Int} (h0 : 0 ≤ v) (h1 : v ≤ m) : push1 (seqI m) v = seqI (max m (v.toNat + 1)) := by
 unfold push1
 by_cases h : v < m
 ·rw [if_pos (seqI_mem.2 ⟨h0, h⟩), show max m (v.toNat + 1) = m by omega]
 ·rw [if_neg (fun hm => h (seqI_mem.1 hm).2), show max m (v.toNat + 1) = m + 1 by omega, seqI_succ, show v = (m : Int) by omega]
theorem expand_seq {L : List (List Int)} {f : Nat} (hl : L.length = n) (hn : 0 < n) (hR : ∀ a, f * n ≤ a → a < (f + 1) * n → RG L n a) : expand L (f : Int) (seqI (mtL L n (f * n))) = seqI (mtL L n ((f + 1) * n)) := by
 have e1 : (f + 1) * n = f * n + n := by rw [Nat.succ_mul]
 have key : ∀ j, j ≤ n → (L.take j).foldl (fun o p => push1 o (gi p f)) (seqI (mtL L n (f * n))) = seqI (mtL L n (f * n + j)) := by
  intro j
  induction j with
  | zero => intro _; rfl
  | succ j ih =>
   intro hj
   have hj' : j < L.length := by omega
   rw [List.take_succ_eq_append_getElem hj', List.foldl_append, ih (by omega)]
   have ha1 : (f * n + j) % n = j := by rw [Nat.mul_comm, Nat.mul_add_mod]; exact Nat.mod_eq_of_lt (by omega)
   have ha2 : (f * n + j) / n = f := by rw [Nat.mul_comm, Nat.mul_add_div hn]; rw [Nat.div_eq_of_lt (by omega)]; omega
   have hr := hR (f * n + j) (by omega) (by omega)
   unfold RG at hr
   rw [ha1, ha2] at hr
   have hc : cell L j (f : Int) = gi (L[j]) f := by
    unfold cell
    rw [show gl L (j : Int) = L[j] by simp [gl, List.getD_eq_getElem?_getD, List.getElem?_eq_getElem hj']]
   show push1 _ (gi L[j] f) = seqI (max (mtL L n (f * n + j)) ((cell L ((f * n + j) % n) ((f * n + j) / n : Nat)).toNat + 1))
   rw [ha1, ha2, ← hc]
   exact push_seq hr.1 hr.2.1
 have := key n (Nat.le_refl _)
 rw [List.take_of_length_le (by omega)] at this
 rw [e1]
 exact this
end
end Go.Proofs.YtbhnfehcpnnjcaaGreatDoor.Vc
/-
 The walk of isManiplex. Conditions: as each states them.
-/
namespace Go.Proofs.YtbhnfehcpnnjcaaGreatDoor.Vc
open Go.RowKit

theorem rg_cut {rs : List SlV} {l m : Nat} {j : Nat} (hj : j < m) : rg ((rs.drop l).take m) (j : Int) = rg rs ((l + j : Nat) : Int) := by
 have e : (((l + j : Nat) : Int)).toNat = l + j := by omega
 rw [rg, rg, e]
 simp [List.getD_eq_getElem?_getD, List.getElem?_take, hj]

theorem isManiplex_c (A : Option Addr) (n c : Nat) (rs : List SlV) (xss : List (List Int)) (w : World) (hR : RowsI w A n rs xss) (hn : n ≤ c) (hc : c ≤ 9223372036854775807) :
  Ret Tryz.prog 49 [.agg #[.slice A n c]] w (fun v w' => v = .bool (decide (Mani xss)) ∧ St w w' []) := by
 have hxl := hR.len
 have r0 : 0 < n → (gl xss 0).length = (rg rs 0).n := fun h => hR.rowLen (by omega) (by omega)
 refine Ret.of_cd Tryz.func49 rfl Tryz.ntmps49 rfl (post1 rfl) (Cd.seq (Cd.region (Ops.box1 (St.refl w) rfl rfl ?_)))
 intro Ab w1 hS
 refine Ops.mb rfl rfl rfl (Ops.n (tQ (Cd.seq (Cd.seq (Cd.region (Ops.call (rank_c _ _ _ _ _ _ (hS.rd 0 rfl) rfl) rfl rfl rfl ?_))))))
 rintro _ _ ⟨rfl, rfl⟩
 skip
 refine Ops.call (within_c _ _ _ _) rfl rfl rfl ?_
 rintro _ _ ⟨rfl, rfl⟩
 first | refine Ops.not_p rfl rfl ?_ | refine Ops.not rfl rfl ?_
 refine Ops.mb rfl rfl rfl ?_
 refine Ops.split_p 15 rfl (fun h1 => ?_) (fun h1 => ?_)
 ·refine Ops.k rfl rfl rfl rfl rfl (Ops.k rfl rfl rfl rfl rfl (Ops.k rfl rfl rfl rfl rfl (Ops.pick_t rfl rfl rfl (Ops.n (tQ (Cd.cond_t rfl (Cd.seq (Cd.region (Ops.mb rfl rfl rfl ?_)))))))))
  refine Ops.n (tQ (Cd.ret (thenQ_r (ret1_b rfl ?_))))
  exact ⟨by rw [decide_eq_false (fun h : Mani xss => by have := h.1; omega)], hS.none⟩
 have hM := hS.oldRows hR
 have r0 := r0 (by omega)
 refine Ops.g rfl rfl rfl (Ops.call (flags_c _ _ _ _ _ _ _ _ (hS.rd 0 rfl) rfl hM (by omega)) rfl rfl rfl ?_)
 rintro _ _ ⟨rfl, rfl⟩
 refine Ops.g rfl rfl rfl (Ops.call (within_c _ _ _ _) rfl rfl rfl ?_)
 rintro _ _ ⟨rfl, rfl⟩
 refine Ops.g rfl rfl rfl ?_
 first | refine Ops.not_p rfl rfl ?_ | refine Ops.not rfl rfl ?_
 refine Ops.pick_f rfl rfl rfl (Ops.n (tQ ?_))
 refine Cd.cond_p _ rfl (fun h3 => ?_) (fun h3 => ?_)
 ·refine Cd.seq (Cd.region (Ops.mb rfl rfl rfl (Ops.n (tQ (Cd.ret (thenQ_r (ret1_b rfl ?_)))))))
  exact ⟨by rw [decide_eq_false (fun h : Mani xss => by have := h.2.1; omega)], hS.none⟩
 refine Cd.skip (tQ (Cd.seq (Cd.seq (Cd.region (Ops.fld (hS.rd 0 rfl) rfl rfl rfl rfl inferInstance (Ops.ldf_s (hS.rd 0 rfl) rfl rfl rfl rfl rfl (Ops.len rfl rfl (Ops.mi rfl rfl rfl (Ops.n ?_)))))))))
 refine tQ (Cd.block ?_)
 refine Cd.loop (α := Nat) (fun k => [(1, .pointer Ab), (21, .slice A n c), (22, .int .i64 (n : Int)), (23, .int .i64 (k : Int))]) (fun k w' => St w w' [Bx 26 1 Ab [.slice A n c]] ∧ k ≤ n ∧ Part xss k) (fun k => n - k) 0 ⟨rfl, rfl, rfl, rfl, trivial⟩ ⟨hS, Nat.zero_le _, fun p hp => by simp at hp⟩ ?_
 rintro k e w2 ⟨hS2, hk, hP⟩
 have hM := hS2.oldRows hR
 refine Cd.seq (Cd.region (Ops.lss rfl rfl rfl (Ops.n (tQ (Cd.seq ?_)))))
 refine Cd.cond_p _ rfl (fun h5 => ?_) (fun h5 => ?_)
 ·have hkx : k < xss.length := by omega
  have rk := hR.rowLen (k := (k : Int)) (by omega) (by omega)
  have hrow := hM.at_ (i := k) (by omega) h5
  refine Cd.skip (tQ (Cd.seq (Cd.block (Cd.seq (Cd.region (Ops.idx hM.top.2 rfl rfl rfl (by omega) h5 (Ops.ld_sl hM.top rfl (by omega) rfl rfl (Ops.ms rfl rfl rfl (Ops.n ?_)))))))))
  refine tQ (Cd.seq (Cd.region (Ops.ms rfl rfl rfl (Ops.call (isFreeInvolution_c _ _ _ _ _ hrow) rfl rfl rfl ?_))))
  rintro _ w3 ⟨rfl, hst⟩
  have hS3 := hS2.later hst.below
  have hM := hS3.oldRows hR
  first | refine Ops.not_p rfl rfl ?_ | refine Ops.not rfl rfl ?_
  refine Ops.mb rfl rfl rfl ?_
  refine Ops.split_p 30 rfl (fun h6 => ?_) (fun h6 => ?_)
  ·refine Ops.k rfl rfl rfl rfl rfl (Ops.k rfl rfl rfl rfl rfl (Ops.k rfl rfl rfl rfl rfl (Ops.k rfl rfl rfl rfl rfl (Ops.pick_t rfl rfl rfl (Ops.n (tQ (Cd.cond_t rfl (Cd.seq (Cd.region ?_)))))))))
   refine Ops.mb rfl rfl rfl (Ops.n (tQ (Cd.ret (blockQ_r (thenQ_r (thenQ_r (blockQ_r (thenQ_r (ret1_b rfl ?_)))))))))
   exact ⟨by rw [decide_eq_false (fun h : Mani xss => h6 ⟨(h.2.2.1.at_ hkx).2.1, (h.2.2.1.at_ hkx).2.2⟩)], hS3.none⟩
  ·have h6 := Classical.not_not.1 h6
   refine Ops.g rfl rfl rfl (Ops.ms rfl rfl rfl (Ops.g rfl rfl rfl (Ops.call (sizeI_c _ _ _ _) rfl rfl rfl ?_)))
   rintro _ _ ⟨rfl, rfl⟩
   refine Ops.g rfl rfl rfl (Ops.call (flags_c _ _ _ _ _ _ _ _ (hS3.rd 0 rfl) rfl hM (by omega)) rfl rfl rfl ?_)
   rintro _ _ ⟨rfl, rfl⟩
   refine Ops.g rfl rfl rfl (Ops.neq rfl rfl rfl (Ops.pick_f rfl rfl rfl (Ops.n (tQ ?_))))
   refine Cd.cond_p _ rfl (fun h7 => ?_) (fun h7 => ?_)
   ·refine Cd.seq (Cd.region (Ops.mb rfl rfl rfl (Ops.n (tQ (Cd.ret (blockQ_r (thenQ_r (thenQ_r (blockQ_r ?_)))))))))
    refine thenQ_r (ret1_b rfl ?_)
    exact ⟨by rw [decide_eq_false (fun h : Mani xss => h7 (by have := (h.2.2.1.at_ hkx).1; omega))], hS3.none⟩
   ·refine Cd.skip (blockQ_n (tQ (Cd.region (Ops.add rfl rfl rfl (by omega) (Ops.mi rfl rfl rfl (Ops.n (tQ ?_)))))))
    exact ⟨k + 1, by omega, ⟨rfl, rfl, rfl, rfl, trivial⟩, hS3, by omega, hP.step hkx (by omega) h6.1 h6.2⟩
 ·have hr1 := hP.all (by omega)
  have hs := hr1.sys
  have hrk : ∀ i : Int, 0 ≤ i → i < n → (rg rs i).n = (rg rs 0).n := fun i h0 h1 => by
   have e1 := hR.rowLen h0 h1
   have e2 := (hr1 _ (gl_in h0 (by omega))).1
   omega
  refine Cd.exit (thenQ_x (thenQ_x (blockQ_x (tQ (Cd.seq (Cd.seq (Cd.region (Ops.fld (hS2.rd 0 rfl) rfl rfl rfl rfl inferInstance (Ops.ldf_s (hS2.rd 0 rfl) rfl rfl rfl rfl rfl ?_)))))))))
  refine Ops.len rfl rfl (Ops.mi rfl rfl rfl (Ops.n (tQ (Cd.block ?_))))
  refine Cd.loop (α := Nat) (fun i => [(1, .pointer Ab), (38, .slice A n c), (39, .int .i64 (n : Int)), (40, .int .i64 (i : Int))]) (fun i w' => St w w' [Bx 26 1 Ab [.slice A n c]] ∧ i ≤ n ∧ ∀ i', i' < i → ∀ k, k < n → i' + 2 ≤ k → ∀ f, f < (gl xss 0).length → Comm xss i' k f) (fun i => n - i) 0 ⟨rfl, rfl, rfl, rfl, trivial⟩ ⟨hS2, Nat.zero_le _, fun i' hi' => by omega⟩ ?_
  rintro i e w3 ⟨hS3, hi, hC⟩
  have hM := hS3.oldRows hR
  refine Cd.seq (Cd.region (Ops.lss rfl rfl rfl (Ops.n (tQ (Cd.seq ?_)))))
  refine Cd.cond_p _ rfl (fun h6 => ?_) (fun h6 => ?_)
  ·refine Cd.skip (tQ (Cd.seq (Cd.block (Cd.seq (Cd.region (Ops.mi rfl rfl rfl (Ops.idx hM.top.2 rfl rfl rfl (by omega) h6 (Ops.ld_sl hM.top rfl (by omega) rfl rfl (Ops.mi rfl rfl rfl ?_)))))))))
   refine Ops.ms rfl rfl rfl (Ops.n (tQ (Cd.seq (Cd.region (Ops.fld (hS3.rd 0 rfl) rfl rfl rfl rfl inferInstance (Ops.ldf_s (hS3.rd 0 rfl) rfl rfl rfl rfl rfl (Ops.mi rfl rfl rfl (Ops.add rfl rfl rfl (by omega) (Ops.fld (hS3.rd 0 rfl) rfl rfl rfl rfl inferInstance ?_)))))))))
   refine Ops.ldf_s (hS3.rd 0 rfl) rfl rfl rfl rfl rfl (Ops.len rfl rfl (Ops.minI rfl rfl rfl ?_))
   obtain ⟨l, hl, hl1, hl2⟩ : ∃ l : Nat, min ((i : Int) + 2) (n : Int) = (l : Int) ∧ l ≤ n ∧ (l = i + 2 ∨ (l = n ∧ n ≤ i + 2)) := ⟨min (i + 2) n, by omega, by omega, by omega⟩
   rw [hl]
   refine Ops.cut_l rfl rfl rfl (by omega) ?_
   rw [Int.toNat_natCast]
   refine Ops.len rfl rfl (Ops.mi rfl rfl rfl (Ops.n (tQ (Cd.block ?_))))
   refine Cd.loop (α := Nat) (fun j => [(1, .pointer Ab), (38, .slice A n c), (39, .int .i64 (n : Int)), (40, .int .i64 (i : Int)), (6, .slice (rg rs i).a (rg rs i).n (rg rs i).c), (53, .slice (cutAt A c l) (n - l) (c - l)), (54, .int .i64 ((n - l : Nat) : Int)), (55, .int .i64 (j : Int))]) (fun j w' => St w w' [Bx 26 1 Ab [.slice A n c]] ∧ j ≤ n - l ∧ ∀ k', k' < l + j → k' < n → i + 2 ≤ k' → ∀ f, f < (gl xss 0).length → Comm xss i k' f) (fun j => n - l - j) 0 ⟨rfl, rfl, rfl, rfl, rfl, rfl, rfl, rfl, trivial⟩ ⟨hS3, Nat.zero_le _, fun k' h1 _ _ => by omega⟩ ?_
   rintro j e w4 ⟨hS4, hj, hC4⟩
   have hM := hS4.oldRows hR
   have hcut := hM.top.cut (c := c) hl1 (Nat.le_refl n) hn
   refine Cd.seq (Cd.region (Ops.lss rfl rfl rfl (Ops.n (tQ (Cd.seq ?_)))))
   refine Cd.cond_p _ rfl (fun h7 => ?_) (fun h7 => ?_)
   ·have hjl : j < n - l := by omega
    have hk : l + j < n := by omega
    have hik : i + 2 ≤ l + j := by omega
    refine Cd.skip (tQ (Cd.seq (Cd.block (Cd.seq (Cd.region (Ops.idx hcut.2 rfl rfl rfl (by omega) h7 (Ops.ld_sl hcut rfl (by omega) rfl rfl ?_)))))))
    rw [rg_cut hjl]
    generalize hke : l + j = k at hk hik
    have rki := hrk i (by omega) h6
    have rkk := hrk k (by omega) (by omega)
    refine Ops.ms rfl rfl rfl (Ops.n (tQ (Cd.seq (Cd.region (Ops.call (flags_c _ _ _ _ _ _ _ _ (hS4.rd 0 rfl) rfl hM (by omega)) rfl rfl rfl ?_)))))
    rintro _ w4 ⟨rfl, rfl⟩
    refine Ops.mi rfl rfl rfl (Ops.n (tQ (Cd.block ?_)))
    refine Cd.loop (α := Nat) (fun f => [(1, .pointer Ab), (38, .slice A n c), (39, .int .i64 (n : Int)), (40, .int .i64 (i : Int)), (6, .slice (rg rs i).a (rg rs i).n (rg rs i).c), (53, .slice (cutAt A c l) (n - l) (c - l)), (54, .int .i64 ((n - l : Nat) : Int)), (55, .int .i64 (j : Int)), (8, .slice (rg rs k).a (rg rs k).n (rg rs k).c), (59, .int .i64 ((rg rs 0).n : Int)), (60, .int .i64 (f : Int))]) (fun f w' => St w w' [Bx 26 1 Ab [.slice A n c]] ∧ f ≤ (gl xss 0).length ∧ ∀ f', f' < f → Comm xss i k f') (fun f => (gl xss 0).length - f) 0 ⟨rfl, rfl, rfl, rfl, rfl, rfl, rfl, rfl, rfl, rfl, rfl, trivial⟩ ⟨hS4, Nat.zero_le _, fun f' hf' => by omega⟩ ?_
    rintro f e w5 ⟨hS5, hf, hC5⟩
    have hM := hS5.oldRows hR
    have hri := hM.at_ (i := i) (by omega) h6
    have hrk' := hM.at_ (i := k) (by omega) (by omega)
    refine Cd.seq (Cd.region (Ops.lss rfl rfl rfl (Ops.n (tQ (Cd.seq ?_)))))
    refine Cd.cond_p _ rfl (fun h8 => ?_) (fun h8 => ?_)
    ·have hii := (hs _ (gl_in (k := (i : Int)) (by omega) (by omega))).2 (f : Int) (by omega) (by omega)
     have hkk := (hs _ (gl_in (k := (k : Int)) (by omega) (by omega))).2 (f : Int) (by omega) (by omega)
     refine Cd.skip (tQ (Cd.seq (Cd.block (Cd.seq (Cd.region (Ops.mi rfl rfl rfl (Ops.mi rfl rfl rfl (Ops.n (tQ ?_)))))))))
     refine Cd.seq ?_
     by_cases h10 : gi (gl xss i) f = gi (gl xss k) f
     ·--dup 3
      refine Cd.draw [.ex (.slice ((rg rs i).a) ((rg rs i).n) ((rg rs i).c)), .ex (.int .i64 ((f : Int))), .ex (.pointer (ptrAt ((rg rs i).a) ((f : Int)).toNat)), .ex (.int .i64 (gi (gl xss i) ((f : Int)))), .ex (.slice ((rg rs k).a) ((rg rs k).n) ((rg rs k).c)), .ex (.int .i64 ((f : Int))), .ex (.pointer (ptrAt ((rg rs k).a) ((f : Int)).toNat)), .ex (.int .i64 (gi (gl xss k) ((f : Int)))), .ex (.bool (true)), .ex (.bool (true)), .ex (undef), .ex (undef), .ex (undef), .ex (undef), .ex (undef), .ex (undef), .ex (undef), .ex (undef), .ex (undef), .ex (undef), .ex (undef), .ex (undef), .ex (undef), .ex (undef), .ex (undef), .ex (.bool (true))] (by kernel_rfl) (by kernel_rfl) rfl (lx (lx (lx (lx (lx (lx (lx (lx (lx (lx (lx (lx (lx (lx (lx (lx (lx (lx (lx (lx (lx (lx (lx (lx (lx (lx (fun _ h => by cases h))))))))))))))))))))))))))) ⟨?_, ?_, ?_, ?_, ?_, ?_, ?_, ?_, ?_, ?_, ?_, ?_, ?_, ?_, ?_, ?_, ?_, ?_, ?_, ?_, ?_, ?_, ?_, ?_, ?_, ?_, trivial⟩ ?_
      ·intro e1 w1 hb hp hun
       refine Ops.ms rfl rfl rfl (Ops.n (d0 (by exact rfl)))
      ·intro e1 w1 hb hp hun
       refine Ops.mi rfl rfl rfl (Ops.n (d0 (by exact rfl)))
      ·intro e1 w1 hb hp hun
       refine Ops.idx (hri.later hb).2 rfl rfl rfl (by omega) (by omega) (Ops.n (d0 (by exact rfl)))
      ·intro e1 w1 hb hp hun
       refine Ops.ld_int (hri.later hb) rfl (by omega) rfl rfl (Ops.n (d0 (by exact rfl)))
      ·intro e1 w1 hb hp hun
       refine Ops.ms rfl rfl rfl (Ops.n (d0 (by exact rfl)))
      ·intro e1 w1 hb hp hun
       refine Ops.mi rfl rfl rfl (Ops.n (d0 (by exact rfl)))
      ·intro e1 w1 hb hp hun
       refine Ops.idx (hrk'.later hb).2 rfl rfl rfl (by omega) (by omega) (Ops.n (d0 (by exact rfl)))
      ·intro e1 w1 hb hp hun
       refine Ops.ld_int (hrk'.later hb) rfl (by omega) rfl rfl (Ops.n (d0 (by exact rfl)))
      ·intro e1 w1 hb hp hun
       refine Ops.eql rfl rfl rfl (Ops.n ?_)
       exact d0 (by exact congrArg Value.bool (decide_eq_true h10))
      ·intro e1 w1 hb hp hun
       refine Ops.mb rfl rfl rfl (Ops.n (d0 (by exact rfl)))
      ·intro e1 w1 hb hp hun
       refine Ops.k rfl rfl rfl rfl rfl (Ops.n (d0 (by exact rfl)))
      ·intro e1 w1 hb hp hun
       refine Ops.k rfl rfl rfl rfl rfl (Ops.n (d0 (by exact rfl)))
      ·intro e1 w1 hb hp hun
       refine Ops.k rfl rfl rfl rfl rfl (Ops.n (d0 (by exact rfl)))
      ·intro e1 w1 hb hp hun
       refine Ops.k rfl rfl rfl rfl rfl (Ops.n (d0 (by exact rfl)))
      ·intro e1 w1 hb hp hun
       refine Ops.k rfl rfl rfl rfl rfl (Ops.n (d0 (by exact rfl)))
      ·intro e1 w1 hb hp hun
       refine Ops.k rfl rfl rfl rfl rfl (Ops.n (d0 (by exact rfl)))
      ·intro e1 w1 hb hp hun
       refine Ops.k rfl rfl rfl rfl rfl (Ops.n (d0 (by exact rfl)))
      ·intro e1 w1 hb hp hun
       refine Ops.k rfl rfl rfl rfl rfl (Ops.n (d0 (by exact rfl)))
      ·intro e1 w1 hb hp hun
       refine Ops.k rfl rfl rfl rfl rfl (Ops.n (d0 (by exact rfl)))
      ·intro e1 w1 hb hp hun
       refine Ops.k rfl rfl rfl rfl rfl (Ops.n (d0 (by exact rfl)))
      ·intro e1 w1 hb hp hun
       refine Ops.k rfl rfl rfl rfl rfl (Ops.n (d0 (by exact rfl)))
      ·intro e1 w1 hb hp hun
       refine Ops.k rfl rfl rfl rfl rfl (Ops.n (d0 (by exact rfl)))
      ·intro e1 w1 hb hp hun
       refine Ops.k rfl rfl rfl rfl rfl (Ops.n (d0 (by exact rfl)))
      ·intro e1 w1 hb hp hun
       refine Ops.k rfl rfl rfl rfl rfl (Ops.n (d0 (by exact rfl)))
      ·intro e1 w1 hb hp hun
       refine Ops.k rfl rfl rfl rfl rfl (Ops.n (d0 (by exact rfl)))
      ·intro e1 w1 hb hp hun
       refine Ops.pick_t rfl rfl rfl (Ops.n (d0 (by exact rfl)))
      intro u w6 hb6 _
      have hS6 := hS5.later hb6
      refine tQ (Cd.cond_t rfl (Cd.seq (Cd.region (Ops.mb rfl rfl rfl (Ops.n (tQ (Cd.ret (blockQ_r (thenQ_r ?_)))))))))
      refine thenQ_r (blockQ_r (blockQ_r (thenQ_r (thenQ_r (blockQ_r (blockQ_r (thenQ_r (thenQ_r (blockQ_r ?_)))))))))
      refine thenQ_r (ret1_b rfl ?_)
      exact ⟨by rw [decide_eq_false (fun h : Mani xss => (h.2.2.2.1 i (by omega) k (by omega) hik f (by omega)).2 h10)], hS6.none⟩
     ·by_cases h9 : gi (gl xss k) (gi (gl xss i) f) = gi (gl xss i) (gi (gl xss k) f)
      ·refine Cd.draw [.ex (.slice ((rg rs i).a) ((rg rs i).n) ((rg rs i).c)), .ex (.int .i64 ((f : Int))), .ex (.pointer (ptrAt ((rg rs i).a) ((f : Int)).toNat)), .ex (.int .i64 (gi (gl xss i) ((f : Int)))), .ex (.slice ((rg rs k).a) ((rg rs k).n) ((rg rs k).c)), .ex (.int .i64 ((f : Int))), .ex (.pointer (ptrAt ((rg rs k).a) ((f : Int)).toNat)), .ex (.int .i64 (gi (gl xss k) ((f : Int)))), .ex (.bool (false)), .ex (.bool (false)), .ex (.slice ((rg rs k).a) ((rg rs k).n) ((rg rs k).c)), .ex (.slice ((rg rs i).a) ((rg rs i).n) ((rg rs i).c)), .ex (.int .i64 ((f : Int))), .ex (.pointer (ptrAt ((rg rs i).a) ((f : Int)).toNat)), .ex (.int .i64 (gi (gl xss i) ((f : Int)))), .ex (.pointer (ptrAt ((rg rs k).a) (gi (gl xss i) ((f : Int))).toNat)), .ex (.int .i64 (gi (gl xss k) (gi (gl xss i) ((f : Int))))), .ex (.slice ((rg rs i).a) ((rg rs i).n) ((rg rs i).c)), .ex (.slice ((rg rs k).a) ((rg rs k).n) ((rg rs k).c)), .ex (.int .i64 ((f : Int))), .ex (.pointer (ptrAt ((rg rs k).a) ((f : Int)).toNat)), .ex (.int .i64 (gi (gl xss k) ((f : Int)))), .ex (.pointer (ptrAt ((rg rs i).a) (gi (gl xss k) ((f : Int))).toNat)), .ex (.int .i64 (gi (gl xss i) (gi (gl xss k) ((f : Int))))), .ex (.bool (false)), .ex (.bool (false))] (by kernel_rfl) (by kernel_rfl) rfl (lx (lx (lx (lx (lx (lx (lx (lx (lx (lx (lx (lx (lx (lx (lx (lx (lx (lx (lx (lx (lx (lx (lx (lx (lx (lx (fun _ h => by cases h))))))))))))))))))))))))))) ⟨?_, ?_, ?_, ?_, ?_, ?_, ?_, ?_, ?_, ?_, ?_, ?_, ?_, ?_, ?_, ?_, ?_, ?_, ?_, ?_, ?_, ?_, ?_, ?_, ?_, ?_, trivial⟩ ?_
       ·intro e1 w1 hb hp hun
        refine Ops.ms rfl rfl rfl (Ops.n (d0 (by exact rfl)))
       ·intro e1 w1 hb hp hun
        refine Ops.mi rfl rfl rfl (Ops.n (d0 (by exact rfl)))
       ·intro e1 w1 hb hp hun
        refine Ops.idx (hri.later hb).2 rfl rfl rfl (by omega) (by omega) (Ops.n (d0 (by exact rfl)))
       ·intro e1 w1 hb hp hun
        refine Ops.ld_int (hri.later hb) rfl (by omega) rfl rfl (Ops.n (d0 (by exact rfl)))
       ·intro e1 w1 hb hp hun
        refine Ops.ms rfl rfl rfl (Ops.n (d0 (by exact rfl)))
       ·intro e1 w1 hb hp hun
        refine Ops.mi rfl rfl rfl (Ops.n (d0 (by exact rfl)))
       ·intro e1 w1 hb hp hun
        refine Ops.idx (hrk'.later hb).2 rfl rfl rfl (by omega) (by omega) (Ops.n (d0 (by exact rfl)))
       ·intro e1 w1 hb hp hun
        refine Ops.ld_int (hrk'.later hb) rfl (by omega) rfl rfl (Ops.n (d0 (by exact rfl)))
       ·intro e1 w1 hb hp hun
        refine Ops.eql rfl rfl rfl (Ops.n ?_)
        exact d0 (by exact congrArg Value.bool (decide_eq_false h10))
       ·intro e1 w1 hb hp hun
        refine Ops.mb rfl rfl rfl (Ops.n (d0 (by exact rfl)))
       ·intro e1 w1 hb hp hun
        refine Ops.g rfl rfl rfl (Ops.ms rfl rfl rfl (Ops.n (d0 (by exact rfl))))
       ·intro e1 w1 hb hp hun
        refine Ops.g rfl rfl rfl (Ops.ms rfl rfl rfl (Ops.n (d0 (by exact rfl))))
       ·intro e1 w1 hb hp hun
        refine Ops.g rfl rfl rfl (Ops.mi rfl rfl rfl (Ops.n (d0 (by exact rfl))))
       ·intro e1 w1 hb hp hun
        refine Ops.g rfl rfl rfl (Ops.idx (hri.later hb).2 rfl rfl rfl (by omega) (by omega) (Ops.n (d0 (by exact rfl))))
       ·intro e1 w1 hb hp hun
        refine Ops.g rfl rfl rfl (Ops.ld_int (hri.later hb) rfl (by omega) rfl rfl (Ops.n (d0 (by exact rfl))))
       ·intro e1 w1 hb hp hun
        refine Ops.g rfl rfl rfl (Ops.idx (hrk'.later hb).2 rfl rfl rfl (by omega) (by omega) (Ops.n (d0 (by exact rfl))))
       ·intro e1 w1 hb hp hun
        refine Ops.g rfl rfl rfl (Ops.ld_int (hrk'.later hb) rfl (by omega) rfl rfl (Ops.n (d0 (by exact rfl))))
       ·intro e1 w1 hb hp hun
        refine Ops.g rfl rfl rfl (Ops.ms rfl rfl rfl (Ops.n (d0 (by exact rfl))))
       ·intro e1 w1 hb hp hun
        refine Ops.g rfl rfl rfl (Ops.ms rfl rfl rfl (Ops.n (d0 (by exact rfl))))
       ·intro e1 w1 hb hp hun
        refine Ops.g rfl rfl rfl (Ops.mi rfl rfl rfl (Ops.n (d0 (by exact rfl))))
       ·intro e1 w1 hb hp hun
        refine Ops.g rfl rfl rfl (Ops.idx (hrk'.later hb).2 rfl rfl rfl (by omega) (by omega) (Ops.n (d0 (by exact rfl))))
       ·intro e1 w1 hb hp hun
        refine Ops.g rfl rfl rfl (Ops.ld_int (hrk'.later hb) rfl (by omega) rfl rfl (Ops.n (d0 (by exact rfl))))
       ·intro e1 w1 hb hp hun
        refine Ops.g rfl rfl rfl (Ops.idx (hri.later hb).2 rfl rfl rfl (by omega) (by omega) (Ops.n (d0 (by exact rfl))))
       ·intro e1 w1 hb hp hun
        refine Ops.g rfl rfl rfl (Ops.ld_int (hri.later hb) rfl (by omega) rfl rfl (Ops.n (d0 (by exact rfl))))
       ·intro e1 w1 hb hp hun
        refine Ops.g rfl rfl rfl (Ops.neq rfl rfl rfl (Ops.n ?_))
        exact d0 (by exact congrArg Value.bool (decide_eq_false (fun h => h h9)))
       ·intro e1 w1 hb hp hun
        refine Ops.pick_f rfl rfl rfl (Ops.n (d0 (by exact rfl)))
       intro u w6 hb6 _
       have hS6 := hS5.later hb6
       refine tQ (Cd.cond_f rfl (Cd.skip (blockQ_n (tQ (Cd.region (Ops.add rfl rfl rfl (by omega) (Ops.mi rfl rfl rfl (Ops.n (tQ ?_)))))))))
       refine ⟨f + 1, by omega, ⟨rfl, rfl, rfl, rfl, rfl, rfl, rfl, rfl, rfl, rfl, rfl, trivial⟩, hS6, by omega, fun f' hf' => ?_⟩
       by_cases ef : f' = f
       ·subst ef; exact ⟨h9, h10⟩
       ·exact hC5 f' (by omega)
      ·refine Cd.draw [.ex (.slice ((rg rs i).a) ((rg rs i).n) ((rg rs i).c)), .ex (.int .i64 ((f : Int))), .ex (.pointer (ptrAt ((rg rs i).a) ((f : Int)).toNat)), .ex (.int .i64 (gi (gl xss i) ((f : Int)))), .ex (.slice ((rg rs k).a) ((rg rs k).n) ((rg rs k).c)), .ex (.int .i64 ((f : Int))), .ex (.pointer (ptrAt ((rg rs k).a) ((f : Int)).toNat)), .ex (.int .i64 (gi (gl xss k) ((f : Int)))), .ex (.bool (false)), .ex (.bool (false)), .ex (.slice ((rg rs k).a) ((rg rs k).n) ((rg rs k).c)), .ex (.slice ((rg rs i).a) ((rg rs i).n) ((rg rs i).c)), .ex (.int .i64 ((f : Int))), .ex (.pointer (ptrAt ((rg rs i).a) ((f : Int)).toNat)), .ex (.int .i64 (gi (gl xss i) ((f : Int)))), .ex (.pointer (ptrAt ((rg rs k).a) (gi (gl xss i) ((f : Int))).toNat)), .ex (.int .i64 (gi (gl xss k) (gi (gl xss i) ((f : Int))))), .ex (.slice ((rg rs i).a) ((rg rs i).n) ((rg rs i).c)), .ex (.slice ((rg rs k).a) ((rg rs k).n) ((rg rs k).c)), .ex (.int .i64 ((f : Int))), .ex (.pointer (ptrAt ((rg rs k).a) ((f : Int)).toNat)), .ex (.int .i64 (gi (gl xss k) ((f : Int)))), .ex (.pointer (ptrAt ((rg rs i).a) (gi (gl xss k) ((f : Int))).toNat)), .ex (.int .i64 (gi (gl xss i) (gi (gl xss k) ((f : Int))))), .ex (.bool (true)), .ex (.bool (true))] (by kernel_rfl) (by kernel_rfl) rfl (lx (lx (lx (lx (lx (lx (lx (lx (lx (lx (lx (lx (lx (lx (lx (lx (lx (lx (lx (lx (lx (lx (lx (lx (lx (lx (fun _ h => by cases h))))))))))))))))))))))))))) ⟨?_, ?_, ?_, ?_, ?_, ?_, ?_, ?_, ?_, ?_, ?_, ?_, ?_, ?_, ?_, ?_, ?_, ?_, ?_, ?_, ?_, ?_, ?_, ?_, ?_, ?_, trivial⟩ ?_
       ·intro e1 w1 hb hp hun
        refine Ops.ms rfl rfl rfl (Ops.n (d0 (by exact rfl)))
       ·intro e1 w1 hb hp hun
        refine Ops.mi rfl rfl rfl (Ops.n (d0 (by exact rfl)))
       ·intro e1 w1 hb hp hun
        refine Ops.idx (hri.later hb).2 rfl rfl rfl (by omega) (by omega) (Ops.n (d0 (by exact rfl)))
       ·intro e1 w1 hb hp hun
        refine Ops.ld_int (hri.later hb) rfl (by omega) rfl rfl (Ops.n (d0 (by exact rfl)))
       ·intro e1 w1 hb hp hun
        refine Ops.ms rfl rfl rfl (Ops.n (d0 (by exact rfl)))
       ·intro e1 w1 hb hp hun
        refine Ops.mi rfl rfl rfl (Ops.n (d0 (by exact rfl)))
       ·intro e1 w1 hb hp hun
        refine Ops.idx (hrk'.later hb).2 rfl rfl rfl (by omega) (by omega) (Ops.n (d0 (by exact rfl)))
       ·intro e1 w1 hb hp hun
        refine Ops.ld_int (hrk'.later hb) rfl (by omega) rfl rfl (Ops.n (d0 (by exact rfl)))
       ·intro e1 w1 hb hp hun
        refine Ops.eql rfl rfl rfl (Ops.n ?_)
        exact d0 (by exact congrArg Value.bool (decide_eq_false h10))
       ·intro e1 w1 hb hp hun
        refine Ops.mb rfl rfl rfl (Ops.n (d0 (by exact rfl)))
       ·intro e1 w1 hb hp hun
        refine Ops.g rfl rfl rfl (Ops.ms rfl rfl rfl (Ops.n (d0 (by exact rfl))))
       ·intro e1 w1 hb hp hun
        refine Ops.g rfl rfl rfl (Ops.ms rfl rfl rfl (Ops.n (d0 (by exact rfl))))
       ·intro e1 w1 hb hp hun
        refine Ops.g rfl rfl rfl (Ops.mi rfl rfl rfl (Ops.n (d0 (by exact rfl))))
       ·intro e1 w1 hb hp hun
        refine Ops.g rfl rfl rfl (Ops.idx (hri.later hb).2 rfl rfl rfl (by omega) (by omega) (Ops.n (d0 (by exact rfl))))
       ·intro e1 w1 hb hp hun
        refine Ops.g rfl rfl rfl (Ops.ld_int (hri.later hb) rfl (by omega) rfl rfl (Ops.n (d0 (by exact rfl))))
       ·intro e1 w1 hb hp hun
        refine Ops.g rfl rfl rfl (Ops.idx (hrk'.later hb).2 rfl rfl rfl (by omega) (by omega) (Ops.n (d0 (by exact rfl))))
       ·intro e1 w1 hb hp hun
        refine Ops.g rfl rfl rfl (Ops.ld_int (hrk'.later hb) rfl (by omega) rfl rfl (Ops.n (d0 (by exact rfl))))
       ·intro e1 w1 hb hp hun
        refine Ops.g rfl rfl rfl (Ops.ms rfl rfl rfl (Ops.n (d0 (by exact rfl))))
       ·intro e1 w1 hb hp hun
        refine Ops.g rfl rfl rfl (Ops.ms rfl rfl rfl (Ops.n (d0 (by exact rfl))))
       ·intro e1 w1 hb hp hun
        refine Ops.g rfl rfl rfl (Ops.mi rfl rfl rfl (Ops.n (d0 (by exact rfl))))
       ·intro e1 w1 hb hp hun
        refine Ops.g rfl rfl rfl (Ops.idx (hrk'.later hb).2 rfl rfl rfl (by omega) (by omega) (Ops.n (d0 (by exact rfl))))
       ·intro e1 w1 hb hp hun
        refine Ops.g rfl rfl rfl (Ops.ld_int (hrk'.later hb) rfl (by omega) rfl rfl (Ops.n (d0 (by exact rfl))))
       ·intro e1 w1 hb hp hun
        refine Ops.g rfl rfl rfl (Ops.idx (hri.later hb).2 rfl rfl rfl (by omega) (by omega) (Ops.n (d0 (by exact rfl))))
       ·intro e1 w1 hb hp hun
        refine Ops.g rfl rfl rfl (Ops.ld_int (hri.later hb) rfl (by omega) rfl rfl (Ops.n (d0 (by exact rfl))))
       ·intro e1 w1 hb hp hun
        refine Ops.g rfl rfl rfl (Ops.neq rfl rfl rfl (Ops.n ?_))
        exact d0 (by exact congrArg Value.bool (decide_eq_true h9))
       ·intro e1 w1 hb hp hun
        refine Ops.pick_f rfl rfl rfl (Ops.n (d0 (by exact rfl)))
       intro u w6 hb6 _
       have hS6 := hS5.later hb6
       refine tQ (Cd.cond_t rfl (Cd.seq (Cd.region (Ops.mb rfl rfl rfl (Ops.n (tQ (Cd.ret (blockQ_r (thenQ_r ?_)))))))))
       refine thenQ_r (blockQ_r (blockQ_r (thenQ_r (thenQ_r (blockQ_r (blockQ_r (thenQ_r (thenQ_r (blockQ_r ?_)))))))))
       refine thenQ_r (ret1_b rfl ?_)
       exact ⟨by rw [decide_eq_false (fun h : Mani xss => h9 (h.2.2.2.1 i (by omega) k (by omega) hik f (by omega)).1)], hS6.none⟩
    ·refine Cd.exit (thenQ_x (thenQ_x (blockQ_x (blockQ_n (tQ (Cd.region (Ops.add rfl rfl rfl (by omega) (Ops.mi rfl rfl rfl (Ops.n ?_)))))))))
     refine tQ ?_
     refine ⟨j + 1, by omega, ⟨rfl, rfl, rfl, rfl, rfl, rfl, rfl, rfl, trivial⟩, hS5, by omega, fun k' hk' hkn hik' f' hf' => ?_⟩
     by_cases ek : k' = k
     ·subst ek; exact hC5 f' (by omega)
     ·exact hC4 k' (by omega) hkn hik' f' hf'
   ·refine Cd.exit (thenQ_x (thenQ_x (blockQ_x (blockQ_n (tQ (Cd.region (Ops.add rfl rfl rfl (by omega) (Ops.mi rfl rfl rfl (Ops.n ?_)))))))))
    refine tQ ?_
    refine ⟨i + 1, by omega, ⟨rfl, rfl, rfl, rfl, trivial⟩, hS4, by omega, fun i' hi' k' hk' hik' f' hf' => ?_⟩
    by_cases ei : i' = i
    ·subst ei; exact hC4 k' (by omega) hk' hik' f' hf'
    ·exact hC i' (by omega) k' hk' hik' f' hf'
  ·have hB := hS3.rd 0 rfl
   refine Cd.exit (thenQ_x (thenQ_x (blockQ_x (tQ (Cd.seq ?_)))))
   refine Cd.draw [.ex (.int .i64 (((rg rs 0).n : Int))), .ex (.pointer (ptrAt (Ab) 0)), .ex (.slice (A) (n) (c)), .pr (fun v _ => ∃ A', v = .tuple #[.slice A' (gl xss 0).length (gl xss 0).length, .int .i64 (lab (gl xss 0).length xss (gl xss 0).length).2]), .pr (fun v _ => ∃ A', v = .tuple #[.slice A' (gl xss 0).length (gl xss 0).length, .int .i64 (lab (gl xss 0).length xss (gl xss 0).length).2]), .pr (fun v _ => ∃ A', v = .slice A' (gl xss 0).length (gl xss 0).length), .ex (.int .i64 ((lab (gl xss 0).length xss (gl xss 0).length).2)), .pr (fun v _ => ∃ A', v = .slice A' (gl xss 0).length (gl xss 0).length), .ex (.int .i64 ((lab (gl xss 0).length xss (gl xss 0).length).2))] (by kernel_rfl) (by kernel_rfl) rfl (lx (lx (lx (List.forall_mem_cons.2 ⟨Yd.lasts_pr (fun _ _ _ h _ => h), (List.forall_mem_cons.2 ⟨Yd.lasts_pr (fun _ _ _ h _ => h), (List.forall_mem_cons.2 ⟨Yd.lasts_pr (fun _ _ _ h _ => h), (lx (List.forall_mem_cons.2 ⟨Yd.lasts_pr (fun _ _ _ h _ => h), (lx (fun _ h => by cases h))⟩))⟩)⟩)⟩)))) ⟨?_, ?_, ?_, ?_, ?_, ?_, ?_, ?_, ?_, trivial⟩ ?_
   ·intro e1 w1 hb hp hun
    refine Ops.call (flags_c _ _ _ _ _ _ _ _ (hB.below hb) rfl (hM.later hb) (by omega)) rfl rfl rfl ?_
    rintro _ w2 ⟨rfl, hst⟩
    subst hst
    refine Ops.n (d0 (by exact rfl))
   ·intro e1 w1 hb hp hun
    refine Ops.fld (hB.below hb) rfl rfl rfl rfl inferInstance (Ops.n (d0 (by exact rfl)))
   ·intro e1 w1 hb hp hun
    refine Ops.ldf_s (hB.below hb) rfl rfl rfl rfl rfl (Ops.n (d0 (by exact rfl)))
   ·intro e1 w1 hb hp hun
    refine Ops.call (orbitLabels_c A n c rs xss (gl xss 0).length _ (hM.later hb) (by omega) hs hr1.inj (by omega)) rfl (by rw [r0]; rfl) rfl ?_
    rintro _ w2 ⟨A', rfl, hst⟩
    refine Ops.n ?_
    exact After.dn hst.below ⟨A', rfl⟩
   ·intro e1 w1 hb hp hun
    obtain ⟨A', h96⟩ := (hp 3 (by decide) rfl _ _ rfl rfl)
    refine Ops.mv_tup rfl (by exact h96) rfl (Ops.n ?_)
    exact After.dn (Below.refl _ _) ⟨A', rfl⟩
   ·intro e1 w1 hb hp hun
    obtain ⟨A', h92⟩ := (hp 4 (by decide) rfl _ _ rfl rfl)
    refine Ops.extract (by exact h92) rfl rfl (Ops.n ?_)
    exact After.dn (Below.refl _ _) ⟨A', rfl⟩
   ·intro e1 w1 hb hp hun
    obtain ⟨A', h92⟩ := (hp 4 (by decide) rfl _ _ rfl rfl)
    refine Ops.extract (by exact h92) rfl rfl (Ops.n (d0 (by exact rfl)))
   ·intro e1 w1 hb hp hun
    obtain ⟨A', h97⟩ := (hp 5 (by decide) rfl _ _ rfl rfl)
    refine Ops.ms rfl (by exact h97) rfl (Ops.n ?_)
    exact After.dn (Below.refl _ _) ⟨A', rfl⟩
   ·intro e1 w1 hb hp hun
    refine Ops.mi rfl rfl rfl (Ops.n (d0 (by exact rfl)))
   intro u w6 hb6 _
   have hS6 := hS3.later hb6
   refine tQ (Cd.seq (Cd.region (Ops.mi rfl rfl rfl (Ops.eql rfl rfl rfl (Ops.mb rfl rfl rfl (Ops.n (tQ (Cd.ret (ret1_b rfl ?_)))))))))
   refine ⟨?_, hS6.none⟩
   congr 1
   have ho := orbit_all hs (by omega)
   have hl := lab_one hs (by omega)
   exact decide_eq_decide.2 ⟨fun h => ⟨by omega, by omega, hr1, fun i' hi' k' hk' hik' f' hf' => hC i' (by omega) k' (by omega) hik' f' hf', ho.2 (hl.1 h)⟩, fun h => hl.2 (ho.1 h.2.2.2.2)⟩
end Go.Proofs.YtbhnfehcpnnjcaaGreatDoor.Vc
/-
 The walks of the desk's small functions. Conditions: as each states them.
-/
namespace Go.Proofs.YtbhnfehcpnnjcaaGreatDoor.Vc
open Go.RowKit
section
variable {P : Program} {N : Nat} {ops : Array Oper} {K : Env → World → Prop} {rest : List Oper} {e : Env} {w : World} {d : Nat} {ty : TypeId} {pos : String} {af : Array Edge} {x y : Operand} {xt yt : TypeId}
end

end Go.Proofs.YtbhnfehcpnnjcaaGreatDoor.Vc
/-
 A statement whose order Go leaves open, with any operations that turn memory: each world's property holds till the next of them. Conditions: as each rule names them.
-/
namespace Go.Proofs.YtbhnfehcpnnjcaaGreatDoor.Vc
open Go.RowKit

def dsl (l : List Oper) : List Nat := l.filterMap (·.dst)
theorem filterMap_inj {α β : Type} (f : α → Option β) : ∀ (l : List α), (l.filterMap f).Nodup → ∀ (i j : Nat) (a b : α) (d : β), l[i]? = some a → l[j]? = some b → f a = some d → f b = some d → i = j
 | [], _, i, j, a, b, d, hi, _, _, _ => by simp at hi
 | x :: l, hn, i, j, a, b, d, hi, hj, ha, hb => by
  have mem : ∀ (k : Nat) (c : α), l[k]? = some c → f c = some d → d ∈ l.filterMap f := fun k c hk hc => List.mem_filterMap.2 ⟨c, List.mem_of_getElem? hk, hc⟩
  cases hx : f x with
  | none =>
   rw [List.filterMap_cons, hx] at hn
   cases i with
   | zero => simp at hi; subst hi; rw [hx] at ha; cases ha
   | succ i =>
    cases j with
    | zero => simp at hj; subst hj; rw [hx] at hb; cases hb
    | succ j => rw [filterMap_inj f l hn i j a b d (by simpa using hi) (by simpa using hj) ha hb]
  | some y =>
   rw [List.filterMap_cons, hx] at hn
   simp only [List.nodup_cons] at hn
   cases i with
   | zero =>
    simp at hi; subst hi
    rw [hx] at ha; cases ha
    cases j with
    | zero => rfl
    | succ j => exact absurd (mem j b (by simpa using hj) hb) hn.1
   | succ i =>
    cases j with
    | zero =>
     simp at hj; subst hj
     rw [hx] at hb; cases hb
     exact absurd (mem i a (by simpa using hi) ha) hn.1
    | succ j => rw [filterMap_inj f l hn.2 i j a b d (by simpa using hi) (by simpa using hj) ha hb]

def valOf (o : Oper) (e : Env) : Value := match o.dst with
 | some d => e d
 | none => undef
def isEx : Yd → Bool
 | .ex _ => true
 | .pr _ => false
def drawOkN (N : Nat) (l : List Oper) (ys : List Yd) (ms : List Nat) : Bool :=
 l.all (fun o => match o.dst with | some d => Nat.blt d N | none => true) && decide ((dsl l).Nodup) && (l.zipIdx.all fun p => (aft p.1).all fun ed => Nat.blt ed.on p.2) && Nat.beq l.length ys.length && (l.zip ys).all (fun p => p.1.dst.isSome || !isEx p.2) && decide ms.Nodup && ms.all (fun m => Nat.blt m l.length) && (ys.zipIdx.all fun p => !(isEx p.1) || !(ms.contains p.2))
def loOf (l : List Oper) (ms : List Nat) (k : Nat) : Nat := ms.countP fun m => ancOf l l.length k m
def hiOf (l : List Oper) (ms : List Nat) (k : Nat) : Nat := ms.countP fun m => !(ancOf l l.length m k) && !(Nat.beq m k)
def phOf (l : List Oper) (ms : List Nat) (k : Nat) : Nat := ms.countP fun m => Nat.beq m k || ancOf l l.length k m
/-- one that turns, in order with all that turn -/
def chainAt (l : List Oper) (ms : List Nat) (m : Nat) : Bool := ms.all fun m' => Nat.beq m' m || ancOf l l.length m m' || ancOf l l.length m' m
def Yd.at_ (c ph : Nat) : Yd → Value → World → Prop
 | .ex v, u, _ => u = v
 | .pr p, u, w => c = ph → p u w
def endFrN : List Oper → List Yd → (Nat → Value) → Nat → List (Nat × Value)
 | o :: l, y :: ys, u, i => match o.dst, y with
  | some d, .ex v => (d, v) :: endFrN l ys u (i + 1)
  | some d, .pr _ => (d, u i) :: endFrN l ys u (i + 1)
  | none, _ => endFrN l ys u (i + 1)
 | _, _, _, _ => []
def depFrN (l : List Oper) (ys : List Yd) : List Edge → List (Nat × Value)
 | [] => []
 | ed :: r => match ys[ed.on]?, (l[ed.on]?).bind (·.dst) with
  | some (.ex v), some d => (d, v) :: depFrN l ys r
  | _, _ => depFrN l ys r

theorem le_of_lo {a b c : Nat} (h : a ≤ c) (e : a = b) : b ≤ c := e ▸ h
theorem le_of_hi {a b c : Nat} (h : c ≤ a) (e : a = b) : c ≤ b := e ▸ h
theorem cc_of {a b c d : Nat} (h : a ≤ c) (k : c ≤ d) (e : a = b) (f : d = b) : c = b := by omega
section
variable {P : Program} {N : Nat} {e : Env} {w : World}
def AfterN (o : Oper) (y : Yd) (e1 : Env) (w1 : World) : Env → World → Prop := fun e2 w2 => Below w1.heap.size w1 w2 ∧ y.holds (valOf o e2) w2 ∧ ∀ j, o.dst ≠ some j → e2 j = e1 j
def AfterT (o : Oper) (y : Yd) (e1 : Env) : Env → World → Prop := fun e2 w2 => y.holds (valOf o e2) w2 ∧ ∀ j, o.dst ≠ some j → e2 j = e1 j
theorem upd_at (e1 : Env) (d : Nat) (v : Value) : upd e1 d v d = v := by unfold upd; rw [Nat.beq_refl]; rfl
theorem upd_ne (e1 : Env) {d j : Nat} (v : Value) (h : j ≠ d) : upd e1 d v j = e1 j := by
 have : Nat.beq j d = false := by
  cases hb : Nat.beq j d with
  | false => rfl
  | true => exact absurd (Nat.eq_of_beq_eq_true hb) h
 unfold upd; rw [this]; rfl
theorem AfterN.dn {o : Oper} {y : Yd} {e1 : Env} {w1 w2 : World} {d : Nat} {v : Value} (hd : o.dst = some d) (hb : Below w1.heap.size w1 w2) (hv : y.holds v w2) : AfterN o y e1 w1 (upd e1 d v) w2 := by
 refine ⟨hb, ?_, fun j hj => upd_ne e1 v (fun h => hj (by rw [hd, h]))⟩
 unfold valOf; rw [hd]
 show y.holds (upd e1 d v d) w2
 rw [upd_at]; exact hv
theorem n0 {o : Oper} {y : Yd} {e1 : Env} {w1 : World} {d : Nat} {v : Value} (hd : o.dst = some d) (hv : y.holds v w1) : AfterN o y e1 w1 (upd e1 d v) w1 := AfterN.dn hd (Below.refl _ _) hv
theorem AfterT.dn {o : Oper} {y : Yd} {e1 : Env} {w2 : World} {d : Nat} {v : Value} (hd : o.dst = some d) (hv : y.holds v w2) : AfterT o y e1 (upd e1 d v) w2 := by
 refine ⟨?_, fun j hj => upd_ne e1 v (fun h => hj (by rw [hd, h]))⟩
 unfold valOf; rw [hd]
 show y.holds (upd e1 d v d) w2
 rw [upd_at]; exact hv
theorem AfterT.st {o : Oper} {y : Yd} {e1 : Env} {w2 : World} (hd : o.dst = none) (hv : y.holds undef w2) : AfterT o y e1 e1 w2 := by
 refine ⟨?_, fun j _ => rfl⟩
 unfold valOf; rw [hd]; exact hv

def StepN (P : Program) (N : Nat) (l : List Oper) (ys : List Yd) (ms : List Nat) (e : Env) (w : World) (i : Nat) (o : Oper) : Prop :=
  ∀ (e1 : Env) (w1 : World) (c : Nat), loOf l ms i ≤ c → c ≤ hiOf l ms i → (c = 0 → Below w.heap.size w w1) →
    (∀ (j : Nat) (y : Yd) (o' : Oper), ancOf l l.length i j = true → ys[j]? = some y → l[j]? = some o' → y.at_ c (phOf l ms j) (valOf o' e1) w1) →
    (∀ (j : Nat) (o' : Oper), l[j]? = some o' → ancOf l l.length j i = true → valOf o' e1 = valOf o' e) →
    (∀ (m : Nat) (y : Yd) (o' : Oper), memb ms m = true → chainAt l ms m = true → phOf l ms m = c → ys[m]? = some y → l[m]? = some o' → y.at_ c (phOf l ms m) (valOf o' e1) w1) →
    bif memb ms i then Ops P N l.toArray (AfterT o (ys.getD i (.pr fun _ _ => True)) (ext (mix e1 e (dsl l)) (depFrN l ys (aft o)))) [o] (ext (mix e1 e (dsl l)) (depFrN l ys (aft o))) w1
    else Ops P N l.toArray (AfterN o (ys.getD i (.pr fun _ _ => True)) (ext (mix e1 e (dsl l)) (depFrN l ys (aft o))) w1) [o] (ext (mix e1 e (dsl l)) (depFrN l ys (aft o))) w1
def StepsN (P : Program) (N : Nat) (l : List Oper) (ys : List Yd) (ms : List Nat) (e : Env) (w : World) : Nat → List Oper → Prop
 | _, [] => True
 | i, o :: r => StepN P N l ys ms e w i o ∧ StepsN P N l ys ms e w (i + 1) r
theorem StepsN.get {l : List Oper} {ys : List Yd} {ms : List Nat} : ∀ {r : List Oper} {i : Nat}, StepsN P N l ys ms e w i r → ∀ k o, r[k]? = some o → StepN P N l ys ms e w (i + k) o
 | [], _, _, k, o, hk => by simp at hk
 | x :: r, i, h, 0, o, hk => by simp at hk; subst hk; exact h.1
 | x :: r, i, h, k + 1, o, hk => by
  have := StepsN.get h.2 k o (by simpa using hk)
  rw [show i + 1 + k = i + (k + 1) by omega] at this
  exact this

theorem depFrN_mt {l : List Oper} {ys : List Yd} {e1 : Env} : ∀ (af : List Edge), (∀ ed ∈ af, ∀ (v : Value) (o' : Oper), ys[ed.on]? = some (.ex v) → l[ed.on]? = some o' → valOf o' e1 = v) → Mt e1 (depFrN l ys af)
 | [], _ => trivial
 | ed :: r, h => by
  have hr := depFrN_mt r (fun x hx => h x (List.mem_cons_of_mem _ hx))
  unfold depFrN
  split
  ·rename_i v d hy hd
   refine ⟨?_, hr⟩
   cases ho : l[ed.on]? with
   | none => rw [ho] at hd; cases hd
   | some o' =>
    rw [ho] at hd
    have hd' : o'.dst = some d := hd
    have := h ed (by simp) v o' hy ho
    unfold valOf at this
    rw [hd'] at this
    exact this
  ·exact hr

theorem endFrN_eq {e1 e : Env} : ∀ (l : List Oper) (ys : List Yd) (i : Nat), l.length = ys.length → (dsl l).Nodup → (∀ (k : Nat) (v : Value) (o : Oper), ys[k]? = some (.ex v) → l[k]? = some o → valOf o e1 = v ∨ o.dst = none) →
  ∃ u : Nat → Value, ext e (endFrN l ys u i) = mix e1 e (dsl l) ∧ (∀ (k : Nat) (o : Oper), l[k]? = some o → u (i + k) = valOf o e1)
 | [], [], i, _, _, _ => ⟨fun _ => undef, by funext j; rfl, fun k o h => by simp at h⟩
 | [], y :: ys, i, hl, _, _ => by simp at hl
 | o :: l, [], i, hl, _, _ => by simp at hl
 | o :: l, y :: ys, i, hl, hn, h => by
  have hn' : (dsl l).Nodup := by
   unfold dsl at hn ⊢
   rw [List.filterMap_cons] at hn
   split at hn
   ·exact hn
   ·exact (List.nodup_cons.1 hn).2
  obtain ⟨u, hu, hu2⟩ := endFrN_eq (e1 := e1) (e := e) l ys (i + 1) (by simpa using hl) hn' (fun k v o' hy ho => h (k + 1) v o' (by simpa using hy) (by simpa using ho))
  have cng : ∀ (l : List Oper) (ys : List Yd) (i : Nat) (u u' : Nat → Value), (∀ k, i ≤ k → u k = u' k) → endFrN l ys u i = endFrN l ys u' i := by
   intro l
   induction l with
   | nil => intros; rfl
   | cons o l ih =>
    intro ys i u u' hk
    cases ys with
    | nil => rfl
    | cons y ys =>
     have h1 := ih ys (i + 1) u u' (fun k hk' => hk k (by omega))
     simp only [endFrN]
     rw [h1, hk i (by omega)]
  have hc := cng l ys (i + 1) (fun k => if k = i then valOf o e1 else u k) u (fun k hk => by show (if k = i then _ else _) = _; rw [if_neg (by omega)])
  refine ⟨fun k => if k = i then valOf o e1 else u k, ?_, fun k o' hk => ?_⟩
  ·cases hd : o.dst with
   | none =>
    have e1' : dsl (o :: l) = dsl l := by unfold dsl; rw [List.filterMap_cons, hd]
    simp only [endFrN, hd, hc, hu, e1']
   | some d =>
    have e1' : dsl (o :: l) = d :: dsl l := by unfold dsl; rw [List.filterMap_cons, hd]
    have hval : valOf o e1 = e1 d := by unfold valOf; rw [hd]
    have hstep : ∀ v, v = e1 d → upd (mix e1 e (dsl l)) d v = mix e1 e (d :: dsl l) := by
     intro v hv
     funext j
     simp only [upd, mix, memb]
     cases hb : Nat.beq j d with
     | true => rw [Nat.eq_of_beq_eq_true hb, hv]; rfl
     | false => rfl
    rw [e1']
    cases y with
    | ex v =>
     have h0 := h 0 v o rfl rfl
     simp only [endFrN, hd, ext, hc, hu]
     refine hstep v ?_
     rcases h0 with h0 | h0
     ·rw [← h0, hval]
     ·rw [hd] at h0; cases h0
    | pr p =>
     simp only [endFrN, hd, ext, hc, hu, if_pos]
     exact hstep _ hval
  ·cases k with
   | zero => simp at hk; subst hk; simp
   | succ k =>
    have := hu2 k o' (by simpa using hk)
    show (if i + (k + 1) = i then _ else u (i + (k + 1))) = _
    rw [if_neg (by omega), ← this]; congr 1; omega

theorem countP_le_of {ms : List Nat} {p q : Nat → Bool} (h : ∀ m ∈ ms, p m = true → q m = true) : ms.countP p ≤ ms.countP q := List.countP_mono_left h

theorem Cd.drawN {id : Nat} {l : List Oper} {Q : Post} (ms : List Nat) (ys : List Yd) (hm : P.follows .mixedOrders = true) (hok : drawOkN N l ys ms = true) (hlasts : ∀ y ∈ ys, y.lasts)
    (hsteps : StepsN P N l ys ms e w 0 l) (hend : ∀ u w1, (ms = [] → Below w.heap.size w w1) → (∀ (k : Nat) (p : Value → World → Prop), ys[k]? = some (Yd.pr p) → phOf l ms k = ms.length → p (u k) w1) → Q .normal (ext e (endFrN l ys u 0)) w1) : Cd P N (.region id l.toArray true) Q e w := .mk' fun a ha => by
  simp only [drawOkN, Bool.and_eq_true, List.all_eq_true, decide_eq_true_eq] at hok
  obtain ⟨⟨⟨⟨⟨⟨⟨h1, h2⟩, h3⟩, hlen⟩, hnone⟩, hmn⟩, hml⟩, hmy⟩ := hok
  have hlen' : l.length = ys.length := Nat.eq_of_beq_eq_true hlen
  have hback : ∀ (i : Nat) (o : Oper), l[i]? = some o → ∀ ed ∈ aft o, ed.on < i := by
    intro i o ho ed hed
    have := h3 (o, i) (by
      obtain ⟨hi, hio⟩ := List.getElem?_eq_some_iff.1 ho
      rw [List.mem_iff_getElem?]
      exact ⟨i, by simp [ho]⟩)
    simpa [Nat.blt_eq] using this ed hed
  have hdN : ∀ (i : Nat) (o : Oper) (d : Nat), l[i]? = some o → o.dst = some d → d < N := by
    intro i o d ho hd
    have := h1 o (List.mem_of_getElem? ho)
    rw [hd] at this
    simpa [Nat.blt_eq] using this
  have hexd : ∀ (i : Nat) (o : Oper) (v : Value), l[i]? = some o → ys[i]? = some (.ex v) → o.dst ≠ none := by
    intro i o v ho hy hd
    have := hnone (o, .ex v) (by
      rw [List.mem_iff_getElem?]
      exact ⟨i, by rw [List.getElem?_zip_eq_some]; exact ⟨ho, hy⟩⟩)
    simp [hd, isEx] at this
  have hmpr : ∀ (m : Nat) (y : Yd), m ∈ ms → ys[m]? = some y → ∃ p, y = .pr p := by
    intro m y hmm hy
    have := hmy (y, m) (by
      obtain ⟨hi, hio⟩ := List.getElem?_eq_some_iff.1 hy
      rw [List.mem_iff_getElem?]
      exact ⟨m, by simp [hy]⟩)
    cases y with
    | ex v => simp [isEx, hmm] at this
    | pr p => exact ⟨p, rfl⟩
  refine wp_region_any hm ?_
  let cnt : Array Bool → Nat := fun listed => ms.countP fun m => listed.getD m false
  have key : ∀ (fuel : Nat) (listed : Array Bool) (a1 : Act) (e1 : Env) (w1 : World), Rep N a1 e1 → (cnt listed = 0 → Below w.heap.size w w1) → (∀ j, memb (dsl l) j = false → e1 j = e j) → listed.size = l.length →
      (∀ (i : Nat) (y : Yd) (o : Oper), listed.getD i false = true → ys[i]? = some y → l[i]? = some o → y.at_ (cnt listed) (phOf l ms i) (valOf o e1) w1) → (∀ (i : Nat) (o : Oper), listed.getD i false = true → l[i]? = some o → ∀ ed ∈ aft o, listed.getD ed.on false = true) → (∀ (i : Nat) (o : Oper), listed.getD i false = false → l[i]? = some o → valOf o e1 = valOf o e) → (l.length - fuel ≤ (List.range l.length).countP fun i => listed.getD i false) →
      wpAny P .any l.toArray (low N Q) fuel listed a1 w1 := by
    have hfin : ∀ (listed : Array Bool) (a1 : Act) (e1 : Env) (w1 : World), Rep N a1 e1 → (cnt listed = 0 → Below w.heap.size w w1) → (∀ j, memb (dsl l) j = false → e1 j = e j) →
        (∀ (i : Nat) (y : Yd) (o : Oper), listed.getD i false = true → ys[i]? = some y → l[i]? = some o → y.at_ (cnt listed) (phOf l ms i) (valOf o e1) w1) → (∀ i, i < l.length → listed.getD i false = true) → low N Q .normal a1 w1 := by
      intro listed a1 e1 w1 hr hb hag hS hall
      have hcnt : cnt listed = ms.length := by
        show ms.countP _ = ms.length
        rw [List.countP_eq_length]
        intro m hmm
        exact hall m (by simpa [Nat.blt_eq] using hml m hmm)
      obtain ⟨u, hu, hu2⟩ := endFrN_eq (e1 := e1) (e := e) l ys 0 hlen' h2 (fun k v o hy ho => .inl (hS k _ o (hall k (List.getElem?_eq_some_iff.1 ho).1) hy ho))
      refine ⟨e1, hr, ?_⟩
      have := hend u w1 (fun h0 => hb (by rw [hcnt, h0]; rfl)) (fun k p hk hph => by
        have hkl : k < l.length := by rw [hlen']; exact (List.getElem?_eq_some_iff.1 hk).1
        have h5 := hS k _ l[k] (hall k hkl) hk (List.getElem?_eq_getElem hkl)
        have h6 := hu2 k l[k] (List.getElem?_eq_getElem hkl)
        rw [Nat.zero_add] at h6
        rw [h6]; exact h5 (by rw [hcnt, hph]))
      rw [hu, mix_eq hag] at this
      exact this
    have hready : ∀ (listed : Array Bool), listed.size = l.length → Region.ready .any l.toArray listed = [] → ∀ i, i < l.length → listed.getD i false = true := by
      intro listed hsz hnil i
      induction i using Nat.strongRecOn with
      | _ i ih =>
        intro hi
        cases hli : listed.getD i false with
        | true => rfl
        | false =>
          exfalso
          have : i ∈ Region.ready .any l.toArray listed := by
            rw [mem_ready]
            refine ⟨?_, l[i], by simp [hi], fun ed hed hbd => ih ed.on (hback i _ (List.getElem?_eq_getElem hi) ed (mem_aft.2 ⟨hed, hbd⟩)) (by have := hback i _ (List.getElem?_eq_getElem hi) ed (mem_aft.2 ⟨hed, hbd⟩); omega)⟩
            rw [Array.getD_eq_getD_getElem?, Array.getElem?_eq_getElem (by omega)] at hli ⊢
            exact hli
          rw [hnil] at this
          cases this
    intro fuel
    induction fuel with
    | zero =>
      intro listed a1 e1 w1 hr hb hag hsz hS hcl hun0 hcnt
      have hall : ∀ i, i < l.length → listed.getD i false = true := by
        have h4 : (List.range l.length).countP (fun i => listed.getD i false) = (List.range l.length).length := by
          have := List.countP_le_length (p := fun i => listed.getD i false) (l := List.range l.length)
          simp at this hcnt ⊢; omega
        rw [List.countP_eq_length] at h4
        intro i hi
        exact h4 i (by simpa using hi)
      refine ⟨?_, hfin listed a1 e1 w1 hr hb hag hS hall⟩
      rw [List.eq_nil_iff_forall_not_mem]
      intro i hi
      obtain ⟨h5, o, ho, _⟩ := mem_ready.1 hi
      have hil : i < l.length := by
        rcases Nat.lt_or_ge i l.length with h | h
        · exact h
        · simp [List.getElem?_eq_none h] at ho
      have h6 := hall i hil
      rw [Array.getD_eq_getD_getElem?, Array.getElem?_eq_getElem (by omega)] at h5 h6
      simp at h5 h6
      rw [h5] at h6; cases h6
    | succ fuel ih =>
      intro listed a1 e1 w1 hr hb hag hsz hS hcl hun0 hcnt
      refine ⟨fun hnil => hfin listed a1 e1 w1 hr hb hag hS (hready listed hsz hnil), fun i hi => ?_⟩
      obtain ⟨hun, o, ho, haf⟩ := mem_ready.1 hi
      have ho' : l[i]? = some o := by simpa using ho
      have hil : i < l.length := (List.getElem?_eq_some_iff.1 ho').1
      have hrd : ∀ ed ∈ aft o, listed.getD ed.on false = true := fun ed hed => haf ed (mem_aft.1 hed).1 (mem_aft.1 hed).2
      have hun' : listed.getD i false = false := by
        have h5 := hun
        rw [Array.getD_eq_getD_getElem?, Array.getElem?_eq_getElem (by omega)] at h5 ⊢
        exact h5
      have hgs : ∀ k, (listed.setIfInBounds i true).getD k false = if k = i then true else listed.getD k false := by
        intro k
        rw [Array.getD_eq_getD_getElem?, Array.getElem?_setIfInBounds]
        by_cases hki : k = i
        · subst hki; rw [if_pos rfl, if_pos (by omega), if_pos rfl]; rfl
        · rw [if_neg (fun e => hki e.symm), if_neg hki, ← Array.getD_eq_getD_getElem?]
      have hlo : loOf l ms i ≤ cnt listed := countP_le_of fun m _ h => ancOf_ready hcl ho' hrd _ _ h
      have hhi : cnt listed ≤ hiOf l ms i := countP_le_of fun m _ h => by
        have hne : Nat.beq m i = false := by
          cases hb : Nat.beq m i with
          | false => rfl
          | true => rw [Nat.eq_of_beq_eq_true hb, hun'] at h; cases h
        have han : ancOf l l.length m i = false := by
          cases hb : ancOf l l.length m i with
          | false => rfl
          | true => have := ancOf_listed hcl _ _ _ hb h; rw [hun'] at this; cases this
        simp [hne, han]
      have hph : ∀ (j : Nat), listed.getD j false = true → phOf l ms j ≤ cnt listed := fun j hj => countP_le_of fun m _ h => by
        rw [Bool.or_eq_true] at h
        rcases h with h | h
        · rw [Nat.eq_of_beq_eq_true h]; exact hj
        · exact ancOf_listed hcl _ _ _ h hj
      have hst := hsteps.get i o ho' e1 w1 (cnt listed)
      rw [Nat.zero_add] at hst
      have hst := hst hlo hhi hb (fun j y o' han hy hoj => hS j y o' (ancOf_ready hcl ho' hrd _ _ han) hy hoj) (fun j o' hj han => by
        refine hun0 j o' ?_ hj
        cases hlj : listed.getD j false with
        | false => rfl
        | true => have := ancOf_listed hcl _ _ _ han hlj; rw [hun'] at this; cases this) (fun m y o' hm hch hphm hy hom => by
        refine hS m y o' ?_ hy hom
        cases hlm : listed.getD m false with
        | true => rfl
        | false =>
          exfalso
          have h8 := countP_one (fun k => listed.getD k false) (fun k => if k = m then true else listed.getD k false) m hlm (fun k => rfl) ms hmn (memb_iff.1 hm)
          have h9 : ms.countP (fun k => if k = m then true else listed.getD k false) ≤ phOf l ms m := countP_le_of fun m' hm' h => by
            by_cases e : m' = m
            · rw [e, Nat.beq_refl]; rfl
            · rw [if_neg e] at h
              simp only [chainAt, List.all_eq_true] at hch
              have h10 := hch m' hm'
              cases h11 : ancOf l l.length m m' with
              | true => rw [Bool.or_true]
              | false =>
                rw [h11, Bool.or_false, Bool.or_eq_true] at h10
                rcases h10 with h10 | h10
                · exact absurd (Nat.eq_of_beq_eq_true h10) e
                · have := ancOf_listed hcl _ _ _ h10 h
                  rw [hlm] at this; cases this
          have h12 : ms.countP (fun k => listed.getD k false) = cnt listed := rfl
          omega)
      rw [mix_eq hag, ext_of_mt (depFrN_mt (aft o) (fun ed hed v o' hy hoj => hS ed.on _ o' (hrd ed hed) hy hoj))] at hst
      let turns : Prop := memb ms i = true
      let KK : Env → World → Prop := fun e2 w2 => (memb ms i = false → Below w1.heap.size w1 w2) ∧ (ys.getD i (.pr fun _ _ => True)).holds (valOf o e2) w2 ∧ ∀ j, o.dst ≠ some j → e2 j = e1 j
      have hwl' : ∃ K : Env → World → Prop, (∀ e2 w2, K e2 w2 → KK e2 w2) ∧ Ops P N l.toArray K [o] e1 w1 := by
        cases hmi : memb ms i with
        | true =>
          rw [hmi] at hst
          exact ⟨_, fun e2 w2 h => ⟨fun h0 => (by rw [hmi] at h0; cases h0), h.1, h.2⟩, hst⟩
        | false =>
          rw [hmi] at hst
          exact ⟨_, fun e2 w2 h => ⟨fun _ => h.1, h.2.1, h.2.2⟩, hst⟩
      obtain ⟨K, hKK, hst'⟩ := hwl'
      have hwl := hst'.run a1 hr
      have hcnt' : cnt (listed.setIfInBounds i true) = if memb ms i = true then cnt listed + 1 else cnt listed := by
        show ms.countP _ = _
        by_cases hmi : memb ms i = true
        · rw [if_pos hmi]
          exact countP_one (fun m => listed.getD m false) (fun m => (listed.setIfInBounds i true).getD m false) i hun' hgs ms hmn (memb_iff.1 hmi)
        · rw [if_neg hmi]
          refine List.countP_congr fun m hmm => ?_
          rw [hgs, if_neg (fun e => hmi (memb_iff.2 (by rw [← e]; exact hmm)))]
      have hnext : ∀ a2 w2, (∃ e2, Rep N a2 e2 ∧ K e2 w2) → wpAny P .any l.toArray (low N Q) fuel (listed.setIfInBounds i true) a2 w2 := by
        intro a2 w2 ⟨e2, hr2, hK2⟩
        obtain ⟨hbl, hy2, hag2⟩ := hKK _ _ hK2
        have hother : ∀ (k : Nat) (o' : Oper), l[k]? = some o' → k ≠ i → valOf o' e2 = valOf o' e1 := by
          intro k o' hok hki
          unfold valOf
          cases hd : o'.dst with
          | none => rfl
          | some d => exact hag2 d (fun h => hki (filterMap_inj _ l h2 k i o' o d hok ho' hd h))
        refine ih _ a2 e2 w2 hr2 (fun h0 => ?_) (fun j hj => ?_) (by simpa using hsz) (fun k y o' hk hy hok => ?_) (fun k o' hk hok ed hed => ?_) (fun k o' hk hok => ?_) ?_
        · rw [hcnt'] at h0
          by_cases hmi : memb ms i = true
          · rw [if_pos hmi] at h0; omega
          · rw [if_neg hmi] at h0
            have := hbl (by simpa using hmi)
            exact (hb h0).trans (this.mono (hb h0).size)
        · have hne : o.dst ≠ some j := by
            intro hd
            have : memb (dsl l) j = true := by rw [memb_iff]; exact List.mem_filterMap.2 ⟨o, List.mem_of_getElem? ho', hd⟩
            rw [this] at hj; cases hj
          rw [hag2 j hne]; exact hag j hj
        · by_cases hki : k = i
          · subst hki
            rw [ho'] at hok
            cases hok
            have : ys.getD k (.pr fun _ _ => True) = y := by simp [List.getD_eq_getElem?_getD, hy]
            rw [this] at hy2
            cases y with
            | ex v => exact hy2
            | pr p => exact fun _ => hy2
          · have hk' : listed.getD k false = true := by rw [hgs, if_neg hki] at hk; exact hk
            have h7 := hS k y o' hk' hy hok
            rw [hother k o' hok hki]
            cases y with
            | ex v => exact h7
            | pr p =>
              intro hc
              rw [hcnt'] at hc
              by_cases hmi : memb ms i = true
              · rw [if_pos hmi] at hc
                have := hph k hk'
                omega
              · rw [if_neg hmi] at hc
                have hl := hlasts _ (List.mem_of_getElem? hy)
                exact hl _ _ _ (h7 hc) (hbl (by simpa using hmi))
        · rw [hgs]
          by_cases hei : ed.on = i
          · rw [if_pos hei]
          · rw [if_neg hei]
            by_cases hki : k = i
            · subst hki
              rw [ho'] at hok; cases hok
              exact hrd ed hed
            · rw [hgs, if_neg hki] at hk
              exact hcl k o' hk hok ed hed
        · rw [hgs] at hk
          by_cases hki : k = i
          · rw [if_pos hki] at hk; cases hk
          · rw [if_neg hki] at hk
            rw [hother k o' hok hki]
            exact hun0 k o' hk hok
        · have hcount : (List.range l.length).countP (fun k => (listed.setIfInBounds i true).getD k false) = (List.range l.length).countP (fun k => listed.getD k false) + 1 :=
            countP_one (fun k => listed.getD k false) (fun k => (listed.setIfInBounds i true).getD k false) i hun' hgs _ List.nodup_range (by simpa using hil)
          rw [hcount]; omega
      unfold wpOp
      rw [ho]
      unfold wpList at hwl
      show if _ then _ else _
      by_cases hw : Region.wanted o (yielded l.toArray a1.tmps) = true
      · rw [if_pos hw] at hwl ⊢
        rcases hwl with h5 | ⟨_, a0, w0, h5⟩
        · refine .inl (Oper.wp_conv h5 (fun a2 w2 hx => ?_) (fun x a w hx hq => hx hq.1))
          exact hnext a2 w2 hx.2
        · exact absurd h5.1 (by simp)
      · rw [if_neg hw] at hwl ⊢
        exact hnext _ _ hwl.2
  refine key l.length (Array.replicate l.length false) a e _ ha (fun _ => ⟨⟨rfl, rfl, rfl, Nat.le_refl _, fun _ _ => rfl⟩, fun _ => Nat.le_add_right _ _⟩) (fun _ _ => rfl) (by simp) (fun i y o hi => ?_) (fun i o hi => ?_) (fun _ _ _ _ => rfl) (by omega)
  · exfalso
    rw [Array.getD_eq_getD_getElem?, Array.getElem?_replicate] at hi
    split at hi <;> simp at hi
  · exfalso
    rw [Array.getD_eq_getD_getElem?, Array.getElem?_replicate] at hi
    split at hi <;> simp at hi
end
end Go.Proofs.YtbhnfehcpnnjcaaGreatDoor.Vc
/-
 Structs built, slices of structs, comparisons with nil, rows of a matrix turned. Conditions: as each rule names them.
-/
namespace Go.Proofs.YtbhnfehcpnnjcaaGreatDoor.Vc
open Go.RowKit
section
variable {P : Program} {N : Nat} {ops : Array Oper} {K : Env → World → Prop} {rest : List Oper} {e : Env} {w0 w w' : World} {ks : List Ck} {d : Nat} {ty : TypeId} {pos : String} {af : Array Edge}

theorem Ops.bld1 {t : TypeId} {f0 : Field} {z0 zf : Value} {b bf : Nat} [Und P t (.struct #[f0])] [Inf P t (.agg #[z0]) 1 b] {x0 : Operand} {v0 : Value} (hI : Inf P f0.type zf 1 bf) (ho : f0.offset = 0) (h0 : ev e x0 = v0) (c0 : v0.oneCell' = true) (hb : Nat.blt d N = true)
    (hK : Ops P N ops K rest (upd e d (.agg #[v0])) w) : Ops P N ops K (⟨some d, .build t #[(0, x0)], ty, pos, af, none⟩ :: rest) e w := by
  obtain ⟨inf, hi, hz0, hs, hby⟩ := Inf.get P t
  obtain ⟨inf', hi', hz0', hs', hby'⟩ := hI.get P f0.type
  have e0 : v0.cells = #[v0] := by cases v0 <;> simp [Value.oneCell'] at c0 <;> rfl
  have ez : (Value.agg #[z0]).cells = #[z0] := rfl
  refine .val (w' := w) ?_ hb hK
  simp [execOp, Instr.build, run_underlying (Und.out (P := P) (t := t)), sizeOf, typeInfo, zeroValue, hi, hz0, hi', hs', ho, h0, e0, ez, Instr.fill]

theorem Ops.maxI {x y : Operand} {t t' : TypeId} {i j : Int} (hx : ev e x = .int .i64 i) (hy : ev e y = .int .i64 j) (hb : Nat.blt d N = true) (hK : Ops P N ops K rest (upd e d (.int .i64 (max i j))) w) :
  Ops P N ops K (⟨some d, .call ⟨.builtin .max, #[x, y], #[t, t']⟩, ty, pos, af, none⟩ :: rest) e w := by
 have hm : (if i < j then j else i) = max i j := by split <;> omega
 refine .val (w' := w) ?_ hb hK
 simp [execOp, resolve, invoke, builtin, hx, hy, Builtin.max_, Builtin.max2, hm]

theorem Ops.eqNil {t t' el : TypeId} [Und P t (.slice el)] {x y : Operand} {A : Option Addr} {n c : Nat} (hx : ev e x = .slice A n c) (hy : ev e y = .slice none 0 0) (hb : Nat.blt d N = true) (hK : Ops P N ops K rest (upd e d (.bool A.isNone)) w) :
  Ops P N ops K (⟨some d, .binOp .eql t x y t', ty, pos, af, none⟩ :: rest) e w := by
 have hr : (Op.equal t (.slice A n c) (.slice none 0 0)).run P w = .ok A.isNone w := by
  show (Op.equalIn (9999 + 1) t (.slice A n c) (.slice none 0 0)).run P w = _
  rw [Op.equalIn]
  cases A <;> simp [run_underlying (Und.out (P := P) (t := t))]
 exact .val (by simp [execOp, hx, hy, eqGuard, binOp, hr]) hb hK
end

/-! a row of a matrix of one's own -/
theorem rowsCk_set {t : TypeId} : ∀ {rs : List SlV} {xss : List (List Int)} {i : Nat} {xs : List Int}, rs.length = xss.length → i < rs.length → (rowsCk t rs xss).set i (CkI t (rs.getD i slNil).a (rs.getD i slNil).n (rs.getD i slNil).c xs) = rowsCk t rs (xss.set i xs)
 | [], _, _, _, _, h => by simp at h
 | r :: rs, [], _, _, h, _ => by simp at h
 | r :: rs, x :: xss, 0, xs, _, _ => rfl
 | r :: rs, x :: xss, i + 1, xs, h, hi => by
  have := rowsCk_set (t := t) (rs := rs) (xss := xss) (i := i) (xs := xs) (by simpa using h) (by simpa using hi)
  simpa [rowsCk] using this
theorem mat_get {t1 t2 : TypeId} {A : Option Addr} {n c : Nat} {rs : List SlV} {xss : List (List Int)} {pre ks : List Ck} {i : Nat} (hr : rs.length = xss.length) (hi : i < rs.length) :
    (pre ++ (mat t1 t2 A n c rs xss ++ ks))[pre.length + 1 + i]? = some (CkI t2 (rs.getD i slNil).a (rs.getD i slNil).n (rs.getD i slNil).c (xss.getD i [])) := by
  rw [List.getElem?_append_right (by omega), show pre.length + 1 + i - pre.length = i + 1 by omega, List.getElem?_append_left (by simp [mat, rowsCk_length hr]; omega)]
  simpa [mat] using rowsCk_get (t := t2) hr hi
theorem mat_set {t1 t2 : TypeId} {A : Option Addr} {n c : Nat} {rs : List SlV} {xss : List (List Int)} {pre ks : List Ck} {i : Nat} {xs : List Int} (hr : rs.length = xss.length) (hi : i < rs.length) :
    (pre ++ (mat t1 t2 A n c rs xss ++ ks)).set (pre.length + 1 + i) (CkI t2 (rs.getD i slNil).a (rs.getD i slNil).n (rs.getD i slNil).c xs) = pre ++ (mat t1 t2 A n c rs (xss.set i xs) ++ ks) := by
  rw [List.set_append_right _ _ (by omega), show pre.length + 1 + i - pre.length = i + 1 by omega, List.set_append_left _ _ (by simp [mat, rowsCk_length hr]; omega)]
  congr 2
  simp only [mat, List.set_cons_succ]
  rw [rowsCk_set hr hi]

section
variable {P : Program} {N : Nat} {ops : Array Oper} {K : Env → World → Prop} {rest : List Oper} {e : Env} {w0 w w' : World} {ks pre : List Ck} {ty : TypeId} {pos : String} {af : Array Edge}
/-- a store into row i of a matrix of one's own -/
theorem Ops.st_row {t t1 t2 : TypeId} {z : Value} {b : Nat} [Inf P t z 1 b] {a x : Operand} {A : Option Addr} {n c : Nat} {rs : List SlV} {xss : List (List Int)} (i : Nat) {f u : Int} (hS : St w0 w (pre ++ (mat t1 t2 A n c rs xss ++ ks))) (hr : rs.length = xss.length) (hi : i < rs.length) (ha : ev e a = .pointer (ptrAt (rg rs i).a f.toNat)) (hx : ev e x = .int .i64 u) (hj : f.toNat < (rg rs i).n)
    (hK : ∀ w', St w0 w' (pre ++ (mat t1 t2 A n c rs (xss.set i ((gl xss i).set f.toNat u)) ++ ks)) → Ops P N ops K rest e w') : Ops P N ops K (⟨none, .store t a x, ty, pos, af, none⟩ :: rest) e w :=
  .st_int (pre.length + 1 + i) hS (mat_get hr hi) ha hx hj fun w' h => hK w' (by
    have e1 : gl xss i = xss.getD i [] := by simp [gl]
    rw [e1, ← mat_set (pre := pre) (ks := ks) hr hi]; exact h)
end

/-- whole matrices, each told by its slice, its rows' slices, and its numbers -/
structure MatV where
 top : SlV
 rs : List SlV
 xss : List (List Int)
def MatV.ok (m : MatV) : Prop := m.xss.length = m.top.n
def MatV.cks (t1 t2 : TypeId) (m : MatV) : List Ck := mat t1 t2 m.top.a m.top.n m.top.c m.rs m.xss
def matsCk (t1 t2 : TypeId) (ms : List MatV) : List Ck := ms.flatMap (MatV.cks t1 t2)
end Go.Proofs.YtbhnfehcpnnjcaaGreatDoor.Vc
/-
 The walks of copies and of the reference's tests of partial moves. Conditions: as each states them.
-/
namespace Go.Proofs.YtbhnfehcpnnjcaaGreatDoor.Vc
open Go.RowKit

theorem l01Own_c (A : Option Addr) (n c : Nat) (xs : List Int) (w : World) (hR : RdI w A n xs) (hn : n ≤ 1000000000) : Ret Tryz.prog 48 [.slice A n c] w (fun v w' => ∃ A' c', v = .slice A' n c' ∧ St w w' [CkI 2 A' n c' xs]) := by
 refine Ret.of_cd Tryz.func48 rfl Tryz.ntmps48 rfl (post1 rfl) (Cd.seq (Cd.region (Ops.ms rfl rfl rfl (Ops.n (tQ (Cd.seq (Cd.region (Ops.bs0 (St.refl w) rfl ?_))))))))
 intro A1 w1 hS1
 have hS1 : St w w1 [CkI 2 A1 0 0 []] := hS1
 refine Ops.ms rfl rfl rfl (Ops.appI 0 hS1 rfl (hS1.oldI hR) rfl rfl rfl (by omega) (by omega) rfl ?_)
 intro A2 c2 w2 hS2
 rw [Nat.zero_add] at hS2 ⊢
 refine Ops.ms rfl rfl rfl (Ops.n (tQ (Cd.ret (ret1_s rfl ?_))))
 exact ⟨A2, c2, rfl, hS2⟩

theorem l01Own2_c (A : Option Addr) (n c : Nat) (rs : List SlV) (xss : List (List Int)) (w : World) (hR : RowsI w A n rs xss) (hn : n ≤ 1000000000) (hr : ∀ i, i < n → (rs.getD i slNil).n ≤ 1000000000) :
  Ret Tryz.prog 33 [.slice A n c] w (fun v w' => ∃ A' c' rs', v = .slice A' n c' ∧ rs'.length = n ∧ St w w' (mat 28 2 A' n c' rs' xss)) := by
 refine Ret.of_cd Tryz.func33 rfl Tryz.ntmps33 rfl (post1 rfl) (Cd.seq (Cd.region (Ops.ms rfl rfl rfl (Ops.n (tQ (Cd.seq (Cd.region (Ops.bs0 (St.refl w) rfl ?_))))))))
 intro A1 w1 hS1
 have hS1 : St w w1 [CkR 28 A1 0 0 []] := hS1
 refine Ops.ms rfl rfl rfl (Ops.n (tQ (Cd.seq (Cd.seq (Cd.region (Ops.mi rfl rfl rfl (Ops.n (tQ (Cd.block ?_)))))))))
 refine Cd.loop (α := Nat × Option Addr × Nat × List SlV) (fun s => [(0, .slice A n c), (3, .slice s.2.1 s.1 s.2.2.1), (4, .int .i64 (s.1 : Int))]) (fun s w' => St w w' (CkR 28 s.2.1 s.1 s.2.2.1 s.2.2.2 :: rowsCk 2 s.2.2.2 (xss.take s.1)) ∧ s.1 ≤ n ∧ s.2.2.2.length = s.1) (fun s => n - s.1) (0, A1, 0, []) ⟨rfl, rfl, rfl, trivial⟩ ⟨hS1, Nat.zero_le _, rfl⟩ ?_
 rintro ⟨k, A3, c3, rs1⟩ e w2 ⟨hS2, hk, hlen⟩
 dsimp only at hS2 hk hlen ⊢
 refine Cd.seq (Cd.seq (Cd.region (Ops.mi rfl rfl rfl (Ops.ms rfl rfl rfl (Ops.len rfl rfl (Ops.lss rfl rfl rfl (Ops.n (tQ ?_))))))))
 refine Cd.cond_p _ rfl (fun h1 => ?_) (fun h1 => ?_)
 ·have hk' : k < n := by omega
  have hx : k < xss.length := by rw [hR.len]; exact hk'
  refine Cd.skip (tQ (Cd.seq (Cd.block (Cd.region (Ops.ms rfl rfl rfl (Ops.ms rfl rfl rfl (Ops.mi rfl rfl rfl (Ops.idx (hS2.oldR hR.top).2 rfl rfl rfl (by omega) h1 (Ops.ld_sl (hS2.oldR hR.top) rfl (by omega) rfl rfl ?_)))))))))
  refine Ops.call (l01Own_c _ _ _ _ _ (hS2.oldI (hR.at_ (i := k) (by omega) h1)) (hr k hk')) rfl rfl rfl ?_
  rintro _ w3 ⟨A4, c4, rfl, hS3⟩
  have hS3 := hS2.call hS3
  refine Ops.bs1R hS3 rfl rfl rfl ?_
  intro A5 w4 hS4
  refine Ops.appR 2 hS4 rfl (hS4.rdR 0 rfl) rfl rfl rfl (by omega) (by omega) rfl ?_
  intro A6 c6 w5 hS5
  refine Ops.ms rfl rfl rfl (Ops.n (blockQ_n (tQ (Cd.region (Ops.mi rfl rfl rfl (Ops.add rfl rfl rfl (by omega) (Ops.mi rfl rfl rfl (Ops.n (tQ ?_)))))))))
  refine ⟨(k + 1, A6, c6, rs1 ++ [⟨A4, (rg rs k).n, c4⟩]), by show n - (k + 1) < n - k; omega, ⟨rfl, rfl, rfl, trivial⟩, ?_, hk', by simp [hlen]⟩
  have e2 : gl xss k = xss[k] := by simp [gl, List.getD_eq_getElem?_getD, List.getElem?_eq_getElem hx]
  show St w w5 (CkR _ A6 (k + 1) c6 (rs1 ++ [_]) :: rowsCk _ (rs1 ++ [_]) (xss.take (k + 1)))
  rw [List.take_succ_eq_append_getElem hx, rowsCk_append (by simp [hlen]; omega)]
  have h5 : St w w5 (CkI 2 A4 (rg rs k).n c4 (gl xss k) :: CkR 28 A6 (k + 1) c6 (rs1 ++ [⟨A4, (rg rs k).n, c4⟩]) :: rowsCk 2 rs1 (xss.take k)) := hS5.tail
  rw [e2] at h5
  refine h5.perm ?_
  refine (List.Perm.swap _ _ _).trans (List.Perm.cons _ ?_)
  exact List.perm_append_comm (l₁ := [_])
 ·refine Cd.exit (thenQ_x (thenQ_x (blockQ_x (tQ (Cd.seq (Cd.region (Ops.ms rfl rfl rfl (Ops.ms rfl rfl rfl (Ops.n ?_)))))))))
  refine tQ (Cd.ret (ret1_s rfl ?_))
  have : k = n := by omega
  subst this
  rw [← hR.len, List.take_length] at hS2
  exact ⟨A3, c3, rs1, rfl, hlen, by rw [← hR.len]; exact hS2⟩

/-- partial moves whose numbers are flags, or below 0 -/
def Rng (n F : Nat) (M : List (List Int)) : Prop := ∀ (i : Nat) (f : Int), i < n → 0 ≤ f → f < F → cell M i f < F
end Go.Proofs.YtbhnfehcpnnjcaaGreatDoor.Vc
/-
 The walk of the reference's search for rooted forms. Conditions: as each states them.
-/
namespace Go.Proofs.YtbhnfehcpnnjcaaGreatDoor.Vc
open Go.RowKit

/-- what the loop over g has found -/
def body (n F : Nat) (ok : List (List Int) → Nat → Nat → Bool) (fin : List (List Int) → Bool) (k at_ met : Nat) (M : List (List Int)) (g : Nat) : List (List (List Int)) :=
 if 0 ≤ cell M (at_ % n) (g : Nat) then [] else if ok (put M (at_ % n) (at_ / n) g) (at_ % n) (at_ / n) = true then grow n F ok fin k (at_ + 1) (max met (g + 1)) (put M (at_ % n) (at_ / n) g) else []
end Go.Proofs.YtbhnfehcpnnjcaaGreatDoor.Vc
/-
 The walk of the reference's search for rooted forms. Conditions: as each states them.
-/
namespace Go.Proofs.YtbhnfehcpnnjcaaGreatDoor.Vc
open Go.RowKit

end Go.Proofs.YtbhnfehcpnnjcaaGreatDoor.Vc
/-
 Plain mathematics: how many rooted forms there can be. Conditions: as each states them. No program in sight.
-/
namespace Go.Proofs.YtbhnfehcpnnjcaaGreatDoor.Vc

def dft : Nat → Nat
 | 0 => 1
 | 1 => 0
 | u + 2 => (u + 1) * dft u
def prod : List Nat → Nat
 | [] => 1
 | x :: l => x * prod l
def phi (M : List (List Int)) : Nat := prod (M.map fun p => dft (unl p))
theorem prod_set : ∀ (l : List Nat) (i k x : Nat) (h : i < l.length), l[i] = k * x → prod l = k * prod (l.set i x)
 | [], i, _, _, h, _ => by simp at h
 | y :: l, 0, k, x, _, e => by
  simp at e; subst e
  simp [prod, Nat.mul_assoc]
 | y :: l, i + 1, k, x, h, e => by
  have := prod_set l i k x (by simpa using h) (by simpa using e)
  simp only [prod, List.set_cons_succ, this]
  rw [Nat.mul_left_comm]
theorem prod_one : ∀ (l : List Nat), (∀ x ∈ l, x = 1) → prod l = 1
 | [], _ => rfl
 | x :: l, h => by simp [prod, h x (by simp), prod_one l (fun y hy => h y (by simp [hy]))]

theorem sum_le {α : Type} (f : Nat → List α) (p : Nat → Bool) (X : Nat) : ∀ (l : List Nat), (∀ g ∈ l, (f g).length ≤ if p g = true then X else 0) → (l.flatMap f).length ≤ l.countP p * X
 | [], _ => by simp
 | g :: l, h => by
  have h1 := h g (by simp)
  have h2 := sum_le f p X l (fun x hx => h x (by simp [hx]))
  rw [List.flatMap_cons, List.length_append, List.countP_cons]
  by_cases hp : p g = true
  ·rw [if_pos hp] at h1 ⊢
   rw [Nat.add_mul, Nat.one_mul]; omega
  ·rw [if_neg hp] at h1 ⊢
   rw [Nat.add_zero]
   omega

/-- the unknown places of a row behind one that is unknown -/
theorem behind_le {p : List Int} {q c : Nat} (hq : q < p.length) (hn : gi p q < 0) (hc : q + 1 + c ≤ p.length) : (List.range' (q + 1) c).countP (fun g => decide (gi p (g : Nat) < 0)) + 1 ≤ unl p := by
 have e1 : (List.range' (q + 1) c).map (fun g => gi p (g : Nat)) = (p.drop (q + 1)).take c := by
  apply List.ext_getElem
  ·simp; omega
  ·intro i h1 h2
   have hi : i < c := by simpa using h1
   rw [List.getElem_map, List.getElem_range', gi_mem (by omega)]
   simp
 have e2 : (List.range' (q + 1) c).countP (fun g => decide (gi p (g : Nat) < 0)) = ((p.drop (q + 1)).take c).countP (fun x => decide (x < 0)) := by
  rw [← e1, List.countP_map]; rfl
 have e3 : ((p.drop (q + 1)).take c).countP (fun x => decide (x < 0)) ≤ (p.drop (q + 1)).countP (fun x => decide (x < 0)) := (List.take_sublist _ _).countP_le
 have e4 : unl p = (p.take (q + 1)).countP (fun x => decide (x < 0)) + (p.drop (q + 1)).countP (fun x => decide (x < 0)) := by
  unfold unl
  rw [← List.countP_append, List.take_append_drop]
 have e5 : 0 < (p.take (q + 1)).countP (fun x => decide (x < 0)) := List.countP_pos_iff.2 ⟨gi p q, by rw [take_succ_gi hq]; simp, by simpa using hn⟩
 omega

section
variable {n F : Nat} {M : List (List Int)} {met at_ : Nat}
theorem phi_put (h : Shp n F M) {r q g : Nat} (hr : r < n) (hq : q < F) (hg : g < F) (hqg : q ≠ g) (h1 : cell M r q < 0) (h2 : cell M r g < 0) {u : Nat} (hu : unl (gl M r) = u + 2) : phi (put M r q g) = prod ((M.map fun p => dft (unl p)).set r (dft u)) ∧ phi M = (u + 1) * prod ((M.map fun p => dft (unl p)).set r (dft u)) := by
 have hl := h.1
 have hrow := h.row hr
 have hp1 : unl ((gl M r).set q (g : Int)) + 1 = unl (gl M r) := by
  have := unl_set (L := gl M r) (x := (q : Int)) (c := (g : Int)) (by omega) (by omega) h1 (by omega)
  rwa [Int.toNat_natCast] at this
 have e2 : gi ((gl M r).set q (g : Int)) g = gi (gl M r) g := by
  have := gi_set (S := gl M r) (x := (q : Int)) (y := (g : Int)) (b := (g : Int)) (by omega) (by omega) (by omega)
  rw [Int.toNat_natCast, if_neg (by omega)] at this
  exact this
 have hp2 : unl (((gl M r).set q (g : Int)).set g (q : Int)) + 1 = unl ((gl M r).set q (g : Int)) := by
  have := unl_set (L := (gl M r).set q (g : Int)) (x := (g : Int)) (c := (q : Int)) (by omega) (by simp; omega) (by rw [e2]; exact h2) (by omega)
  rwa [Int.toNat_natCast] at this
 have hu2 : unl (((gl M r).set q (g : Int)).set g (q : Int)) = u := by omega
 have hput : put M r q g = M.set r (((gl M r).set q (g : Int)).set g (q : Int)) := by
  unfold put setc
  rw [gl_set (by omega), if_pos rfl, List.set_set]
 have hgr : M[r]'(by omega) = gl M r := (gl_mem (by omega)).symm
 unfold phi
 rw [hput, List.map_set, hu2]
 refine ⟨rfl, ?_⟩
 refine prod_set _ r (u + 1) (dft u) (by simp; omega) ?_
 rw [List.getElem_map, hgr, hu]; rfl

theorem grow_le_phi : ∀ (k at_ met : Nat) (M : List (List Int)), Inv n F M met at_ → (grow n F (fun _ _ _ => true) (fun _ => true) k at_ met M).length ≤ phi M
 | 0, _, _, _, _ => by simp [grow]
 | k + 1, at_, met, M, h => by
  simp only [grow]
  split
  ·rename_i ha
   split
   ·rename_i hm
    have hm1 := hm.1
    subst hm1
    have hI : Inv n met M met (met * n) := by rw [← ha]; exact h
    have : phi M = 1 := prod_one _ (fun x hx => by
     obtain ⟨p, hp, rfl⟩ := List.mem_map.1 hx
     obtain ⟨i, hi, rfl⟩ := List.mem_iff_getElem.1 hp
     have hin : i < n := by rw [← h.shp.1]; exact hi
     have e : M[i] = gl M i := (gl_mem hi).symm
     have : unl M[i] = 0 := by
      rw [e]
      refine List.countP_eq_zero.2 fun x hx => ?_
      obtain ⟨j, hj, rfl⟩ := List.mem_iff_getElem.1 hx
      have := hI.full (i := i) (f := (j : Int)) hin (by omega) (by rw [h.shp.row hin] at hj; omega)
      rw [← gi_mem hj]
      have h3 : 0 ≤ gi (gl M i) (j : Int) := this
      simp; omega
     rw [this]; rfl)
    simp [this]
   ·simp
  ·rename_i ha
   split
   ·rename_i hk
    exact grow_le_phi k _ _ _ (h.next ha hk)
   ·rename_i hk
    have hp := h.pos ha
    have hF := h.metF
    have hrow := h.shp.row hp.1
    have hqF : at_ / n < F := by omega
    have hrg := fun g hg => range_mem h ha (g := g) hg
    have hput := fun g (h1 : at_ / n < g) (h2 : g ≤ met) (h3 : g < F) h4 => h.put ha hk (g := g) h1 h2 h3 h4
    generalize hr : at_ % n = r at *
    generalize hq : at_ / n = q at *
    have hkn : gi (gl M (r : Nat)) (q : Nat) < 0 := Int.not_le.1 hk
    have hm1 := h.met1
    have hbeh := behind_le (p := gl M (r : Nat)) (q := q) (c := min met (F - 1) - q) (by omega) hkn (by omega)
    obtain ⟨u, hu⟩ : ∃ u, unl (gl M (r : Nat)) = u + 1 := ⟨unl (gl M (r : Nat)) - 1, by omega⟩
    refine Nat.le_trans (sum_le _ (fun g => decide (gi (gl M (r : Nat)) (g : Nat) < 0)) (prod ((M.map fun p => dft (unl p)).set r (dft (u - 1)))) _ (fun g hg => ?_)) ?_
    ·have hgr := hrg g hg
     by_cases hgc : 0 ≤ cell M r (g : Nat)
     ·rw [if_pos hgc]; exact Nat.zero_le _
     ·have hgn : gi (gl M (r : Nat)) (g : Nat) < 0 := Int.not_le.1 hgc
      rw [if_neg hgc, if_pos trivial, if_pos (decide_eq_true hgn)]
      have hcnt : 0 < (List.range' (q + 1) (min met (F - 1) - q)).countP (fun g => decide (gi (gl M (r : Nat)) (g : Nat) < 0)) := List.countP_pos_iff.2 ⟨g, hg, decide_eq_true hgn⟩
      obtain ⟨u', rfl⟩ : ∃ u', u = u' + 1 := ⟨u - 1, by omega⟩
      have hphi := phi_put h.shp hp.1 hqF hgr.2.2 (by omega) (by omega) (by omega) hu
      rw [show u' + 1 - 1 = u' by omega, ← hphi.1]
      exact grow_le_phi k _ _ _ (hput g hgr.1 hgr.2.1 hgr.2.2 hgc)
    ·by_cases hu0 : u = 0
     ·have : (List.range' (q + 1) (min met (F - 1) - q)).countP (fun g => decide (gi (gl M (r : Nat)) (g : Nat) < 0)) = 0 := by omega
      rw [this, Nat.zero_mul]; exact Nat.zero_le _
     ·obtain ⟨u', rfl⟩ : ∃ u', u = u' + 1 := ⟨u - 1, by omega⟩
      rw [show u' + 1 - 1 = u' by omega]
      have hfac : phi M = (u' + 1) * prod ((M.map fun p => dft (unl p)).set r (dft u')) := by
       unfold phi
       have hl := h.shp.1
       refine prod_set _ r (u' + 1) (dft u') (by simp; omega) ?_
       rw [List.getElem_map, show M[r]'(by omega) = gl M r from (gl_mem (by omega)).symm, hu]; rfl
      rw [hfac]
      exact Nat.mul_le_mul_right _ (by omega)

/-- two moves that should commute meet at flag 0 -/
def bad0 (n : Nat) (M : List (List Int)) : Bool := (List.range n).any fun i => (List.range n).any fun k => decide (i + 2 ≤ k ∧ 0 ≤ cell M i 0 ∧ cell M i 0 = cell M k 0)
/-- a bound that looks at j places first -/
def wt (n F : Nat) : Nat → Nat → Nat → List (List Int) → Nat
 | 0, _, _, M => if bad0 n M = true then 0 else phi M
 | j + 1, at_, met, M =>
  if at_ = met * n then 1
  else if 0 ≤ cell M (at_ % n) (at_ / n : Nat) then wt n F j (at_ + 1) met M
  else ((List.range' (at_ / n + 1) (min met (F - 1) - at_ / n)).map fun g => if 0 ≤ cell M (at_ % n) (g : Nat) then 0 else wt n F j (at_ + 1) (max met (g + 1)) (put M (at_ % n) (at_ / n) g)).sum

theorem forms_bad (h : Inv n F M met at_) (hb : bad0 n M = true) (k : Nat) : forms n F k at_ met M = [] := by
 unfold forms
 rw [List.filter_eq_nil_iff]
 intro L hL hV
 have h1 := grow_leaf k _ _ _ h L hL
 have hV := of_decide_eq_true hV
 simp only [bad0, List.any_eq_true, decide_eq_true_eq, List.mem_range] at hb
 obtain ⟨i, hi, k', hk', hik, h0, he⟩ := hb
 have hF : 0 < F := by have := h.met1; have := h.metF; omega
 have h2 := hV.cells h1.2 hi hk' hik (f := 0) (by omega) (by omega)
 rw [h1.1 i 0 hi (by omega) (by omega) h0, h1.1 k' 0 hk' (by omega) (by omega) (by rw [← he]; exact h0)] at h2
 exact h2.2 he
theorem sum_le2 {α : Type} (f : Nat → List α) (c : Nat → Nat) : ∀ (l : List Nat), (∀ g ∈ l, (f g).length ≤ c g) → (l.flatMap f).length ≤ (l.map c).sum
 | [], _ => by simp
 | g :: l, h => by
  have h1 := h g (by simp)
  have h2 := sum_le2 f c l (fun x hx => h x (by simp [hx]))
  rw [List.flatMap_cons, List.length_append, List.map_cons, List.sum_cons]
  omega
end

end Go.Proofs.YtbhnfehcpnnjcaaGreatDoor.Vc
/-
 The walks of the reference's list of rooted forms and of its count. Conditions: as each states them.
-/
namespace Go.Proofs.YtbhnfehcpnnjcaaGreatDoor.Vc
open Go.RowKit

def Small (rank flags : Int) : Prop := (1 ≤ rank ∧ rank ≤ 4) ∧ (2 ≤ flags ∧ flags ≤ 12)
instance (rank flags : Int) : Decidable (Small rank flags) := by unfold Small; exact inferInstance
/-- the answer: how many, and the code -/
def cnt1 (rank flags : Int) : Int := if Small rank flags then ((forms rank.toNat flags.toNat (flags.toNat * rank.toNat + 1) 0 1 (blank rank.toNat flags.toNat)).length : Int) else 0
def cnt2 (rank flags : Int) : Int := if Small rank flags then 0 else 2
end Go.Proofs.YtbhnfehcpnnjcaaGreatDoor.Vc
/-
 The walks of the program's copies and of its test of a move. Conditions: as each states them.
-/
namespace Go.Proofs.YtbhnfehcpnnjcaaGreatDoor.Vc
open Go.RowKit

theorem Clone_c (A : Option Addr) (n c : Nat) (xs : List Int) (w : World) (hR : RdI w A n xs) (hn : n ≤ 1000000000) : Ret Tryz.prog 42 [.slice A n c] w (fun v w' => ∃ A' c', v = .slice A' n c' ∧ St w w' [CkI 2 A' n c' xs]) := by
 cases hA : A with
 | none =>
  subst hA
  have hn0 : n = 0 := by
   apply Classical.byContradiction
   intro h
   obtain ⟨p, hp, _⟩ := hR.2 0 (by omega)
   simp [ptrAt] at hp
  subst hn0
  have hx : xs = [] := List.eq_nil_of_length_eq_zero hR.1
  subst hx
  refine Ret.of_cd Tryz.func42 rfl Tryz.ntmps42 rfl (post1 rfl) (Cd.seq (Cd.region (Ops.ms rfl rfl rfl (Ops.n (tQ (Cd.seq (Cd.seq (Cd.region (Ops.ms rfl rfl rfl ?_)))))))))
  refine Ops.eqNil rfl rfl rfl (Ops.n (tQ (Cd.cond_t rfl (Cd.seq (Cd.region (Ops.ms rfl rfl rfl (Ops.n (tQ (Cd.ret ?_)))))))))
  refine thenQ_r (ret1_s rfl ?_)
  exact ⟨none, 0, rfl, (St.refl w).nil _⟩
 | some a =>
  subst hA
  refine Ret.of_cd Tryz.func42 rfl Tryz.ntmps42 rfl (post1 rfl) (Cd.seq (Cd.region (Ops.ms rfl rfl rfl (Ops.n (tQ (Cd.seq (Cd.seq (Cd.region (Ops.ms rfl rfl rfl ?_)))))))))
  refine Ops.eqNil rfl rfl rfl (Ops.n (tQ (Cd.cond_f rfl (Cd.skip (tQ (Cd.seq (Cd.region (Ops.bs0 (St.refl w) rfl ?_))))))))
  intro A1 w1 hS1
  have hS1 : St w w1 [CkI 2 A1 0 0 []] := hS1
  refine Ops.ms rfl rfl rfl (Ops.appI 0 hS1 rfl (hS1.oldI hR) rfl rfl rfl (by omega) (by omega) rfl ?_)
  intro A2 c2 w2 hS2
  rw [Nat.zero_add] at hS2 ⊢
  refine Ops.ms rfl rfl rfl (Ops.n (tQ (Cd.ret (ret1_s rfl ?_))))
  exact ⟨A2, c2, rfl, hS2⟩

end Go.Proofs.YtbhnfehcpnnjcaaGreatDoor.Vc
/-
 The walks of the reference's forms. Conditions: as each states them.
-/
namespace Go.Proofs.YtbhnfehcpnnjcaaGreatDoor.Vc
open Go.RowKit

section
variable {P : Program} {N : Nat} {ops : Array Oper} {K : Env → World → Prop} {rest : List Oper} {e : Env} {w : World} {d : Nat} {ty : TypeId} {pos : String} {af : Array Edge}
theorem Ops.bld0 {t : TypeId} {f0 : Field} {z0 zf : Value} {b bf : Nat} [Und P t (.struct #[f0])] [Inf P t (.agg #[z0]) 1 b] (hI : Inf P f0.type zf 1 bf) (hb : Nat.blt d N = true)
    (hK : Ops P N ops K rest (upd e d (.agg #[z0])) w) : Ops P N ops K (⟨some d, .build t #[], ty, pos, af, none⟩ :: rest) e w := by
  obtain ⟨inf, hi, hz0, hs, hby⟩ := Inf.get P t
  obtain ⟨inf', hi', hz0', hs', hby'⟩ := hI.get P f0.type
  have ez : (Value.agg #[z0]).cells = #[z0] := rfl
  refine .val (w' := w) ?_ hb hK
  simp [execOp, Instr.build, run_underlying (Und.out (P := P) (t := t)), sizeOf, typeInfo, zeroValue, hi, hz0, hs, hi', hs', ez, Instr.fill]
end

theorem l02Renumber_c (A : Option Addr) (n c : Nat) (rs : List SlV) (xss : List (List Int)) (N : Nat) (Ap : Option Addr) (cp : Nat) (p : List Int) (w : World) (hR : RowsI w A n rs xss) (hn : n ≤ 1000000) (hs : Sys N xss) (hN : N ≤ 1000000) (hP : RdI w Ap N p) (hp : ∀ x : Int, 0 ≤ x → x < N → 0 ≤ gi p x ∧ gi p x < N) :
    Ret Tryz.prog 111 [.agg #[.slice A n c], .slice Ap N cp] w (fun v w' => ∃ A' c' rs', v = .agg #[.slice A' n c'] ∧ rs'.length = n ∧ St w w' (mat 28 2 A' n c' rs' (xss.map (renI N p)))) := by
  have hpl := hP.1
  have hxl := hR.len
  refine Ret.of_cd Tryz.func111 rfl Tryz.ntmps111 rfl (postc rfl rfl) (Cd.seq (Cd.region (Ops.box1 (St.refl w) rfl rfl ?_)))
  intro Ab w1 hS1
  refine Ops.new1 hS1 rfl ?_
  intro Ac w2 hS2
  refine Ops.n (tQ (Cd.seq (Cd.region (Ops.bld0 (by exact inferInstance) rfl (Ops.new1 hS2 rfl ?_)))))
  intro Ad w3 hS3
  refine Ops.st_agg 1 0 hS3 rfl rfl rfl rfl rfl rfl rfl ?_
  intro w4 hS4
  have hS4 : St w w4 (Bx 26 1 Ad [.slice none 0 0] :: Bx 26 1 Ac [.slice none 0 0] :: Bx 26 1 Ab [.slice A n c] :: []) := hS4
  have hS0 : St w w4 (Bx 26 1 Ad [.slice none 0 0] :: Bx 26 1 Ac [.slice none 0 0] :: Bx 26 1 Ab [.slice A n c] :: CkR 28 none 0 0 [] :: []) :=
    (hS4.nil 28).perm (List.perm_append_comm (l₁ := [_]) (l₂ := [_, _, _]))
  refine Ops.n (tQ (Cd.seq (Cd.seq (Cd.region (Ops.mi rfl rfl rfl (Ops.n (tQ (Cd.block ?_))))))))
  refine Cd.loop (α := Nat × Option Addr × Nat × List SlV) (fun s => [(1, .slice Ap N cp), (2, .pointer Ab), (4, .pointer Ac), (5, .pointer Ad), (6, .int .i64 (s.1 : Int))]) (fun s w' => St w w' (Bx 26 1 Ad [.slice s.2.1 s.1 s.2.2.1] :: Bx 26 1 Ac [.slice none 0 0] :: Bx 26 1 Ab [.slice A n c] :: CkR 28 s.2.1 s.1 s.2.2.1 s.2.2.2 :: rowsCk 2 s.2.2.2 ((xss.map (renI N p)).take s.1)) ∧ s.1 ≤ n ∧ s.2.2.2.length = s.1) (fun s => n - s.1) (0, none, 0, []) ⟨rfl, rfl, rfl, rfl, rfl, trivial⟩ ⟨hS0, Nat.zero_le _, rfl⟩ ?_
  rintro ⟨i, A3, c3, rs1⟩ e w5 ⟨hS5, hi, hlen⟩
  dsimp only at hS5 hi hlen ⊢
  refine Cd.seq (Cd.seq (Cd.region (Ops.mi rfl rfl rfl (Ops.fld (hS5.rd 2 rfl) rfl rfl rfl rfl inferInstance (Ops.ldf_s (hS5.rd 2 rfl) rfl rfl rfl rfl rfl (Ops.len rfl rfl (Ops.lss rfl rfl rfl (Ops.n (tQ ?_)))))))))
  refine Cd.cond_p _ rfl (fun h1 => ?_) (fun h1 => ?_)
  · have hi' : i < n := by omega
    have hx : i < xss.length := by omega
    refine Cd.skip (tQ (Cd.seq (Cd.block (Cd.seq (Cd.region (Ops.ms rfl rfl rfl (Ops.len rfl rfl (Ops.mkI N hS5 rfl rfl (by omega) ?_))))))))
    intro A7 w6 hS6
    refine Ops.ms rfl rfl rfl (Ops.n (tQ (Cd.seq (Cd.seq (Cd.region (Ops.mi rfl rfl rfl (Ops.n (tQ (Cd.block ?_)))))))))
    have e2 : gl xss i = xss[i] := by simp [gl, List.getD_eq_getElem?_getD, List.getElem?_eq_getElem hx]
    have hmv := hs (gl xss i) (gl_in (by omega) (by omega))
    refine Cd.loop (α := Nat) (fun k => [(1, .slice Ap N cp), (2, .pointer Ab), (4, .pointer Ac), (5, .pointer Ad), (6, .int .i64 (i : Int)), (7, .slice A7 N N), (8, .int .i64 (k : Int))]) (fun k w' => St w w' (CkI 2 A7 N N (scat (List.replicate N 0) (fun f => gi p f) (fun f => gi p (gi (gl xss i) f)) k) :: Bx 26 1 Ad [.slice A3 i c3] :: Bx 26 1 Ac [.slice none 0 0] :: Bx 26 1 Ab [.slice A n c] :: CkR 28 A3 i c3 rs1 :: rowsCk 2 rs1 ((xss.map (renI N p)).take i)) ∧ k ≤ N) (fun k => N - k) 0 ⟨rfl, rfl, rfl, rfl, rfl, rfl, rfl, trivial⟩ ⟨hS6, Nat.zero_le _⟩ ?_
    rintro k e w7 ⟨hS7, hk⟩
    have hM := hS7.oldRows hR
    have hP7 := hS7.oldI hP
    refine Cd.seq (Cd.seq (Cd.region (Ops.mi rfl rfl rfl (Ops.ms rfl rfl rfl (Ops.len rfl rfl (Ops.lss rfl rfl rfl (Ops.n (tQ ?_))))))))
    refine Cd.cond_p _ rfl (fun h2 => ?_) (fun h2 => ?_)
    · have hrow := hM.at_ (i := (i : Int)) (by omega) h1
      have hrn := hM.rowLen (k := (i : Int)) (by omega) h1
      have hv := hmv.2 (k : Int) (by omega) (by omega)
      have hpk := hp (k : Int) (by omega) (by omega)
      have hpv := hp _ hv.1 hv.2
      have hml := hmv.1
      have hB := hS7.rd 3 rfl
      have hO := hS7.rdI 0 rfl
      have hlt : (gi p (k : Int)).toNat < N := by omega
      refine Cd.skip (tQ (Cd.seq (Cd.block ?_)))
      refine Cd.drawN [17] [.ex (.slice (A7) (N) (N)), .ex (.slice (Ap) (N) (cp)), .ex (.int .i64 ((k : Int))), .ex (.pointer (ptrAt (Ap) ((k : Int)).toNat)), .ex (.int .i64 (gi (p) ((k : Int)))), .ex (.slice (Ap) (N) (cp)), .ex (.pointer (ptrAt (Ab) 0)), .ex (.slice (A) (n) (c)), .ex (.int .i64 ((i : Int))), .ex (.pointer (ptrAt (A) ((i : Int)).toNat)), .ex (.slice ((rg (rs) ((i : Int))).a) ((rg (rs) ((i : Int))).n) ((rg (rs) ((i : Int))).c)), .ex (.int .i64 ((k : Int))), .ex (.pointer (ptrAt ((rg (rs) ((i : Int))).a) ((k : Int)).toNat)), .ex (.int .i64 (gi (gl xss (i : Int)) ((k : Int)))), .ex (.pointer (ptrAt (Ap) (gi (gl xss (i : Int)) ((k : Int))).toNat)), .ex (.int .i64 (gi (p) (gi (gl xss (i : Int)) ((k : Int))))), .ex (.pointer (ptrAt (A7) (gi (p) ((k : Int))).toNat)), .pr (fun _ w' => St w w' (CkI 2 A7 N N (scat (List.replicate N 0) (fun f => gi p f) (fun f => gi p (gi (gl xss i) f)) (k + 1)) :: Bx 26 1 Ad [.slice A3 i c3] :: Bx 26 1 Ac [.slice none 0 0] :: Bx 26 1 Ab [.slice A n c] :: CkR 28 A3 i c3 rs1 :: rowsCk 2 rs1 ((xss.map (renI N p)).take i)))] (by kernel_rfl) (by kernel_rfl) (lx (lx (lx (lx (lx (lx (lx (lx (lx (lx (lx (lx (lx (lx (lx (lx (lx (List.forall_mem_cons.2 ⟨Yd.lasts_pr (fun v w w' h hb => h.later hb), (fun _ h => by cases h)⟩)))))))))))))))))) ⟨?_, ?_, ?_, ?_, ?_, ?_, ?_, ?_, ?_, ?_, ?_, ?_, ?_, ?_, ?_, ?_, ?_, ?_, trivial⟩ ?_
      · intro e1 w1 cc hlo hhi hb0 hp hun hq
        show Ops _ _ _ _ _ _ _
        refine Ops.ms rfl rfl rfl (Ops.n (n0 rfl (by exact rfl)))
      · intro e1 w1 cc hlo hhi hb0 hp hun hq
        show Ops _ _ _ _ _ _ _
        refine Ops.ms rfl rfl rfl (Ops.n (n0 rfl (by exact rfl)))
      · intro e1 w1 cc hlo hhi hb0 hp hun hq
        show Ops _ _ _ _ _ _ _
        refine Ops.mi rfl rfl rfl (Ops.n (n0 rfl (by exact rfl)))
      · intro e1 w1 cc hlo hhi hb0 hp hun hq
        show Ops _ _ _ _ _ _ _
        obtain rfl := cc_of hlo hhi (b := 0) (by kernel_rfl) (by kernel_rfl); clear hlo hhi
        have hb := hb0 rfl
        refine Ops.idx (hP7.later hb).2 rfl rfl rfl (by omega) (by omega) (Ops.n (n0 rfl (by exact rfl)))
      · intro e1 w1 cc hlo hhi hb0 hp hun hq
        show Ops _ _ _ _ _ _ _
        obtain rfl := cc_of hlo hhi (b := 0) (by kernel_rfl) (by kernel_rfl); clear hlo hhi
        have hb := hb0 rfl
        refine Ops.ld_int (hP7.later hb) rfl (by omega) rfl rfl (Ops.n (n0 rfl (by exact rfl)))
      · intro e1 w1 cc hlo hhi hb0 hp hun hq
        show Ops _ _ _ _ _ _ _
        refine Ops.ms rfl rfl rfl (Ops.n (n0 rfl (by exact rfl)))
      · intro e1 w1 cc hlo hhi hb0 hp hun hq
        show Ops _ _ _ _ _ _ _
        obtain rfl := cc_of hlo hhi (b := 0) (by kernel_rfl) (by kernel_rfl); clear hlo hhi
        have hb := hb0 rfl
        refine Ops.fld (hB.below hb) rfl rfl rfl rfl inferInstance (Ops.n (n0 rfl (by exact rfl)))
      · intro e1 w1 cc hlo hhi hb0 hp hun hq
        show Ops _ _ _ _ _ _ _
        obtain rfl := cc_of hlo hhi (b := 0) (by kernel_rfl) (by kernel_rfl); clear hlo hhi
        have hb := hb0 rfl
        refine Ops.ldf_s (hB.below hb) rfl rfl rfl rfl rfl (Ops.n (n0 rfl (by exact rfl)))
      · intro e1 w1 cc hlo hhi hb0 hp hun hq
        show Ops _ _ _ _ _ _ _
        refine Ops.mi rfl rfl rfl (Ops.n (n0 rfl (by exact rfl)))
      · intro e1 w1 cc hlo hhi hb0 hp hun hq
        show Ops _ _ _ _ _ _ _
        obtain rfl := cc_of hlo hhi (b := 0) (by kernel_rfl) (by kernel_rfl); clear hlo hhi
        have hb := hb0 rfl
        refine Ops.idx (hM.top.later hb).2 rfl rfl rfl (by omega) (by omega) (Ops.n (n0 rfl (by exact rfl)))
      · intro e1 w1 cc hlo hhi hb0 hp hun hq
        show Ops _ _ _ _ _ _ _
        obtain rfl := cc_of hlo hhi (b := 0) (by kernel_rfl) (by kernel_rfl); clear hlo hhi
        have hb := hb0 rfl
        refine Ops.ld_sl (hM.top.later hb) rfl (by omega) rfl rfl (Ops.n (n0 rfl (by exact rfl)))
      · intro e1 w1 cc hlo hhi hb0 hp hun hq
        show Ops _ _ _ _ _ _ _
        refine Ops.mi rfl rfl rfl (Ops.n (n0 rfl (by exact rfl)))
      · intro e1 w1 cc hlo hhi hb0 hp hun hq
        show Ops _ _ _ _ _ _ _
        obtain rfl := cc_of hlo hhi (b := 0) (by kernel_rfl) (by kernel_rfl); clear hlo hhi
        have hb := hb0 rfl
        refine Ops.idx (hrow.later hb).2 rfl rfl rfl (by omega) (by omega) (Ops.n (n0 rfl (by exact rfl)))
      · intro e1 w1 cc hlo hhi hb0 hp hun hq
        show Ops _ _ _ _ _ _ _
        obtain rfl := cc_of hlo hhi (b := 0) (by kernel_rfl) (by kernel_rfl); clear hlo hhi
        have hb := hb0 rfl
        refine Ops.ld_int (hrow.later hb) rfl (by omega) rfl rfl (Ops.n (n0 rfl (by exact rfl)))
      · intro e1 w1 cc hlo hhi hb0 hp hun hq
        show Ops _ _ _ _ _ _ _
        obtain rfl := cc_of hlo hhi (b := 0) (by kernel_rfl) (by kernel_rfl); clear hlo hhi
        have hb := hb0 rfl
        refine Ops.idx (hP7.later hb).2 rfl rfl rfl (by omega) (by omega) (Ops.n (n0 rfl (by exact rfl)))
      · intro e1 w1 cc hlo hhi hb0 hp hun hq
        show Ops _ _ _ _ _ _ _
        obtain rfl := cc_of hlo hhi (b := 0) (by kernel_rfl) (by kernel_rfl); clear hlo hhi
        have hb := hb0 rfl
        refine Ops.ld_int (hP7.later hb) rfl (by omega) rfl rfl (Ops.n (n0 rfl (by exact rfl)))
      · intro e1 w1 cc hlo hhi hb0 hp hun hq
        show Ops _ _ _ _ _ _ _
        obtain rfl := cc_of hlo hhi (b := 0) (by kernel_rfl) (by kernel_rfl); clear hlo hhi
        have hb := hb0 rfl
        refine Ops.idx (hO.later hb).2 rfl rfl rfl (by omega) (by omega) (Ops.n (n0 rfl (by exact rfl)))
      · intro e1 w1 cc hlo hhi hb0 hp hun hq
        show Ops _ _ _ _ _ _ _
        obtain rfl := cc_of hlo hhi (b := 0) (by kernel_rfl) (by kernel_rfl); clear hlo hhi
        have hb := hb0 rfl
        refine Ops.st_int 0 (hS7.later hb) rfl rfl rfl hlt ?_
        intro w9 hst
        refine Ops.n ?_
        exact AfterT.st rfl hst
      intro u w8 _ hu
      have hS8 := hu 17 _ rfl (by kernel_rfl)
      refine blockQ_n (tQ (Cd.region (Ops.mi rfl rfl rfl (Ops.add rfl rfl rfl (by omega) (Ops.mi rfl rfl rfl (Ops.n (tQ ?_)))))))
      exact ⟨k + 1, by show N - (k + 1) < N - k; omega, ⟨rfl, rfl, rfl, rfl, rfl, rfl, rfl, trivial⟩, hS8, by omega⟩
    · have hkN : k = N := by omega
      subst hkN
      refine Cd.exit (thenQ_x (thenQ_x (blockQ_x (tQ (Cd.region (Ops.fld (hS7.rd 1 rfl) rfl rfl rfl rfl inferInstance (Ops.ldf_s (hS7.rd 1 rfl) rfl rfl rfl rfl rfl (Ops.ms rfl rfl rfl (Ops.bs1R hS7 rfl rfl rfl ?_)))))))))
      intro A9 w9 hS9
      refine Ops.appR 5 hS9 rfl (hS9.rdR 0 rfl) rfl rfl rfl (by omega) (by omega) rfl ?_
      intro A10 c10 w10 hS10
      have hS10 := hS10.tail
      refine Ops.fld (hS10.rd 1 rfl) rfl rfl rfl rfl inferInstance (Ops.stf 1 hS10 rfl rfl rfl rfl rfl ?_)
      intro w11 hS11
      have hS11 : St w w11 (CkI 2 A7 k k (renI k p (gl xss i)) :: Bx 26 1 Ad [.slice A10 (i + 1) c10] :: Bx 26 1 Ac [.slice none 0 0] :: Bx 26 1 Ab [.slice A n c] :: CkR 28 A10 (i + 1) c10 (rs1 ++ [⟨A7, k, k⟩]) :: rowsCk 2 rs1 ((xss.map (renI k p)).take i)) := hS11
      refine Ops.n (blockQ_n (tQ (Cd.region (Ops.mi rfl rfl rfl (Ops.add rfl rfl rfl (by omega) (Ops.mi rfl rfl rfl (Ops.n (tQ ?_))))))))
      refine ⟨(i + 1, A10, c10, rs1 ++ [⟨A7, k, k⟩]), by show n - (i + 1) < n - i; omega, ⟨rfl, rfl, rfl, rfl, rfl, trivial⟩, ?_, hi', by simp [hlen]⟩
      show St w w11 (_ :: _ :: _ :: CkR _ A10 (i + 1) c10 (rs1 ++ [_]) :: rowsCk _ (rs1 ++ [_]) ((xss.map (renI k p)).take (i + 1)))
      rw [List.take_succ_eq_append_getElem (by rw [List.length_map]; exact hx), rowsCk_append (by simp [hlen]; omega), List.getElem_map, ← e2]
      refine hS11.perm ?_
      exact List.perm_append_comm (l₁ := [_]) (l₂ := _ :: _ :: _ :: _ :: rowsCk 2 rs1 ((xss.map (renI k p)).take i))
  · refine Cd.exit (thenQ_x (thenQ_x (blockQ_x (tQ (Cd.seq (Cd.region ?_))))))
    have hin : i = n := by omega
    subst hin
    rw [List.take_of_length_le (by rw [List.length_map]; omega)] at hS5
    refine Ops.ld_agg 0 (hS5.rd 0 rfl) rfl rfl rfl (Ops.st_agg 1 1 hS5 rfl rfl rfl rfl rfl rfl rfl ?_)
    intro w6 hS6
    refine Ops.n (tQ (Cd.ret ?_))
    skip
    refine retc_r rfl (hS6.rd 1 rfl) ?_
    exact ⟨A3, c3, rs1, rfl, hlen, hS6.sub (((List.sublist_cons_self _ _).trans (List.sublist_cons_self _ _)).trans (List.sublist_cons_self _ _))⟩
end Go.Proofs.YtbhnfehcpnnjcaaGreatDoor.Vc
/-
 The walks of forms on both sides. Conditions: as each states them.
-/
namespace Go.Proofs.YtbhnfehcpnnjcaaGreatDoor.Vc
open Go.RowKit

end Go.Proofs.YtbhnfehcpnnjcaaGreatDoor.Vc
/-
 The cycles of a list of numbers, by their least points, and lists in ascending order: a plain law, with no program in sight. Conditions: as each states them.
-/
namespace Go.Proofs.YtbhnfehcpnnjcaaGreatDoor.Vc
open Go.RowKit

/-- from x on, till a point comes that was seen -/
def goC (p : List Int) : Nat → Nat → List Bool → List Int × List Bool
 | 0, _, s => ([], s)
 | k + 1, x, s => if gb s (x : Int) = true then ([], s) else ((x : Int) :: (goC p k (gi p x).toNat (s.set x true)).1, (goC p k (gi p x).toNat (s.set x true)).2)

/-- all cycles from some points on -/
def cycs (p : List Int) : List Nat → List Bool → List (List Int)
 | [], _ => []
 | i :: is, s => (if (goC p (s.count false) i s).1 = [] then [] else [(goC p (s.count false) i s).1]) ++ cycs p is (goC p (s.count false) i s).2
/-- the cycles of n points -/
def cyAll (p : List Int) (n : Nat) : List (List Int) := cycs p (List.range n) (List.replicate n false)
def lenAll (p : List Int) (n : Nat) : List Int := (cyAll p n).map fun c => (c.length : Int)
/-! ascending lists -/
def Asc (l : List Int) : Prop := l.Pairwise (· ≤ ·)
def srt (l : List Int) : List Int := l.mergeSort fun x y => decide (x ≤ y)
theorem srt_perm (l : List Int) : (srt l).Perm l := List.mergeSort_perm _ _
theorem srt_asc (l : List Int) : Asc (srt l) := by
 have := List.pairwise_mergeSort (le := fun x y : Int => decide (x ≤ y)) (fun a b c h1 h2 => by simp at h1 h2 ⊢; omega) (fun a b => by simp; omega) l
 exact this.imp fun h => by simpa using h
theorem asc_unique {l l' : List Int} (h : l.Perm l') (h1 : Asc l) (h2 : Asc l') : l = l' :=
 List.Perm.eq_of_pairwise (le := (· ≤ ·)) (fun a b _ _ h1 h2 => by omega) h1 h2 h
/-- a number put in where all ahead are less, and the one there is not -/
theorem asc_put {out : List Int} {a : Nat} {v : Int} (h : Asc out) (ha : a ≤ out.length) (hl : ∀ j : Nat, j < a → gi out (j : Int) < v) (hg : a < out.length → v ≤ gi out (a : Int)) : Asc (out.take a ++ (v :: out.drop a)) := by
 have key : ∀ j (hj : j < out.length), gi out (j : Int) = out[j] := fun j hj => by simp [gi, List.getD_eq_getElem?_getD, List.getElem?_eq_getElem hj]
 have hidx : ∀ i j (hi : i < out.length) (hj : j < out.length), i ≤ j → out[i] ≤ out[j] := fun i j hi hj hij => by
  by_cases e : i = j
  ·subst e; exact Int.le_refl _
  ·exact (List.pairwise_iff_getElem.1 h) i j hi hj (by omega)
 unfold Asc
 rw [List.pairwise_append, List.pairwise_cons]
 refine ⟨h.sublist (List.take_sublist _ _), ⟨fun x hx => ?_, h.sublist (List.drop_sublist _ _)⟩, fun x hx y hy => ?_⟩
 ·obtain ⟨j, hj, rfl⟩ := List.mem_iff_getElem.1 hx
  rw [List.length_drop] at hj
  rw [List.getElem_drop]
  have h1 := hg (by omega)
  rw [key a (by omega)] at h1
  exact Int.le_trans h1 (hidx _ _ (by omega) (by omega) (by omega))
 ·obtain ⟨j, hj, rfl⟩ := List.mem_iff_getElem.1 hx
  rw [List.length_take] at hj
  rw [List.getElem_take]
  have hxv : out[j] < v := by rw [← key j (by omega)]; exact hl j (by omega)
  rcases List.mem_cons.1 hy with rfl | hy
  ·omega
  ·obtain ⟨m, hm, rfl⟩ := List.mem_iff_getElem.1 hy
   rw [List.length_drop] at hm
   rw [List.getElem_drop]
   exact hidx _ _ (by omega) (by omega) (by omega)
theorem put_perm {out : List Int} {a : Nat} {v : Int} : (out.take a ++ (v :: out.drop a)).Perm (out ++ [v]) := by
 have h1 : (out.take a ++ (v :: out.drop a)).Perm (v :: (out.take a ++ out.drop a)) := List.perm_middle
 rw [List.take_append_drop] at h1
 exact h1.trans (List.perm_append_comm (l₁ := [v]))
end Go.Proofs.YtbhnfehcpnnjcaaGreatDoor.Vc
/-
 The walks of the reference's runs of a word over flags, and of the lengths of a word. Conditions: as each states them.
-/
namespace Go.Proofs.YtbhnfehcpnnjcaaGreatDoor.Vc
open Go.RowKit

/-- where a word leads from x -/
def runW (xss : List (List Int)) (x : Int) (ws : List Int) : Int := ws.foldl (fun x i => gi (gl xss i) x) x
/-- what a word does -/
def doesL (xss : List (List Int)) (F : Nat) (ws : List Int) : List Int := (List.range F).map fun x : Nat => runW xss (x : Int) ws
/-- a maniplex with edges -/
def Grph (xss : List (List Int)) : Prop := Mani xss ∧ 2 ≤ xss.length
instance (xss : List (List Int)) : Decidable (Grph xss) := by unfold Grph; exact inferInstance

theorem l18Is_c (A : Option Addr) (n c : Nat) (rs : List SlV) (xss : List (List Int)) (w : World) (hR : RowsI w A n rs xss) (hn : n ≤ 9223372036854775807) :
  Ret Tryz.prog 23 [.agg #[.slice A n c]] w (fun v w' => v = .bool (decide (Grph xss)) ∧ St w w' []) := by
 have hl := hR.len
 refine Ret.of_cd Tryz.func23 rfl Tryz.ntmps23 rfl (post1 rfl) (Cd.seq (Cd.region (Ops.box1 (St.refl w) rfl rfl ?_)))
 intro Ab w1 hS
 refine Ops.mb rfl rfl rfl (Ops.n (tQ (Cd.seq (Cd.region (Ops.ld_agg 0 (hS.rd 0 rfl) rfl rfl rfl (Ops.call (l02Is_c A n c rs xss _ (hS.oldRows hR) hn) rfl rfl rfl ?_))))))
 rintro _ w2 ⟨rfl, hst⟩
 have hS := hS.later hst.below
 refine Ops.mb rfl rfl rfl ?_
 refine Ops.split_p 5 rfl (fun h => ?_) (fun h => ?_)
 ·refine Ops.g rfl rfl rfl (Ops.fld (hS.rd 0 rfl) rfl rfl rfl rfl inferInstance (Ops.g rfl rfl rfl (Ops.ldf_s (hS.rd 0 rfl) rfl rfl rfl rfl rfl (Ops.g rfl rfl rfl (Ops.len rfl rfl (Ops.g rfl rfl rfl (Ops.geq rfl rfl rfl (Ops.pick_t rfl rfl rfl (Ops.mb rfl rfl rfl ?_)))))))))
  refine Ops.n (tQ (Cd.ret (ret1_b rfl ?_)))
  exact ⟨by simp [Grph, h, hl]; omega, hS.none⟩
 ·refine Ops.k rfl rfl rfl rfl rfl (Ops.k rfl rfl rfl rfl rfl (Ops.k rfl rfl rfl rfl rfl (Ops.k rfl rfl rfl rfl rfl (Ops.pick_f rfl rfl rfl (Ops.mb rfl rfl rfl (Ops.n (tQ (Cd.ret (ret1_b rfl ?_)))))))))
  exact ⟨by simp [Grph, h], hS.none⟩

theorem l02Flags_c (A : Option Addr) (n c : Nat) (rs : List SlV) (xss : List (List Int)) (w : World) (hR : RowsI w A n rs xss) (hn : 0 < n) :
  Ret Tryz.prog 68 [.agg #[.slice A n c]] w (fun v w' => v = .int .i64 ((gl xss 0).length : Int) ∧ St w w' []) := by
 refine Ret.of_cd Tryz.func68 rfl Tryz.ntmps68 rfl (post1 rfl) (Cd.seq (Cd.region (Ops.box1 (St.refl w) rfl rfl ?_)))
 intro Ab w1 hS
 have hR1 := hS.oldRows hR
 have e0 : (gl xss 0).length = (rg rs 0).n := hR.rowLen (by omega) (by omega)
 refine Ops.mi rfl rfl rfl (Ops.n (tQ (Cd.seq (Cd.region (Ops.fld (hS.rd 0 rfl) rfl rfl rfl rfl inferInstance (Ops.ldf_s (hS.rd 0 rfl) rfl rfl rfl rfl rfl (Ops.idx hR1.top.2 rfl rfl rfl (by omega) (by omega) (Ops.ld_sl hR1.top rfl (by omega) rfl rfl (Ops.len rfl rfl ?_)))))))))
 refine Ops.mi rfl rfl rfl (Ops.n (tQ (Cd.ret (ret1_i rfl ?_))))
 exact ⟨by rw [e0], hS.none⟩

end Go.Proofs.YtbhnfehcpnnjcaaGreatDoor.Vc
/-
 The walk of the reference's lengths of a word. Conditions: as it states them.
-/
namespace Go.Proofs.YtbhnfehcpnnjcaaGreatDoor.Vc
open Go.RowKit

theorem RdI.drop {w : World} {A : Option Addr} {n c l : Nat} {xs : List Int} (h : RdI w A n xs) (hl : l ≤ n) (hc : n ≤ c) : RdI w (cutAt A c l) (n - l) (xs.drop l) := by
 have := h.cut (l := l) (h := n) (c := c) hl (Nat.le_refl _) hc
 rwa [List.take_of_length_le (by rw [List.length_drop, h.1]; omega)] at this
theorem RdI.take {w : World} {A : Option Addr} {n l : Nat} {xs : List Int} (h : RdI w A n xs) (hl : l ≤ n) : RdI w A l (xs.take l) := by
 have := h.cut (l := 0) (h := l) (c := 0) (Nat.zero_le _) hl
 refine ⟨by rw [List.length_take, h.1]; omega, fun k hk => ?_⟩
 obtain ⟨q, h1, h2⟩ := h.2 k (by omega)
 exact ⟨q, h1, by rw [h2]; simp [List.getElem?_take, hk, List.getD_eq_getElem?_getD]⟩

end Go.Proofs.YtbhnfehcpnnjcaaGreatDoor.Vc
