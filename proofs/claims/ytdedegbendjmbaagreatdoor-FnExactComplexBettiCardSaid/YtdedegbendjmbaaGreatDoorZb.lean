/-
  The texts B1, Law, B2, Orb, App, B3, Drw, Cpy, Rep, Lab, B4, B5, Drn, C1, C2 in one. Conditions: as each part states them.
-/
import Derived.Test.YtdedegbendjmbaaGreatDoorZa
import Derived.Test.YtdedegbendjmbaaGreatDoorInst
import Derived.Laws.IdiomCopy
import Derived.Shelf.Bits.Mul64
/-
  The walks of the smallest functions. Conditions: as each states them.
-/
namespace Go.Proofs.YtdedegbendjmbaaGreatDoor.Vc
open Go.RowKit

theorem l01In_c (n lo hi : Int) (w : World) : Ret Tryz.prog 95 [.int .i64 n, .int .i64 lo, .int .i64 hi] w (fun v w' => v = .bool (decide (lo ≤ n ∧ n ≤ hi)) ∧ w' = w) := by
  refine Ret.of_cd Tryz.func95 rfl Tryz.ntmps95 rfl (post1 rfl) ?_
  refine Cd.seq ?_
  refine Cd.region ?_
  refine Ops.mv_bool rfl rfl rfl ?_
  refine Ops.nil ?_
  refine thenQ_n ?_
  refine Cd.seq ?_
  refine Cd.region ?_
  refine Ops.mv_int rfl rfl rfl ?_
  refine Ops.mv_int rfl rfl rfl ?_
  refine Ops.geq rfl rfl rfl ?_
  refine Ops.mv_bool rfl rfl rfl ?_
  refine Ops.split_p 10 rfl (fun h => ?_) (fun h => ?_)
  · refine Ops.rung rfl rfl rfl ?_
    refine Ops.mv_int rfl rfl rfl ?_
    refine Ops.rung rfl rfl rfl ?_
    refine Ops.mv_int rfl rfl rfl ?_
    refine Ops.rung rfl rfl rfl ?_
    refine Ops.leq rfl rfl rfl ?_
    refine Ops.pick_t rfl rfl rfl ?_
    refine Ops.mv_bool rfl rfl rfl ?_
    refine Ops.nil ?_
    refine thenQ_n ?_
    refine Cd.ret ?_
    refine ret1_b rfl ?_
    exact ⟨by simp [h], rfl⟩
  · refine Ops.skipg rfl rfl rfl rfl rfl ?_
    refine Ops.skipg rfl rfl rfl rfl rfl ?_
    refine Ops.skipg rfl rfl rfl rfl rfl ?_
    refine Ops.pick_f rfl rfl rfl ?_
    refine Ops.mv_bool rfl rfl rfl ?_
    refine Ops.nil ?_
    refine thenQ_n ?_
    refine Cd.ret ?_
    refine ret1_b rfl ?_
    exact ⟨by simp [h], rfl⟩

theorem within_c (n lo hi : Int) (w : World) : Ret Tryz.prog 92 [.int .i64 n, .int .i64 lo, .int .i64 hi] w (fun v w' => v = .bool (decide (lo ≤ n ∧ n ≤ hi)) ∧ w' = w) := by
  refine Ret.of_cd Tryz.func92 rfl Tryz.ntmps92 rfl (post1 rfl) ?_
  refine Cd.seq ?_
  refine Cd.region ?_
  refine Ops.mv_bool rfl rfl rfl ?_
  refine Ops.nil ?_
  refine thenQ_n ?_
  refine Cd.seq ?_
  refine Cd.region ?_
  refine Ops.mv_int rfl rfl rfl ?_
  refine Ops.mv_int rfl rfl rfl ?_
  refine Ops.geq rfl rfl rfl ?_
  refine Ops.mv_bool rfl rfl rfl ?_
  refine Ops.split_p 10 rfl (fun h => ?_) (fun h => ?_)
  · refine Ops.rung rfl rfl rfl ?_
    refine Ops.mv_int rfl rfl rfl ?_
    refine Ops.rung rfl rfl rfl ?_
    refine Ops.mv_int rfl rfl rfl ?_
    refine Ops.rung rfl rfl rfl ?_
    refine Ops.leq rfl rfl rfl ?_
    refine Ops.pick_t rfl rfl rfl ?_
    refine Ops.mv_bool rfl rfl rfl ?_
    refine Ops.nil ?_
    refine thenQ_n ?_
    refine Cd.ret ?_
    refine ret1_b rfl ?_
    exact ⟨by simp [h], rfl⟩
  · refine Ops.skipg rfl rfl rfl rfl rfl ?_
    refine Ops.skipg rfl rfl rfl rfl rfl ?_
    refine Ops.skipg rfl rfl rfl rfl rfl ?_
    refine Ops.pick_f rfl rfl rfl ?_
    refine Ops.mv_bool rfl rfl rfl ?_
    refine Ops.nil ?_
    refine thenQ_n ?_
    refine Cd.ret ?_
    refine ret1_b rfl ?_
    exact ⟨by simp [h], rfl⟩

def IsPerm (p : List Int) : Prop := p.length ≤ 400 ∧ (∀ x ∈ p, 0 ≤ x ∧ x < p.length) ∧ p.Nodup
instance (p : List Int) : Decidable (IsPerm p) := by unfold IsPerm; exact inferInstance

/-- the places that k elements have marked -/
def Seen (p : List Int) (k : Nat) (S : List Bool) : Prop :=
  S.length = p.length ∧ (∀ x ∈ p.take k, 0 ≤ x ∧ x < p.length) ∧ (p.take k).Nodup ∧ ∀ x : Int, 0 ≤ x → x < p.length → (gb S x = true ↔ x ∈ p.take k)

theorem gi_mem {p : List Int} {k : Nat} (h : k < p.length) : gi p k = p[k] := by simp [gi, List.getD_eq_getElem?_getD, List.getElem?_eq_getElem h]
theorem take_succ_gi {p : List Int} {k : Nat} (h : k < p.length) : p.take (k + 1) = p.take k ++ [gi p k] := by rw [gi_mem h, List.take_succ_eq_append_getElem h]
theorem gb_set {S : List Bool} {x y : Int} {b : Bool} (hx : 0 ≤ x) (hx' : x < S.length) (hy : 0 ≤ y) : gb (S.set x.toNat b) y = if x = y then b else gb S y := by
  simp only [gb, List.getD_eq_getElem?_getD, List.getElem?_set]
  by_cases e : x = y
  · subst e; rw [if_pos rfl, if_pos rfl, if_pos (by omega)]; rfl
  · rw [if_neg (by omega), if_neg e]
theorem gi_set {S : List Int} {x y : Int} {b : Int} (hx : 0 ≤ x) (hx' : x < S.length) (hy : 0 ≤ y) : gi (S.set x.toNat b) y = if x = y then b else gi S y := by
  simp only [gi, List.getD_eq_getElem?_getD, List.getElem?_set]
  by_cases e : x = y
  · subst e; rw [if_pos rfl, if_pos rfl, if_pos (by omega)]; rfl
  · rw [if_neg (by omega), if_neg e]

end Go.Proofs.YtdedegbendjmbaaGreatDoor.Vc
/-
  The walks of the helpers of the laws: sizes, copies, comparisons. Conditions: as each states them.
-/
namespace Go.Proofs.YtdedegbendjmbaaGreatDoor.Vc
open Go.RowKit

def szI (n : Nat) (left : Int) : Int := if left - n < 0 then -1 else left - n
theorem szInt64S_c (A : Option Addr) (n c : Nat) (left : Int) (w : World) (hn : n ≤ 9223372036854775807) (hl : 0 ≤ left ∧ left ≤ 1048576) : Ret Tryz.prog 110 [.slice A n c, .int .i64 left] w (fun v w' => v = .int .i64 (szI n left) ∧ w' = w) := by
  refine Ret.of_cd Tryz.func110 rfl Tryz.ntmps110 rfl (post1 rfl) ?_
  refine Cd.seq ?_
  refine Cd.region ?_
  refine Ops.mv_int rfl rfl rfl ?_
  refine Ops.nil ?_
  refine thenQ_n ?_
  refine Cd.seq ?_
  refine Cd.region ?_
  refine Ops.mv_int rfl rfl rfl ?_
  refine Ops.mv_sl rfl rfl rfl ?_
  refine Ops.len rfl rfl ?_
  refine Ops.sub rfl rfl rfl (by omega) ?_
  refine Ops.mv_int rfl rfl rfl ?_
  refine Ops.nil ?_
  refine thenQ_n ?_
  refine Cd.seq ?_
  refine Cd.seq ?_
  refine Cd.region ?_
  refine Ops.mv_int rfl rfl rfl ?_
  refine Ops.lss rfl rfl rfl ?_
  refine Ops.nil ?_
  refine thenQ_n ?_
  refine Cd.cond_p _ rfl (fun h => ?_) (fun h => ?_)
  · refine Cd.seq ?_
    refine Cd.region ?_
    refine Ops.mv_int rfl rfl rfl ?_
    refine Ops.nil ?_
    refine thenQ_n ?_
    refine Cd.ret ?_
    refine thenQ_r ?_
    refine ret1_i rfl ?_
    exact ⟨by simp [szI, h], rfl⟩
  · refine Cd.skip ?_
    refine thenQ_n ?_
    refine Cd.seq ?_
    refine Cd.region ?_
    refine Ops.mv_int rfl rfl rfl ?_
    refine Ops.mv_int rfl rfl rfl ?_
    refine Ops.nil ?_
    refine thenQ_n ?_
    refine Cd.ret ?_
    refine ret1_i rfl ?_
    exact ⟨by simp [szI, h], rfl⟩

def szGo : List Nat → Int → Int
  | [], l => l
  | n :: r, l => if szI n l < 0 then -1 else szGo r (szI n l)
def szSS (ns : List Nat) (left : Int) : Int := if left - ns.length < 0 then -1 else szGo ns (left - ns.length)
theorem szGo_drop {ns : List Nat} {k : Nat} (hk : k < ns.length) (l : Int) : szGo (ns.drop k) l = if szI (ns.getD k 0) l < 0 then -1 else szGo (ns.drop (k + 1)) (szI (ns.getD k 0) l) := by
  rw [List.drop_eq_getElem_cons hk]
  simp [szGo, List.getD_eq_getElem?_getD, List.getElem?_eq_getElem hk]
theorem szI_le (n : Nat) (l : Int) (h : 0 ≤ l) : szI n l ≤ l := by unfold szI; split <;> omega
def lens (rs : List SlV) : List Nat := rs.map (·.n)
theorem lens_getD {rs : List SlV} {k : Nat} (hk : k < rs.length) : (lens rs).getD k 0 = (rg rs (k : Int)).n := by simp [lens, rg, List.getD_eq_getElem?_getD, List.getElem?_eq_getElem hk]

theorem szInt64SS_c (A : Option Addr) (n c : Nat) (rs : List SlV) (xss : List (List Int)) (left : Int) (w : World) (hR : RowsI w A n rs xss) (hn : n ≤ 9223372036854775807) (hl : 0 ≤ left ∧ left ≤ 1048576) : Ret Tryz.prog 62 [.slice A n c, .int .i64 left] w (fun v w' => v = .int .i64 (szSS (lens rs) left) ∧ w' = w) := by
  have hrl : (lens rs).length = n := by simp [lens, hR.top.1]
  refine Ret.of_cd Tryz.func62 rfl Tryz.ntmps62 rfl (post1 rfl) ?_
  refine Cd.seq ?_
  refine Cd.region ?_
  refine Ops.mv_int rfl rfl rfl ?_
  refine Ops.nil ?_
  refine thenQ_n ?_
  refine Cd.seq ?_
  refine Cd.region ?_
  refine Ops.mv_int rfl rfl rfl ?_
  refine Ops.mv_sl rfl rfl rfl ?_
  refine Ops.len rfl rfl ?_
  refine Ops.sub rfl rfl rfl (by omega) ?_
  refine Ops.mv_int rfl rfl rfl ?_
  refine Ops.nil ?_
  refine thenQ_n ?_
  refine Cd.seq ?_
  refine Cd.seq ?_
  refine Cd.region ?_
  refine Ops.mv_int rfl rfl rfl ?_
  refine Ops.lss rfl rfl rfl ?_
  refine Ops.nil ?_
  refine thenQ_n ?_
  refine Cd.cond_p _ rfl (fun h => ?_) (fun h => ?_)
  · refine Cd.seq ?_
    refine Cd.region ?_
    refine Ops.mv_int rfl rfl rfl ?_
    refine Ops.nil ?_
    refine thenQ_n ?_
    refine Cd.ret ?_
    refine thenQ_r ?_
    refine ret1_i rfl ?_
    exact ⟨by simp [szSS, hrl, h], rfl⟩
  refine Cd.skip ?_
  refine thenQ_n ?_
  refine Cd.seq ?_
  refine Cd.seq ?_
  refine Cd.region ?_
  refine Ops.mv_int rfl rfl rfl ?_
  refine Ops.nil ?_
  refine thenQ_n ?_
  refine Cd.block ?_
  refine Cd.loop (α := Nat × Int) (fun s => [(0, .slice A n c), (1, .int .i64 s.2), (5, .int .i64 (s.1 : Int))]) (fun s w' => w' = w ∧ s.1 ≤ n ∧ 0 ≤ s.2 ∧ s.2 ≤ 1048576 ∧ szGo ((lens rs).drop s.1) s.2 = szSS (lens rs) left) (fun s => n - s.1) (0, left - n) ⟨rfl, rfl, rfl, trivial⟩ ⟨rfl, Nat.zero_le _, by show 0 ≤ left - n; omega, by show left - n ≤ _; omega, by simp [szSS, hrl, h]⟩ ?_
  rintro ⟨k, l⟩ e w2 ⟨rfl, hk, h0, h1, hI⟩
  dsimp only at hk h0 h1 hI ⊢
  refine Cd.seq ?_
  refine Cd.seq ?_
  refine Cd.region ?_
  refine Ops.mv_int rfl rfl rfl ?_
  refine Ops.mv_sl rfl rfl rfl ?_
  refine Ops.len rfl rfl ?_
  refine Ops.lss rfl rfl rfl ?_
  refine Ops.nil ?_
  refine thenQ_n ?_
  refine Cd.cond_p _ rfl (fun hlt => ?_) (fun hlt => ?_)
  · refine Cd.skip ?_
    refine thenQ_n ?_
    refine Cd.seq ?_
    refine Cd.block ?_
    refine Cd.seq ?_
    refine Cd.region ?_
    refine Ops.mv_sl rfl rfl rfl ?_
    refine Ops.mv_int rfl rfl rfl ?_
    refine Ops.idx hR.top.2 rfl rfl rfl (by omega) hlt ?_
    refine Ops.ld_sl hR.top rfl (by omega) rfl rfl ?_
    refine Ops.mv_int rfl rfl rfl ?_
    have hc := hR.cap_ (i := k) (by omega) hlt
    refine Ops.call (szInt64S_c _ _ _ _ _ (by omega) ⟨h0, h1⟩) rfl rfl rfl ?_
    rintro _ _ ⟨rfl, rfl⟩
    refine Ops.mv_int rfl rfl rfl ?_
    refine Ops.nil ?_
    refine thenQ_n ?_
    refine Cd.seq ?_
    refine Cd.region ?_
    refine Ops.mv_int rfl rfl rfl ?_
    refine Ops.lss rfl rfl rfl ?_
    refine Ops.nil ?_
    refine thenQ_n ?_
    rw [szGo_drop (by omega), lens_getD (by rw [hR.top.1]; omega)] at hI
    have hle := szI_le (rg rs k).n l h0
    refine Cd.cond_p _ rfl (fun h2 => ?_) (fun h2 => ?_)
    · refine Cd.seq ?_
      refine Cd.region ?_
      refine Ops.mv_int rfl rfl rfl ?_
      refine Ops.nil ?_
      refine thenQ_n ?_
      refine Cd.ret ?_
      refine blockQ_r ?_
      refine thenQ_r ?_
      refine thenQ_r ?_
      refine blockQ_r ?_
      refine thenQ_r ?_
      refine ret1_i rfl ?_
      exact ⟨by rw [← hI, if_pos h2], rfl⟩
    · refine Cd.skip ?_
      refine blockQ_n ?_
      refine thenQ_n ?_
      refine Cd.region ?_
      refine Ops.mv_int rfl rfl rfl ?_
      refine Ops.add rfl rfl rfl (by omega) ?_
      refine Ops.mv_int rfl rfl rfl ?_
      refine Ops.nil ?_
      refine thenQ_n ?_
      exact ⟨(k + 1, szI (rg rs k).n l), by show n - (k + 1) < n - k; omega, ⟨rfl, rfl, rfl, trivial⟩, rfl, by show k + 1 ≤ n; omega, by show 0 ≤ szI _ _; omega, by show szI _ _ ≤ _; omega, by rw [← hI, if_neg h2]⟩
  · refine Cd.exit ?_
    refine thenQ_x ?_
    refine thenQ_x ?_
    refine blockQ_x ?_
    refine thenQ_n ?_
    refine Cd.seq ?_
    refine Cd.region ?_
    refine Ops.mv_int rfl rfl rfl ?_
    refine Ops.mv_int rfl rfl rfl ?_
    refine Ops.nil ?_
    refine thenQ_n ?_
    refine Cd.ret ?_
    refine ret1_i rfl ?_
    refine ⟨?_, rfl⟩
    rw [List.drop_of_length_le (by omega)] at hI
    rw [← hI]; rfl

def fill {α : Type} (k : Nat) (xs : List α) (d : α) : List α := xs.take k ++ List.replicate (xs.length - k) d
theorem fill_zero {α : Type} (xs : List α) (d : α) : fill 0 xs d = List.replicate xs.length d := by simp [fill]
theorem fill_all {α : Type} (xs : List α) (d : α) : fill xs.length xs d = xs := by simp [fill]
theorem fill_set {α : Type} {k : Nat} {xs : List α} {d : α} (h : k < xs.length) : (fill k xs d).set k xs[k] = fill (k + 1) xs d := by
  have e : xs.length - k = (xs.length - (k + 1)) + 1 := by omega
  simp only [fill]
  rw [List.set_append_right _ _ (by simp; omega), e, List.replicate_succ, List.take_succ_eq_append_getElem h, List.append_assoc]
  have : k - (xs.take k).length = 0 := by simp [Nat.min_eq_left (Nat.le_of_lt h)]
  rw [this]; rfl
theorem toInt64S_c (A : Option Addr) (n c : Nat) (xs : List Int) (w : World) (hR : RdI w A n xs) (hn : 8 * n ≤ 281474976710656) : Ret Tryz.prog 14 [.slice A n c] w (fun v w' => ∃ A', v = .slice A' n n ∧ St w w' [CkI 2 A' n n xs]) := by
  have hl := hR.1
  subst hl
  refine Ret.of_cd Tryz.func14 rfl Tryz.ntmps14 rfl (post1 rfl) ?_
  refine Cd.seq ?_
  refine Cd.region ?_
  refine Ops.mv_sl rfl rfl rfl ?_
  refine Ops.nil ?_
  refine thenQ_n ?_
  refine Cd.seq ?_
  refine Cd.region ?_
  refine Ops.mv_sl rfl rfl rfl ?_
  refine Ops.len rfl rfl ?_
  refine Ops.mkI xs.length (St.refl w) rfl rfl (by omega) ?_
  intro A1 w1 hS1
  refine Ops.mv_sl rfl rfl rfl ?_
  refine Ops.nil ?_
  refine thenQ_n ?_
  refine Cd.seq ?_
  refine Cd.seq ?_
  refine Cd.region ?_
  refine Ops.mv_int rfl rfl rfl ?_
  refine Ops.nil ?_
  refine thenQ_n ?_
  refine Cd.block ?_
  refine Cd.loop (α := Nat) (fun k => [(0, .slice A xs.length c), (3, .slice A1 xs.length xs.length), (4, .int .i64 (k : Int))]) (fun k w' => St w w' [CkI 2 A1 xs.length xs.length (fill k xs 0)] ∧ k ≤ xs.length) (fun k => xs.length - k) 0 ⟨rfl, rfl, rfl, trivial⟩ ⟨by rw [fill_zero]; exact hS1, Nat.zero_le _⟩ ?_
  rintro k e w2 ⟨hS2, hk⟩
  refine Cd.seq ?_
  refine Cd.seq ?_
  refine Cd.region ?_
  refine Ops.mv_int rfl rfl rfl ?_
  refine Ops.mv_sl rfl rfl rfl ?_
  refine Ops.len rfl rfl ?_
  refine Ops.lss rfl rfl rfl ?_
  refine Ops.nil ?_
  refine thenQ_n ?_
  refine Cd.cond_p _ rfl (fun h1 => ?_) (fun h1 => ?_)
  · refine Cd.skip ?_
    refine thenQ_n ?_
    refine Cd.seq ?_
    refine Cd.block ?_
    refine Cd.region ?_
    refine Ops.mv_sl rfl rfl rfl ?_
    refine Ops.mv_int rfl rfl rfl ?_
    refine Ops.mv_sl rfl rfl rfl ?_
    refine Ops.mv_int rfl rfl rfl ?_
    refine Ops.idx (hS2.oldI hR).2 rfl rfl rfl (by omega) h1 ?_
    refine Ops.ld_int (hS2.oldI hR) rfl (by omega) rfl rfl ?_
    refine Ops.idx (hS2.rdI 0 rfl).2 rfl rfl rfl (by omega) h1 ?_
    refine Ops.st_int 0 hS2 rfl rfl rfl (by omega) ?_
    intro w3 hS3
    refine Ops.nil ?_
    refine blockQ_n ?_
    refine thenQ_n ?_
    refine Cd.region ?_
    refine Ops.mv_int rfl rfl rfl ?_
    refine Ops.add rfl rfl rfl (by omega) ?_
    refine Ops.mv_int rfl rfl rfl ?_
    refine Ops.nil ?_
    refine thenQ_n ?_
    have hk' : k < xs.length := by omega
    have e1 : (fill k xs 0).set (Int.toNat k) (gi xs k) = fill (k + 1) xs 0 := by rw [gi_mem hk', Int.toNat_natCast, fill_set hk']
    rw [show ([CkI 2 A1 xs.length xs.length (fill k xs 0)].set 0 (CkI 2 A1 xs.length xs.length ((fill k xs 0).set (Int.toNat k) (gi xs k)))) = [CkI 2 A1 xs.length xs.length (fill (k + 1) xs 0)] from by rw [e1]; rfl] at hS3
    exact ⟨k + 1, by omega, ⟨rfl, rfl, rfl, trivial⟩, hS3, hk'⟩
  · refine Cd.exit ?_
    refine thenQ_x ?_
    refine thenQ_x ?_
    refine blockQ_x ?_
    refine thenQ_n ?_
    refine Cd.seq ?_
    refine Cd.region ?_
    refine Ops.mv_sl rfl rfl rfl ?_
    refine Ops.mv_sl rfl rfl rfl ?_
    refine Ops.nil ?_
    refine thenQ_n ?_
    refine Cd.ret ?_
    refine ret1_s rfl ?_
    have : k = xs.length := by omega
    subst this
    rw [fill_all] at hS2
    exact ⟨A1, rfl, hS2⟩

theorem toInt64SS_c (A : Option Addr) (n c : Nat) (rs : List SlV) (xss : List (List Int)) (w : World) (hR : RowsI w A n rs xss) (hn : 24 * n ≤ 281474976710656) (hr : ∀ i, i < n → 8 * (rs.getD i slNil).n ≤ 281474976710656) :
    Ret Tryz.prog 67 [.slice A n c] w (fun v w' => ∃ A' rs', v = .slice A' n n ∧ rs'.length = n ∧ St w w' (mat 25 2 A' n n rs' xss)) := by
  refine Ret.of_cd Tryz.func67 rfl Tryz.ntmps67 rfl (post1 rfl) ?_
  refine Cd.seq ?_
  refine Cd.region ?_
  refine Ops.mv_sl rfl rfl rfl ?_
  refine Ops.nil ?_
  refine thenQ_n ?_
  refine Cd.seq ?_
  refine Cd.region ?_
  refine Ops.mv_sl rfl rfl rfl ?_
  refine Ops.len rfl rfl ?_
  refine Ops.mkR n (St.refl w) rfl rfl (by omega) ?_
  intro A1 w1 hS1
  refine Ops.mv_sl rfl rfl rfl ?_
  refine Ops.nil ?_
  refine thenQ_n ?_
  refine Cd.seq ?_
  refine Cd.seq ?_
  refine Cd.region ?_
  refine Ops.mv_int rfl rfl rfl ?_
  refine Ops.nil ?_
  refine thenQ_n ?_
  refine Cd.block ?_
  refine Cd.loop (α := Nat × List SlV) (fun s => [(0, .slice A n c), (3, .slice A1 n n), (4, .int .i64 (s.1 : Int))]) (fun s w' => St w w' (CkR 25 A1 n n (s.2 ++ List.replicate (n - s.1) slNil) :: rowsCk 2 s.2 (xss.take s.1)) ∧ s.1 ≤ n ∧ s.2.length = s.1) (fun s => n - s.1) (0, []) ⟨rfl, rfl, rfl, trivial⟩ ⟨hS1, Nat.zero_le _, rfl⟩ ?_
  rintro ⟨k, rs1⟩ e w2 ⟨hS2, hk, hlen⟩
  dsimp only at hS2 hk hlen ⊢
  refine Cd.seq ?_
  refine Cd.seq ?_
  refine Cd.region ?_
  refine Ops.mv_int rfl rfl rfl ?_
  refine Ops.mv_sl rfl rfl rfl ?_
  refine Ops.len rfl rfl ?_
  refine Ops.lss rfl rfl rfl ?_
  refine Ops.nil ?_
  refine thenQ_n ?_
  refine Cd.cond_p _ rfl (fun h1 => ?_) (fun h1 => ?_)
  · refine Cd.skip ?_
    refine thenQ_n ?_
    refine Cd.seq ?_
    refine Cd.block ?_
    refine Cd.region ?_
    refine Ops.mv_sl rfl rfl rfl ?_
    refine Ops.mv_int rfl rfl rfl ?_
    refine Ops.mv_sl rfl rfl rfl ?_
    refine Ops.mv_int rfl rfl rfl ?_
    refine Ops.idx (hS2.oldR hR.top).2 rfl rfl rfl (by omega) h1 ?_
    refine Ops.ld_sl (hS2.oldR hR.top) rfl (by omega) rfl rfl ?_
    refine Ops.call (toInt64S_c _ _ _ _ _ (hS2.oldI (hR.at_ (i := k) (by omega) h1)) (hr k (by omega))) rfl rfl rfl ?_
    rintro _ w3 ⟨A2, rfl, hS3⟩
    have hS3 := hS2.call hS3
    refine Ops.idx (hS3.rdR 1 rfl).2 rfl rfl rfl (by omega) h1 ?_
    refine Ops.st_sl 1 hS3 rfl rfl rfl (by omega) ?_
    intro w4 hS4
    refine Ops.nil ?_
    refine blockQ_n ?_
    refine thenQ_n ?_
    refine Cd.region ?_
    refine Ops.mv_int rfl rfl rfl ?_
    refine Ops.add rfl rfl rfl (by omega) ?_
    refine Ops.mv_int rfl rfl rfl ?_
    refine Ops.nil ?_
    refine thenQ_n ?_
    have hk' : k < n := by omega
    have hx : k < xss.length := by rw [hR.len]; exact hk'
    refine ⟨(k + 1, rs1 ++ [⟨A2, (rg rs k).n, (rg rs k).n⟩]), by show n - (k + 1) < n - k; omega, ⟨rfl, rfl, rfl, trivial⟩, ?_, hk', by simp [hlen]⟩
    show St w w4 (CkR _ A1 n n ((rs1 ++ [_]) ++ List.replicate (n - (k + 1)) slNil) :: rowsCk _ (rs1 ++ [_]) (xss.take (k + 1)))
    have e1 : (rs1 ++ List.replicate (n - k) slNil).set (Int.toNat k) ⟨A2, (rg rs k).n, (rg rs k).n⟩ = (rs1 ++ [⟨A2, (rg rs k).n, (rg rs k).n⟩]) ++ List.replicate (n - (k + 1)) slNil := by
      rw [Int.toNat_natCast, List.set_append_right _ _ (by omega), show n - k = (n - (k + 1)) + 1 by omega, List.replicate_succ, show k - rs1.length = 0 by omega]
      simp
    have e2 : gl xss k = xss[k] := by simp [gl, List.getD_eq_getElem?_getD, List.getElem?_eq_getElem hx]
    rw [List.take_succ_eq_append_getElem hx, rowsCk_append (by simp [hlen]; omega)]
    have h5 : St w w4 (CkI 2 A2 (rg rs k).n (rg rs k).n (gl xss k) :: CkR 25 A1 n n ((rs1 ++ List.replicate (n - k) slNil).set (Int.toNat k) ⟨A2, (rg rs k).n, (rg rs k).n⟩) :: rowsCk 2 rs1 (xss.take k)) := hS4
    rw [e1, e2] at h5
    refine h5.perm ?_
    refine (List.Perm.swap _ _ _).trans (List.Perm.cons _ ?_)
    exact List.perm_append_comm (l₁ := [_])
  · refine Cd.exit ?_
    refine thenQ_x ?_
    refine thenQ_x ?_
    refine blockQ_x ?_
    refine thenQ_n ?_
    refine Cd.seq ?_
    refine Cd.region ?_
    refine Ops.mv_sl rfl rfl rfl ?_
    refine Ops.mv_sl rfl rfl rfl ?_
    refine Ops.nil ?_
    refine thenQ_n ?_
    refine Cd.ret ?_
    refine ret1_s rfl ?_
    have : k = n := by omega
    subst this
    rw [Nat.sub_self, List.replicate_zero, List.append_nil, ← hR.len, List.take_length] at hS2
    exact ⟨A1, rs1, rfl, hlen, by rw [← hR.len]; exact hS2⟩

/-- sizes that copies bear -/
def Fits (n : Nat) (rs : List SlV) : Prop := 24 * n ≤ 281474976710656 ∧ ∀ i, i < n → 8 * (rs.getD i slNil).n ≤ 281474976710656

theorem eqInt64S_c (A : Option Addr) (n c : Nat) (xs : List Int) (A' : Option Addr) (n' c' : Nat) (ys : List Int) (w : World) (hR : RdI w A n xs) (hR' : RdI w A' n' ys) (hn : n ≤ 9223372036854775807) :
    Ret Tryz.prog 17 [.slice A n c, .slice A' n' c'] w (fun v w' => v = .bool (decide (xs = ys)) ∧ St w w' []) := by
  have hl := hR.1
  have hl' := hR'.1
  subst hl
  subst hl'
  refine Ret.of_cd Tryz.func17 rfl Tryz.ntmps17 rfl (post1 rfl) ?_
  refine Cd.seq ?_
  refine Cd.region ?_
  refine Ops.mv_bool rfl rfl rfl ?_
  refine Ops.nil ?_
  refine thenQ_n ?_
  refine Cd.seq ?_
  refine Cd.seq ?_
  refine Cd.region ?_
  refine Ops.mv_sl rfl rfl rfl ?_
  refine Ops.len rfl rfl ?_
  refine Ops.mv_sl rfl rfl rfl ?_
  refine Ops.len rfl rfl ?_
  refine Ops.neq rfl rfl rfl ?_
  refine Ops.nil ?_
  refine thenQ_n ?_
  refine Cd.cond_p _ rfl (fun h => ?_) (fun h => ?_)
  · refine Cd.seq ?_
    refine Cd.region ?_
    refine Ops.mv_bool rfl rfl rfl ?_
    refine Ops.nil ?_
    refine thenQ_n ?_
    refine Cd.ret ?_
    refine thenQ_r ?_
    refine ret1_b rfl ?_
    exact ⟨by rw [decide_eq_false (fun e : xs = ys => h (by rw [e]))], St.refl _⟩
  refine Cd.skip ?_
  refine thenQ_n ?_
  refine Cd.seq ?_
  refine Cd.seq ?_
  refine Cd.region ?_
  refine Ops.mv_int rfl rfl rfl ?_
  refine Ops.nil ?_
  refine thenQ_n ?_
  refine Cd.block ?_
  refine Cd.loop (α := Nat) (fun k => [(0, .slice A xs.length c), (1, .slice A' ys.length c'), (5, .int .i64 (k : Int))]) (fun k w' => St w w' [] ∧ k ≤ xs.length ∧ xs.take k = ys.take k) (fun k => xs.length - k) 0 ⟨rfl, rfl, rfl, trivial⟩ ⟨St.refl w, Nat.zero_le _, rfl⟩ ?_
  rintro k e w2 ⟨hS2, hk, hI⟩
  have hle : xs.length = ys.length := by omega
  refine Cd.seq ?_
  refine Cd.seq ?_
  refine Cd.region ?_
  refine Ops.mv_int rfl rfl rfl ?_
  refine Ops.mv_sl rfl rfl rfl ?_
  refine Ops.len rfl rfl ?_
  refine Ops.lss rfl rfl rfl ?_
  refine Ops.nil ?_
  refine thenQ_n ?_
  refine Cd.cond_p _ rfl (fun h1 => ?_) (fun h1 => ?_)
  · have hA := hS2.oldI hR
    have hB := hS2.oldI hR'
    have h2 : (k : Int) < ys.length := by omega
    have hx := gi_mem (p := xs) (k := k) (by omega)
    have hy := gi_mem (p := ys) (k := k) (by omega)
    refine Cd.skip ?_
    refine thenQ_n ?_
    refine Cd.seq ?_
    refine Cd.block ?_
    refine Cd.seq ?_
    refine Cd.draw [.ex (.slice (A) (xs.length) (c)), .ex (.int .i64 ((k : Int))), .ex (.pointer (ptrAt (A) ((k : Int)).toNat)), .ex (.int .i64 (gi (xs) ((k : Int)))), .ex (.slice (A') (ys.length) (c')), .ex (.int .i64 ((k : Int))), .ex (.pointer (ptrAt (A') ((k : Int)).toNat)), .ex (.int .i64 (gi (ys) ((k : Int)))), .ex (.bool (decide (¬ (gi (xs) ((k : Int))) = (gi (ys) ((k : Int))))))] (by kernel_rfl) (by kernel_rfl) rfl (List.forall_mem_cons.2 ⟨Yd.lasts_ex _, (List.forall_mem_cons.2 ⟨Yd.lasts_ex _, (List.forall_mem_cons.2 ⟨Yd.lasts_ex _, (List.forall_mem_cons.2 ⟨Yd.lasts_ex _, (List.forall_mem_cons.2 ⟨Yd.lasts_ex _, (List.forall_mem_cons.2 ⟨Yd.lasts_ex _, (List.forall_mem_cons.2 ⟨Yd.lasts_ex _, (List.forall_mem_cons.2 ⟨Yd.lasts_ex _, (List.forall_mem_cons.2 ⟨Yd.lasts_ex _, (fun _ h => by cases h)⟩)⟩)⟩)⟩)⟩)⟩)⟩)⟩)⟩) ⟨?_, ?_, ?_, ?_, ?_, ?_, ?_, ?_, ?_, trivial⟩ ?_
    · intro e1 w1 hb hp hun
      refine Ops.mv_sl rfl rfl rfl ?_
      refine Ops.nil ?_
      exact After.dn (Below.refl _ _) (by exact rfl)
    · intro e1 w1 hb hp hun
      refine Ops.mv_int rfl rfl rfl ?_
      refine Ops.nil ?_
      exact After.dn (Below.refl _ _) (by exact rfl)
    · intro e1 w1 hb hp hun
      refine Ops.idx (hA.later hb).2 rfl rfl rfl (by omega) (by omega) ?_
      refine Ops.nil ?_
      exact After.dn (Below.refl _ _) (by exact rfl)
    · intro e1 w1 hb hp hun
      refine Ops.ld_int (hA.later hb) rfl (by omega) rfl rfl ?_
      refine Ops.nil ?_
      exact After.dn (Below.refl _ _) (by exact rfl)
    · intro e1 w1 hb hp hun
      refine Ops.mv_sl rfl rfl rfl ?_
      refine Ops.nil ?_
      exact After.dn (Below.refl _ _) (by exact rfl)
    · intro e1 w1 hb hp hun
      refine Ops.mv_int rfl rfl rfl ?_
      refine Ops.nil ?_
      exact After.dn (Below.refl _ _) (by exact rfl)
    · intro e1 w1 hb hp hun
      refine Ops.idx (hB.later hb).2 rfl rfl rfl (by omega) (by omega) ?_
      refine Ops.nil ?_
      exact After.dn (Below.refl _ _) (by exact rfl)
    · intro e1 w1 hb hp hun
      refine Ops.ld_int (hB.later hb) rfl (by omega) rfl rfl ?_
      refine Ops.nil ?_
      exact After.dn (Below.refl _ _) (by exact rfl)
    · intro e1 w1 hb hp hun
      refine Ops.neq rfl rfl rfl ?_
      refine Ops.nil ?_
      exact After.dn (Below.refl _ _) (by exact rfl)
    intro u w3 hb3 _
    have hS3 := hS2.later hb3
    refine thenQ_n ?_
    refine Cd.cond_p _ rfl (fun h3 => ?_) (fun h3 => ?_)
    · refine Cd.seq ?_
      refine Cd.region ?_
      refine Ops.mv_bool rfl rfl rfl ?_
      refine Ops.nil ?_
      refine thenQ_n ?_
      refine Cd.ret ?_
      refine blockQ_r ?_
      refine thenQ_r ?_
      refine thenQ_r ?_
      refine blockQ_r ?_
      refine thenQ_r ?_
      refine ret1_b rfl ?_
      refine ⟨by rw [decide_eq_false (fun e : xs = ys => h3 (by rw [e]))], hS3⟩
    · refine Cd.skip ?_
      refine blockQ_n ?_
      refine thenQ_n ?_
      refine Cd.region ?_
      refine Ops.mv_int rfl rfl rfl ?_
      refine Ops.add rfl rfl rfl (by omega) ?_
      refine Ops.mv_int rfl rfl rfl ?_
      refine Ops.nil ?_
      refine thenQ_n ?_
      refine ⟨k + 1, by omega, ⟨rfl, rfl, rfl, trivial⟩, hS3, by omega, ?_⟩
      rw [take_succ_gi (by omega), take_succ_gi (by omega), hI, Classical.not_not.1 h3]
  · refine Cd.exit ?_
    refine thenQ_x ?_
    refine thenQ_x ?_
    refine blockQ_x ?_
    refine thenQ_n ?_
    refine Cd.seq ?_
    refine Cd.region ?_
    refine Ops.mv_bool rfl rfl rfl ?_
    refine Ops.nil ?_
    refine thenQ_n ?_
    refine Cd.ret ?_
    refine ret1_b rfl ?_
    refine ⟨?_, hS2⟩
    rw [List.take_of_length_le (by omega), List.take_of_length_le (by omega)] at hI
    rw [decide_eq_true hI]

theorem gl_mem {p : List (List Int)} {k : Nat} (h : k < p.length) : gl p k = p[k] := by simp [gl, List.getD_eq_getElem?_getD, List.getElem?_eq_getElem h]
theorem take_succ_gl {p : List (List Int)} {k : Nat} (h : k < p.length) : p.take (k + 1) = p.take k ++ [gl p k] := by rw [gl_mem h, List.take_succ_eq_append_getElem h]

theorem eqInt64SS_c (A : Option Addr) (n c : Nat) (rs : List SlV) (xs : List (List Int)) (A' : Option Addr) (n' c' : Nat) (rs' : List SlV) (ys : List (List Int)) (w : World) (hR : RowsI w A n rs xs) (hR' : RowsI w A' n' rs' ys) (hn : n ≤ 9223372036854775807) :
    Ret Tryz.prog 73 [.slice A n c, .slice A' n' c'] w (fun v w' => v = .bool (decide (xs = ys)) ∧ St w w' []) := by
  have hl := hR.len
  have hl' := hR'.len
  subst hl
  subst hl'
  refine Ret.of_cd Tryz.func73 rfl Tryz.ntmps73 rfl (post1 rfl) ?_
  refine Cd.seq ?_
  refine Cd.region ?_
  refine Ops.mv_bool rfl rfl rfl ?_
  refine Ops.nil ?_
  refine thenQ_n ?_
  refine Cd.seq ?_
  refine Cd.seq ?_
  refine Cd.region ?_
  refine Ops.mv_sl rfl rfl rfl ?_
  refine Ops.len rfl rfl ?_
  refine Ops.mv_sl rfl rfl rfl ?_
  refine Ops.len rfl rfl ?_
  refine Ops.neq rfl rfl rfl ?_
  refine Ops.nil ?_
  refine thenQ_n ?_
  refine Cd.cond_p _ rfl (fun h => ?_) (fun h => ?_)
  · refine Cd.seq ?_
    refine Cd.region ?_
    refine Ops.mv_bool rfl rfl rfl ?_
    refine Ops.nil ?_
    refine thenQ_n ?_
    refine Cd.ret ?_
    refine thenQ_r ?_
    refine ret1_b rfl ?_
    exact ⟨by rw [decide_eq_false (fun e : xs = ys => h (by rw [e]))], St.refl _⟩
  refine Cd.skip ?_
  refine thenQ_n ?_
  refine Cd.seq ?_
  refine Cd.seq ?_
  refine Cd.region ?_
  refine Ops.mv_int rfl rfl rfl ?_
  refine Ops.nil ?_
  refine thenQ_n ?_
  refine Cd.block ?_
  refine Cd.loop (α := Nat) (fun k => [(0, .slice A xs.length c), (1, .slice A' ys.length c'), (5, .int .i64 (k : Int))]) (fun k w' => St w w' [] ∧ k ≤ xs.length ∧ xs.take k = ys.take k) (fun k => xs.length - k) 0 ⟨rfl, rfl, rfl, trivial⟩ ⟨St.refl w, Nat.zero_le _, rfl⟩ ?_
  rintro k e w2 ⟨hS2, hk, hI⟩
  have hle : xs.length = ys.length := by omega
  refine Cd.seq ?_
  refine Cd.seq ?_
  refine Cd.region ?_
  refine Ops.mv_int rfl rfl rfl ?_
  refine Ops.mv_sl rfl rfl rfl ?_
  refine Ops.len rfl rfl ?_
  refine Ops.lss rfl rfl rfl ?_
  refine Ops.nil ?_
  refine thenQ_n ?_
  refine Cd.cond_p _ rfl (fun h1 => ?_) (fun h1 => ?_)
  · have hA := hS2.oldRows hR
    have hB := hS2.oldRows hR'
    have hAt := hA.top
    have hBt := hB.top
    have h2 : (k : Int) < ys.length := by omega
    have hx := gl_mem (p := xs) (k := k) (by omega)
    have hy := gl_mem (p := ys) (k := k) (by omega)
    have ha := hA.at_ (i := k) (by omega) h1
    have hb' := hB.at_ (i := k) (by omega) h2
    have hc := hA.cap_ (i := k) (by omega) h1
    refine Cd.skip ?_
    refine thenQ_n ?_
    refine Cd.seq ?_
    refine Cd.block ?_
    refine Cd.seq ?_
    refine Cd.draw [.ex (.slice (A) (xs.length) (c)), .ex (.int .i64 ((k : Int))), .ex (.pointer (ptrAt (A) ((k : Int)).toNat)), .ex (.slice ((rg (rs) ((k : Int))).a) ((rg (rs) ((k : Int))).n) ((rg (rs) ((k : Int))).c)), .ex (.slice (A') (ys.length) (c')), .ex (.int .i64 ((k : Int))), .ex (.pointer (ptrAt (A') ((k : Int)).toNat)), .ex (.slice ((rg (rs') ((k : Int))).a) ((rg (rs') ((k : Int))).n) ((rg (rs') ((k : Int))).c)), .ex (.bool (decide (gl xs k = gl ys k))), .ex (.bool (decide (¬ (gl xs k = gl ys k))))] (by kernel_rfl) (by kernel_rfl) rfl (List.forall_mem_cons.2 ⟨Yd.lasts_ex _, (List.forall_mem_cons.2 ⟨Yd.lasts_ex _, (List.forall_mem_cons.2 ⟨Yd.lasts_ex _, (List.forall_mem_cons.2 ⟨Yd.lasts_ex _, (List.forall_mem_cons.2 ⟨Yd.lasts_ex _, (List.forall_mem_cons.2 ⟨Yd.lasts_ex _, (List.forall_mem_cons.2 ⟨Yd.lasts_ex _, (List.forall_mem_cons.2 ⟨Yd.lasts_ex _, (List.forall_mem_cons.2 ⟨Yd.lasts_ex _, (List.forall_mem_cons.2 ⟨Yd.lasts_ex _, (fun _ h => by cases h)⟩)⟩)⟩)⟩)⟩)⟩)⟩)⟩)⟩)⟩) ⟨?_, ?_, ?_, ?_, ?_, ?_, ?_, ?_, ?_, ?_, trivial⟩ ?_
    · intro e1 w1 hb hp hun
      refine Ops.mv_sl rfl rfl rfl ?_
      refine Ops.nil ?_
      exact After.dn (Below.refl _ _) (by exact rfl)
    · intro e1 w1 hb hp hun
      refine Ops.mv_int rfl rfl rfl ?_
      refine Ops.nil ?_
      exact After.dn (Below.refl _ _) (by exact rfl)
    · intro e1 w1 hb hp hun
      refine Ops.idx (hAt.later hb).2 rfl rfl rfl (by omega) (by omega) ?_
      refine Ops.nil ?_
      exact After.dn (Below.refl _ _) (by exact rfl)
    · intro e1 w1 hb hp hun
      refine Ops.ld_sl (hAt.later hb) rfl (by omega) rfl rfl ?_
      refine Ops.nil ?_
      exact After.dn (Below.refl _ _) (by exact rfl)
    · intro e1 w1 hb hp hun
      refine Ops.mv_sl rfl rfl rfl ?_
      refine Ops.nil ?_
      exact After.dn (Below.refl _ _) (by exact rfl)
    · intro e1 w1 hb hp hun
      refine Ops.mv_int rfl rfl rfl ?_
      refine Ops.nil ?_
      exact After.dn (Below.refl _ _) (by exact rfl)
    · intro e1 w1 hb hp hun
      refine Ops.idx (hBt.later hb).2 rfl rfl rfl (by omega) (by omega) ?_
      refine Ops.nil ?_
      exact After.dn (Below.refl _ _) (by exact rfl)
    · intro e1 w1 hb hp hun
      refine Ops.ld_sl (hBt.later hb) rfl (by omega) rfl rfl ?_
      refine Ops.nil ?_
      exact After.dn (Below.refl _ _) (by exact rfl)
    · intro e1 w1 hb hp hun
      refine Ops.call (eqInt64S_c _ _ _ _ _ _ _ _ _ (ha.later hb) (hb'.later hb) (by omega)) rfl rfl rfl ?_
      rintro _ w2 ⟨rfl, hst⟩
      refine Ops.nil ?_
      exact After.dn hst.below (by exact rfl)
    · intro e1 w1 hb hp hun
      refine Ops.not_p rfl rfl ?_
      refine Ops.nil ?_
      exact After.dn (Below.refl _ _) (by exact rfl)
    intro u w3 hb3 _
    have hS3 := hS2.later hb3
    refine thenQ_n ?_
    refine Cd.cond_p _ rfl (fun h3 => ?_) (fun h3 => ?_)
    · refine Cd.seq ?_
      refine Cd.region ?_
      refine Ops.mv_bool rfl rfl rfl ?_
      refine Ops.nil ?_
      refine thenQ_n ?_
      refine Cd.ret ?_
      refine blockQ_r ?_
      refine thenQ_r ?_
      refine thenQ_r ?_
      refine blockQ_r ?_
      refine thenQ_r ?_
      refine ret1_b rfl ?_
      refine ⟨by rw [decide_eq_false (fun e : xs = ys => h3 (by rw [e]))], hS3⟩
    · refine Cd.skip ?_
      refine blockQ_n ?_
      refine thenQ_n ?_
      refine Cd.region ?_
      refine Ops.mv_int rfl rfl rfl ?_
      refine Ops.add rfl rfl rfl (by omega) ?_
      refine Ops.mv_int rfl rfl rfl ?_
      refine Ops.nil ?_
      refine thenQ_n ?_
      refine ⟨k + 1, by omega, ⟨rfl, rfl, rfl, trivial⟩, hS3, by omega, ?_⟩
      rw [take_succ_gl (by omega), take_succ_gl (by omega), hI, Classical.not_not.1 h3]
  · refine Cd.exit ?_
    refine thenQ_x ?_
    refine thenQ_x ?_
    refine blockQ_x ?_
    refine thenQ_n ?_
    refine Cd.seq ?_
    refine Cd.region ?_
    refine Ops.mv_bool rfl rfl rfl ?_
    refine Ops.nil ?_
    refine thenQ_n ?_
    refine Cd.ret ?_
    refine ret1_b rfl ?_
    refine ⟨?_, hS2⟩
    rw [List.take_of_length_le (by omega), List.take_of_length_le (by omega)] at hI
    rw [decide_eq_true hI]

end Go.Proofs.YtdedegbendjmbaaGreatDoor.Vc
/-
  The walks of the small functions of the first two layers. Conditions: as each states them.
-/
namespace Go.Proofs.YtdedegbendjmbaaGreatDoor.Vc
open Go.RowKit

theorem sizeI_c (A : Option Addr) (n c : Nat) (w : World) : Ret Tryz.prog 98 [.slice A n c] w (fun v w' => v = .int .i64 (n : Int) ∧ w' = w) := by
  refine Ret.of_cd Tryz.func98 rfl Tryz.ntmps98 rfl (post1 rfl) ?_
  refine Cd.seq ?_
  refine Cd.region ?_
  refine Ops.mv_int rfl rfl rfl ?_
  refine Ops.nil ?_
  refine thenQ_n ?_
  refine Cd.seq ?_
  refine Cd.region ?_
  refine Ops.mv_sl rfl rfl rfl ?_
  refine Ops.len rfl rfl ?_
  refine Ops.mv_int rfl rfl rfl ?_
  refine Ops.nil ?_
  refine thenQ_n ?_
  refine Cd.ret ?_
  refine ret1_i rfl ?_
  exact ⟨rfl, rfl⟩
theorem sizeR_c (A : Option Addr) (n c : Nat) (w : World) : Ret Tryz.prog 143 [.slice A n c] w (fun v w' => v = .int .i64 (n : Int) ∧ w' = w) := by
  refine Ret.of_cd Tryz.func143 rfl Tryz.ntmps143 rfl (post1 rfl) ?_
  refine Cd.seq ?_
  refine Cd.region ?_
  refine Ops.mv_int rfl rfl rfl ?_
  refine Ops.nil ?_
  refine thenQ_n ?_
  refine Cd.seq ?_
  refine Cd.region ?_
  refine Ops.mv_sl rfl rfl rfl ?_
  refine Ops.len rfl rfl ?_
  refine Ops.mv_int rfl rfl rfl ?_
  refine Ops.nil ?_
  refine thenQ_n ?_
  refine Cd.ret ?_
  refine ret1_i rfl ?_
  exact ⟨rfl, rfl⟩

def IsFree (p : List Int) : Prop := ∀ i : Nat, i < p.length → gi p i ≠ i ∧ gi p (gi p i) = i
instance (p : List Int) : Decidable (IsFree p) := by unfold IsFree; exact inferInstance
end Go.Proofs.YtdedegbendjmbaaGreatDoor.Vc
/-
  Plain mathematics of orbits: what a search through moves finds, and in which order. Conditions: as each states them. No program in sight.
-/
namespace Go.Proofs.YtdedegbendjmbaaGreatDoor.Vc

theorem nodup_le : ∀ (n : Nat) (l : List Nat), l.Nodup → (∀ x ∈ l, x < n) → l.length ≤ n
  | 0, l, _, h => by
    cases l with
    | nil => simp
    | cons a l => exact absurd (h a (by simp)) (by omega)
  | n + 1, l, hn, h => by
    have h1 := nodup_le n (l.erase n) (hn.erase n) (fun x hx => by
      have h2 := (hn.mem_erase_iff).1 hx
      have := h x h2.2
      omega)
    have := List.length_erase_le (a := n) (l := l)
    rw [List.length_erase] at h1
    split at h1 <;> omega
theorem nodup_le_int {N : Nat} {l : List Int} (hn : l.Nodup) (h : ∀ x ∈ l, 0 ≤ x ∧ x < N) : l.length ≤ N := by
  have := nodup_le N (l.map Int.toNat) (by
    rw [List.nodup_iff_pairwise_ne, List.pairwise_map]
    refine List.Pairwise.imp_of_mem ?_ hn
    intro a b ha hb hab e
    have := h a ha
    have := h b hb
    omega) (fun x hx => by
    obtain ⟨y, hy, rfl⟩ := List.mem_map.1 hx
    have := h y hy
    omega)
  simpa using this

/-- rows of N places that lead to places -/
def Sys (N : Nat) (xss : List (List Int)) : Prop := ∀ p ∈ xss, p.length = N ∧ ∀ x : Int, 0 ≤ x → x < N → 0 ≤ gi p x ∧ gi p x < N

inductive Reach (xss : List (List Int)) (x : Int) : Int → Prop where
  | refl : Reach xss x x
  | step {y : Int} {p : List Int} : Reach xss x y → p ∈ xss → Reach xss x (gi p y)

theorem Reach.trans {xss : List (List Int)} {x y z : Int} (h : Reach xss x y) (h' : Reach xss y z) : Reach xss x z := by
  induction h' with
  | refl => exact h
  | step _ hp ih => exact .step ih hp

def push1 (out : List Int) (y : Int) : List Int := if y ∈ out then out else out ++ [y]
def expand (xss : List (List Int)) (x : Int) (out : List Int) : List Int := xss.foldl (fun o p => push1 o (gi p x)) out
def bfs (xss : List (List Int)) : Nat → Nat → List Int → List Int
  | 0, _, out => out
  | f + 1, i, out => if i < out.length then bfs xss f (i + 1) (expand xss (gi out i) out) else out
def orbit (N : Nat) (xss : List (List Int)) (pt : Int) : List Int := bfs xss (N + 1) 0 [pt]

theorem push1_mem {out : List Int} {y z : Int} : z ∈ push1 out y ↔ z ∈ out ∨ z = y := by
  unfold push1
  split
  · constructor
    · exact Or.inl
    · rintro (h | rfl)
      · exact h
      · assumption
  · simp
theorem push1_nodup {out : List Int} {y : Int} (h : out.Nodup) : (push1 out y).Nodup := by
  unfold push1
  split
  · exact h
  · rename_i hy
    rw [List.nodup_append]
    refine ⟨h, by simp, fun a ha b hb => ?_⟩
    simp at hb; subst hb
    rintro rfl; exact hy ha
theorem push1_prefix (out : List Int) (y : Int) : out <+: push1 out y := by
  unfold push1
  split
  · exact List.prefix_rfl
  · exact List.prefix_append _ _

/-- what a search holds: what is found is found once, is reached, and lies in range -/
structure Good (N : Nat) (xss : List (List Int)) (pt : Int) (out : List Int) : Prop where
  nodup : out.Nodup
  range : ∀ x ∈ out, 0 ≤ x ∧ x < (N : Int)
  reach : ∀ x ∈ out, Reach xss pt x
theorem Good.push {N : Nat} {xss : List (List Int)} {pt : Int} {out : List Int} (h : Good N xss pt out) (hs : Sys N xss) {x : Int} (hx : x ∈ out) {p : List Int} (hp : p ∈ xss) : Good N xss pt (push1 out (gi p x)) :=
  ⟨push1_nodup h.nodup, fun z hz => by
    rcases push1_mem.1 hz with hz | rfl
    · exact h.range z hz
    · exact (hs p hp).2 x (h.range x hx).1 (h.range x hx).2, fun z hz => by
    rcases push1_mem.1 hz with hz | rfl
    · exact h.reach z hz
    · exact .step (h.reach x hx) hp⟩
theorem Good.len {N : Nat} {xss : List (List Int)} {pt : Int} {out : List Int} (h : Good N xss pt out) : out.length ≤ N := nodup_le_int h.nodup h.range

theorem foldl_push {N : Nat} {xss : List (List Int)} {pt : Int} (hs : Sys N xss) {x : Int} : ∀ (ps : List (List Int)) (out : List Int), (∀ p ∈ ps, p ∈ xss) → Good N xss pt out → x ∈ out →
    Good N xss pt (ps.foldl (fun o p => push1 o (gi p x)) out) ∧ out <+: ps.foldl (fun o p => push1 o (gi p x)) out ∧ ∀ p ∈ ps, gi p x ∈ ps.foldl (fun o p => push1 o (gi p x)) out
  | [], out, _, h, _ => ⟨h, List.prefix_rfl, fun p hp => by cases hp⟩
  | q :: ps, out, hps, h, hx => by
    have h1 := h.push hs hx (hps q (by simp))
    have hpre := push1_prefix out (gi q x)
    obtain ⟨g1, g2, g3⟩ := foldl_push hs ps (push1 out (gi q x)) (fun p hp => hps p (by simp [hp])) h1 (hpre.subset hx)
    refine ⟨g1, hpre.trans g2, fun p hp => ?_⟩
    rcases List.mem_cons.1 hp with rfl | hp
    · exact g2.subset (push1_mem.2 (Or.inr rfl))
    · exact g3 p hp

theorem gi_in {out : List Int} {i : Nat} (h : i < out.length) : gi out (i : Int) ∈ out := by rw [gi_mem h]; exact List.getElem_mem h
theorem gi_prefix {a b : List Int} (h : a <+: b) {i : Nat} (hi : i < a.length) : gi b (i : Int) = gi a (i : Int) := by
  rw [gi_mem hi, gi_mem (Nat.lt_of_lt_of_le hi h.length_le)]
  obtain ⟨t, rfl⟩ := h
  rw [List.getElem_append_left hi]

theorem bfs_spec {N : Nat} {xss : List (List Int)} {pt : Int} (hs : Sys N xss) : ∀ (f i : Nat) (out : List Int), Good N xss pt out → N < f + i → (∀ j, j < i → j < out.length → ∀ p ∈ xss, gi p (gi out (j : Int)) ∈ out) →
    Good N xss pt (bfs xss f i out) ∧ out <+: bfs xss f i out ∧ ∀ x ∈ bfs xss f i out, ∀ p ∈ xss, gi p x ∈ bfs xss f i out
  | 0, i, out, h, hf, hc => by
      simp only [bfs]
      refine ⟨h, List.prefix_rfl, fun x hx p hp => ?_⟩
      obtain ⟨j, hj, rfl⟩ := List.mem_iff_getElem.1 hx
      have := h.len
      have := hc j (by omega) hj p hp
      rw [gi_mem hj] at this
      exact this
  | f + 1, i, out, h, hf, hc => by
    simp only [bfs]
    split
    · rename_i hi
      obtain ⟨g1, g2, g3⟩ := foldl_push hs xss out (fun p hp => hp) h (gi_in hi)
      replace g2 : out <+: expand xss (gi out i) out := g2
      obtain ⟨k1, k2, k3⟩ := bfs_spec hs f (i + 1) (expand xss (gi out i) out) g1 (by omega) (fun j hj hjl p hp => by
        by_cases hji : j = i
        · subst hji
          show gi p (gi (expand xss _ out) _) ∈ expand xss _ out
          rw [gi_prefix g2 hi]
          exact g3 p hp
        · have hjo : j < out.length := by omega
          show gi p (gi (expand xss _ out) _) ∈ expand xss _ out
          rw [gi_prefix g2 hjo]
          exact g2.subset (hc j (by omega) hjo p hp))
      exact ⟨k1, g2.trans k2, k3⟩
    · rename_i hi
      refine ⟨h, List.prefix_rfl, fun x hx p hp => ?_⟩
      obtain ⟨j, hj, rfl⟩ := List.mem_iff_getElem.1 hx
      have := hc j (by omega) hj p hp
      rw [gi_mem hj] at this
      exact this

theorem good_one {N : Nat} {xss : List (List Int)} {pt : Int} (h0 : 0 ≤ pt) (h1 : pt < N) : Good N xss pt [pt] :=
  ⟨by simp, fun x hx => by simp at hx; subst hx; exact ⟨h0, h1⟩, fun x hx => by simp at hx; subst hx; exact .refl⟩

/-- the orbit: what is reached, once each, the point ahead -/
theorem orbit_spec {N : Nat} {xss : List (List Int)} {pt : Int} (hs : Sys N xss) (h0 : 0 ≤ pt) (h1 : pt < N) :
    Good N xss pt (orbit N xss pt) ∧ [pt] <+: orbit N xss pt ∧ ∀ x, x ∈ orbit N xss pt ↔ Reach xss pt x := by
  obtain ⟨g1, g2, g3⟩ := bfs_spec (N := N) hs (N + 1) 0 [pt] (good_one h0 h1) (by omega) (fun j hj => by omega)
  refine ⟨g1, g2, fun x => ⟨g1.reach x, fun hr => ?_⟩⟩
  induction hr with
  | refl => exact g2.subset (by simp)
  | step _ hp ih => exact g3 _ ih _ hp
end Go.Proofs.YtdedegbendjmbaaGreatDoor.Vc
/-
  Typed forms of literals with one element, and of append. Conditions: as each rule names them.
-/
namespace Go.Proofs.YtdedegbendjmbaaGreatDoor.Vc
open Go.RowKit
section
variable {P : Program} {N : Nat} {ops : Array Oper} {K : Env → World → Prop} {rest : List Oper} {e : Env} {w0 w w' : World} {ks : List Ck} {d : Nat} {ty : TypeId} {pos : String} {af : Array Edge}

theorem Ops.bs1I {t el : TypeId} {z : Value} {b : Nat} [Und P t (.slice el)] [Inf P el z 1 b] {x0 : Operand} {i : Int} (hS : St w0 w ks) (h0 : ev e x0 = .int .i64 i) (hz : z.cells = #[z]) (hb : Nat.blt d N = true)
    (hK : ∀ A w', St w0 w' (CkI el A 1 1 [i] :: ks) → Ops P N ops K rest (upd e d (.slice A 1 1)) w') : Ops P N ops K (⟨some d, .buildSlice t 1 #[(0, x0)], ty, pos, af, none⟩ :: rest) e w :=
  .bs1 hS h0 rfl hz hb hK
theorem Ops.bs1R {t el : TypeId} {z : Value} {b : Nat} [Und P t (.slice el)] [Inf P el z 1 b] {x0 : Operand} {A0 : Option Addr} {n0 c0 : Nat} (hS : St w0 w ks) (h0 : ev e x0 = .slice A0 n0 c0) (hz : z.cells = #[z]) (hb : Nat.blt d N = true)
    (hK : ∀ A w', St w0 w' (CkR el A 1 1 [⟨A0, n0, c0⟩] :: ks) → Ops P N ops K rest (upd e d (.slice A 1 1)) w') : Ops P N ops K (⟨some d, .buildSlice t 1 #[(0, x0)], ty, pos, af, none⟩ :: rest) e w :=
  .bs1 hS h0 rfl hz hb hK
theorem map_range_I {ys : List Int} {m : Nat} (h : ys.length = m) : (List.range m).map (fun j => Value.int .i64 (ys.getD j 0)) = ys.map (.int .i64) := by
  subst h
  apply List.ext_getElem
  · simp
  · intro i h1 h2
    simp [List.getD_eq_getElem?_getD, List.getElem?_eq_getElem (show i < ys.length by simpa using h1)]
theorem map_range_R {ys : List SlV} {m : Nat} (h : ys.length = m) : (List.range m).map (fun j => (ys.getD j slNil).v) = ys.map SlV.v := by
  subst h
  apply List.ext_getElem
  · simp
  · intro i h1 h2
    simp [List.getD_eq_getElem?_getD, List.getElem?_eq_getElem (show i < ys.length by simpa using h1)]
theorem Ops.appI {t el : TypeId} {z : Value} {b : Nat} [hU : Und P t (.slice el)] [Inf P el z 1 b] {x y : Operand} (i : Nat) {A : Option Addr} {n c : Nat} {xs : List Int} {A' : Option Addr} {m c' : Nat} {ys : List Int} (hS : St w0 w ks) (hk : ks[i]? = some (CkI el A n c xs)) (hR : RdI w A' m ys) (hx : ev e x = .slice A n c) (hy : ev e y = .slice A' m c') (hz : z.cells = #[z])
    (h63 : n + m ≤ 9223372036854775807) (hbytes : (n + m) * b ≤ 140737488355328) (hb : Nat.blt d N = true)
    (hK : ∀ A2 c2 w', St w0 w' (ks.set i (CkI el A2 (n + m) c2 (xs ++ ys))) → Ops P N ops K rest (upd e d (.slice A2 (n + m) c2)) w') :
    Ops P N ops K (⟨some d, .call ⟨.builtin .append, #[x, y], #[t, t]⟩, ty, pos, af, none⟩ :: rest) e w :=
  .app i hS hk hR.2 hx hy rfl hz (fun _ _ => rfl) (by simpa [maxLen] using h63) hbytes hb fun A2 c2 w' h => hK A2 c2 w' (by
    rw [map_range_I hR.1] at h
    simpa [CkI] using h)
theorem Ops.appR {t el : TypeId} {z : Value} {b : Nat} [hU : Und P t (.slice el)] [Inf P el z 1 b] {x y : Operand} (i : Nat) {A : Option Addr} {n c : Nat} {xs : List SlV} {A' : Option Addr} {m c' : Nat} {ys : List SlV} (hS : St w0 w ks) (hk : ks[i]? = some (CkR el A n c xs)) (hR : RdR w A' m ys) (hx : ev e x = .slice A n c) (hy : ev e y = .slice A' m c') {z0 : Value} (hz : z.cells = #[z0])
    (h63 : n + m ≤ 9223372036854775807) (hbytes : (n + m) * b ≤ 140737488355328) (hb : Nat.blt d N = true)
    (hK : ∀ A2 c2 w', St w0 w' (ks.set i (CkR el A2 (n + m) c2 (xs ++ ys))) → Ops P N ops K rest (upd e d (.slice A2 (n + m) c2)) w') :
    Ops P N ops K (⟨some d, .call ⟨.builtin .append, #[x, y], #[t, t]⟩, ty, pos, af, none⟩ :: rest) e w :=
  .app i hS hk hR.2 hx hy rfl hz (fun _ _ => rfl) (by simpa [maxLen] using h63) hbytes hb fun A2 c2 w' h => hK A2 c2 w' (by
    rw [map_range_R hR.1] at h
    simpa [CkR] using h)
end
end Go.Proofs.YtdedegbendjmbaaGreatDoor.Vc
/-
  The walk of the search for an orbit. Conditions: as each states them.
-/
namespace Go.Proofs.YtdedegbendjmbaaGreatDoor.Vc
open Go.RowKit

/-- what is marked is what is found -/
def Marked (M : Nat) (S : List Bool) (out : List Int) : Prop := S.length = M ∧ ∀ x : Int, 0 ≤ x → x < M → (gb S x = true ↔ x ∈ out)
theorem gl_in {xss : List (List Int)} {k : Int} (h0 : 0 ≤ k) (h : k < xss.length) : gl xss k ∈ xss := by
  obtain ⟨j, rfl⟩ : ∃ j : Nat, k = j := ⟨k.toNat, by omega⟩
  rw [gl_mem (by omega)]; exact List.getElem_mem _

end Go.Proofs.YtdedegbendjmbaaGreatDoor.Vc
/-
  A statement whose order Go leaves open, with one operation that turns memory; what it waits for comes ahead of it, what waits for it comes behind. Conditions: as each rule names them.
-/
namespace Go.Proofs.YtdedegbendjmbaaGreatDoor.Vc
open Go.RowKit

/-- what is told by a property alone is the turning operation, or waits for it -/
def prOk (l : List Oper) (m : Nat) (ys : List Yd) : Bool := ys.zipIdx.all fun p => match p.1 with
  | .ex _ => true
  | .pr _ => Nat.beq p.2 m || ancOf l l.length p.2 m
section
variable {P : Program} {N : Nat} {e : Env} {w : World}
/-- where the world may stand at operation i: ahead of the turning one, or behind it -/
def Phase (l : List Oper) (m i : Nat) (w w1 : World) (p : Value → World → Prop) : Prop :=
  (Below w.heap.size w w1 ∧ ancOf l l.length i m = false) ∨ ((∃ v, p v w1) ∧ ancOf l l.length m i = false)
def AfterM (e1 : Env) (d : Nat) (p : Value → World → Prop) : Env → World → Prop := fun e2 w2 => p (e2 d) w2 ∧ ∀ j, j ≠ d → e2 j = e1 j
def DrawStepsM (P : Program) (N : Nat) (l : List Oper) (ys : List Yd) (e : Env) (w : World) (m : Nat) (p : Value → World → Prop) : Nat → List Oper → Prop
  | _, [] => True
  | i, o :: r => (∀ e1 w1, Phase l m i w w1 p → (∀ j, j < l.length → memb ((aft o).map (·.on)) j = true → ∀ (y : Yd) (o' : Oper), ys[j]? = some y → l[j]? = some o' → y.holds (e1 (dstOf o')) w1) → (∀ (j : Nat) (o' : Oper), l[j]? = some o' → ancOf l l.length j i = true → e1 (dstOf o') = e (dstOf o')) → 
      bif Nat.beq i m then (Below w.heap.size w w1 → Ops P N l.toArray (AfterM (ext (mix e1 e (l.map dstOf)) (depFr l ys (aft o))) (dstOf o) p) [o] (ext (mix e1 e (l.map dstOf)) (depFr l ys (aft o))) w1)
      else Ops P N l.toArray (After i (ext (mix e1 e (l.map dstOf)) (depFr l ys (aft o))) w1 (dstOf o) (ys.getD i (.pr fun _ _ => True))) [o] (ext (mix e1 e (l.map dstOf)) (depFr l ys (aft o))) w1) ∧ DrawStepsM P N l ys e w m p (i + 1) r

end
end Go.Proofs.YtdedegbendjmbaaGreatDoor.Vc
/-
  Copies, the least of two numbers, and unsigned arithmetic. Conditions: as each rule names them.
-/
namespace Go.Proofs.YtdedegbendjmbaaGreatDoor.Vc
open Go.RowKit
section
variable {P : Program} {N : Nat} {ops : Array Oper} {K : Env → World → Prop} {rest : List Oper} {e : Env} {w0 w w' : World} {ks : List Ck} {d : Nat} {ty : TypeId} {pos : String} {af : Array Edge}

theorem Cd.cond_pt {Q : Post} {c : Operand} {x y : Code} {p : Prop} [Decidable p] (hc : ev e c = .bool (decide p)) (hp : p) (h1 : Cd P N x Q e w) : Cd P N (.cond c x y) Q e w := .cond_t (by rw [hc, decide_eq_true hp]) h1
theorem Cd.cond_pf {Q : Post} {c : Operand} {x y : Code} {p : Prop} [Decidable p] (hc : ev e c = .bool (decide p)) (hp : ¬ p) (h1 : Cd P N y Q e w) : Cd P N (.cond c x y) Q e w := .cond_f (by rw [hc, decide_eq_false hp]) h1

section
variable {x y : Operand} {xt yt : TypeId} {i j : Int}
theorem wrap_u64_in (i : Int) (h : 0 ≤ i ∧ i ≤ 18446744073709551615) : IntKind.u64.wrap i = i := by rw [IntKind.wrap_u64]; omega
theorem Ops.convK {k k' : IntKind} [Und P yt (.int k')] (hx : ev e x = .int k i) (hb : Nat.blt d N = true) (hw : k'.wrap i = i) {u : TypeDesc} [Und P xt u] (hK : Ops P N ops K rest (upd e d (.int k' i)) w) :
    Ops P N ops K (⟨some d, .convert xt yt x, ty, pos, af, none⟩ :: rest) e w :=
  .val (by simp [execOp, hx, convert, run_underlying (Und.out (P := P) (t := xt)), run_underlying (Und.out (P := P) (t := yt)), Conv.intToInt, hw]) hb hK
end
end
end Go.Proofs.YtdedegbendjmbaaGreatDoor.Vc
/-
  The walk of slices.Repeat, of small products. Conditions: as each states them.
-/
namespace Go.Proofs.YtdedegbendjmbaaGreatDoor.Vc
open Go.RowKit

/-- n elements made of copies of one -/
def rep (a n : Nat) (x v : Int) : List Int := List.replicate a x ++ List.replicate (n - a) v
end Go.Proofs.YtdedegbendjmbaaGreatDoor.Vc
/-
  Plain mathematics of orbits' labels: a scan that paints one orbit after another, and a search by a stack that paints the same. Conditions: as each states them. No program in sight.
-/
namespace Go.Proofs.YtdedegbendjmbaaGreatDoor.Vc

theorem sub_len {α : Type} [DecidableEq α] : ∀ (a b : List α), a.Nodup → (∀ x ∈ a, x ∈ b) → a.length ≤ b.length
  | [], _, _, _ => Nat.zero_le _
  | x :: a, b, hn, h => by
    simp only [List.nodup_cons] at hn
    have h1 := sub_len a (b.erase x) hn.2 (fun y hy => by
      rw [List.mem_erase_of_ne (fun e => hn.1 (by rw [← e]; exact hy))]
      exact h y (by simp [hy]))
    have hx := h x (by simp)
    have h2 := List.length_erase_of_mem hx
    have h3 := List.length_pos_of_mem hx
    simp only [List.length_cons]
    omega
theorem sub_all {α : Type} [DecidableEq α] {a b : List α} (hn : a.Nodup) (h : ∀ x ∈ a, x ∈ b) (hl : b.length ≤ a.length) : ∀ x ∈ b, x ∈ a := by
  intro y hy
  apply Classical.byContradiction
  intro hya
  have := sub_len (y :: a) b (by simp [hya, hn]) (fun x hx => by
    rcases List.mem_cons.1 hx with rfl | hx
    · exact hy
    · exact h x hx)
  simp at this
  omega

def Inj (N : Nat) (xss : List (List Int)) : Prop := ∀ p ∈ xss, ∀ x y : Int, 0 ≤ x → x < N → 0 ≤ y → y < N → gi p x = gi p y → x = y

theorem Reach.range {N : Nat} {xss : List (List Int)} (hs : Sys N xss) {x y : Int} (h0 : 0 ≤ x) (h1 : x < N) (h : Reach xss x y) : 0 ≤ y ∧ y < N := by
  induction h with
  | refl => exact ⟨h0, h1⟩
  | step _ hp ih => exact (hs _ hp).2 _ ih.1 ih.2

theorem Reach.back {N : Nat} {xss : List (List Int)} (hs : Sys N xss) (hi : Inj N xss) {x : Int} (h0 : 0 ≤ x) (h1 : x < N) {p : List Int} (hp : p ∈ xss) : Reach xss (gi p x) x := by
  have hy := (hs p hp).2 x h0 h1
  obtain ⟨g, _, hm⟩ := orbit_spec hs hy.1 hy.2
  -- the orbit of the image, moved once more, is itself
  have key := sub_all (a := (orbit N xss (gi p x)).map (gi p)) (b := orbit N xss (gi p x)) (by
      rw [List.nodup_iff_pairwise_ne, List.pairwise_map]
      refine List.Pairwise.imp_of_mem ?_ g.nodup
      intro a b ha hb hab e
      exact hab (hi p hp a b (g.range a ha).1 (g.range a ha).2 (g.range b hb).1 (g.range b hb).2 e))
    (fun z hz => by
      obtain ⟨u, hu, rfl⟩ := List.mem_map.1 hz
      exact (hm _).2 (.step ((hm u).1 hu) hp)) (by simp)
  obtain ⟨u, hu, e⟩ := List.mem_map.1 (key (gi p x) ((hm _).2 .refl))
  have := hi p hp u x (g.range u hu).1 (g.range u hu).2 h0 h1 e
  subst this
  exact (hm u).1 hu
theorem Reach.symm {N : Nat} {xss : List (List Int)} (hs : Sys N xss) (hi : Inj N xss) {x y : Int} (h0 : 0 ≤ x) (h1 : x < N) (h : Reach xss x y) : Reach xss y x := by
  induction h with
  | refl => exact .refl
  | step hr hp ih =>
    have hy := hr.range hs h0 h1
    exact (Reach.back hs hi hy.1 hy.2 hp).trans ih

def paint (L : List Int) (c : Int) : List Int → List Int
  | [] => L
  | x :: xs => paint (L.set x.toNat c) c xs
theorem paint_length : ∀ (xs L : List Int) (c : Int), (paint L c xs).length = L.length
  | [], _, _ => rfl
  | x :: xs, L, c => by rw [paint, paint_length xs]; simp
theorem gi_paint {N : Nat} : ∀ (xs L : List Int) (c : Int), L.length = N → (∀ x ∈ xs, 0 ≤ x ∧ x < N) → ∀ x : Int, 0 ≤ x → gi (paint L c xs) x = if x ∈ xs then c else gi L x
  | [], _, _, _, _, x, _ => by simp [paint]
  | y :: xs, L, c, hl, h, x, hx => by
    have hy := h y (by simp)
    rw [paint, gi_paint xs (L.set y.toNat c) c (by simpa using hl) (fun z hz => h z (by simp [hz])) x hx, gi_set hy.1 (by rw [hl]; exact hy.2) hx]
    by_cases h1 : x ∈ xs
    · simp [h1]
    · rw [if_neg h1]
      by_cases h2 : y = x
      · subst h2; simp
      · rw [if_neg h2, if_neg]
        simp only [List.mem_cons, not_or]
        exact ⟨fun e => h2 e.symm, h1⟩

/-- the scan -/
def lab (N : Nat) (xss : List (List Int)) : Nat → List Int × Int
  | 0 => (List.replicate N (-1), 0)
  | i + 1 => if 0 ≤ gi (lab N xss i).1 i then lab N xss i else (paint (lab N xss i).1 (lab N xss i).2 (orbit N xss i), (lab N xss i).2 + 1)
theorem lab_neg {N : Nat} {xss : List (List Int)} {i : Nat} (h : ¬ 0 ≤ gi (lab N xss i).1 i) : lab N xss (i + 1) = (paint (lab N xss i).1 (lab N xss i).2 (orbit N xss i), (lab N xss i).2 + 1) := by
  show (if _ then _ else _) = _
  rw [if_neg h]
theorem lab_pos {N : Nat} {xss : List (List Int)} {i : Nat} (h : 0 ≤ gi (lab N xss i).1 i) : lab N xss (i + 1) = lab N xss i := by
  show (if _ then _ else _) = _
  rw [if_pos h]
theorem lab_length (N : Nat) (xss : List (List Int)) : ∀ i, (lab N xss i).1.length = N
  | 0 => by simp [lab]
  | i + 1 => by
    simp only [lab]
    split
    · exact lab_length N xss i
    · rw [paint_length]; exact lab_length N xss i
theorem lab_count (N : Nat) (xss : List (List Int)) : ∀ i, 0 ≤ (lab N xss i).2 ∧ (lab N xss i).2 ≤ i
  | 0 => by simp [lab]
  | i + 1 => by
    have := lab_count N xss i
    simp only [lab]
    split
    · omega
    · simp only; omega
theorem gi_rep {N : Nat} {v : Int} {x : Int} (h0 : 0 ≤ x) (h1 : x < N) : gi (List.replicate N v) x = v := by
  simp [gi, List.getD_eq_getElem?_getD, List.getElem?_replicate, show x.toNat < N by omega]
theorem lab_mem {N : Nat} {xss : List (List Int)} (hs : Sys N xss) : ∀ i, i ≤ N → ∀ x : Int, 0 ≤ x → x < N → (0 ≤ gi (lab N xss i).1 x ↔ ∃ j : Nat, j < i ∧ Reach xss j x)
  | 0, _, x, h0, h1 => by
    simp only [lab, gi_rep h0 h1]
    constructor
    · intro h; omega
    · rintro ⟨j, hj, _⟩; omega
  | i + 1, hi, x, h0, h1 => by
    have ih := lab_mem hs i (by omega)
    have hc := lab_count N xss i
    have ho := orbit_spec hs (pt := (i : Int)) (by omega) (by omega)
    simp only [lab]
    split
    · rename_i hl
      rw [ih x h0 h1]
      constructor
      · rintro ⟨j, hj, hr⟩; exact ⟨j, by omega, hr⟩
      · rintro ⟨j, hj, hr⟩
        by_cases hji : j = i
        · subst hji
          obtain ⟨j', hj', hr'⟩ := (ih j (by omega) (by omega)).1 hl
          exact ⟨j', hj', hr'.trans hr⟩
        · exact ⟨j, by omega, hr⟩
    · simp only
      rw [gi_paint _ _ _ (lab_length N xss i) ho.1.range x h0]
      by_cases hm : x ∈ orbit N xss i
      · rw [if_pos hm]
        exact ⟨fun _ => ⟨i, by omega, (ho.2.2 x).1 hm⟩, fun _ => hc.1⟩
      · rw [if_neg hm, ih x h0 h1]
        constructor
        · rintro ⟨j, hj, hr⟩; exact ⟨j, by omega, hr⟩
        · rintro ⟨j, hj, hr⟩
          by_cases hji : j = i
          · subst hji; exact absurd ((ho.2.2 x).2 hr) hm
          · exact ⟨j, by omega, hr⟩

/-- a search by a stack, from an unpainted point -/
structure Dfs (N : Nat) (xss : List (List Int)) (i c : Int) (L0 L op : List Int) (bx : Int) (k : Nat) : Prop where
  len : L.length = N
  old : ∀ x : Int, 0 ≤ x → x < N → 0 ≤ gi L0 x → gi L x = gi L0 x
  new : ∀ x : Int, 0 ≤ x → x < N → gi L0 x < 0 → gi L x = gi L0 x ∨ (gi L x = c ∧ Reach xss i x)
  start : gi L i = c
  opn : ∀ x ∈ op, 0 ≤ x ∧ x < N ∧ gi L0 x < 0 ∧ gi L x = c
  clo : ∀ x : Int, 0 ≤ x → x < N → gi L0 x < 0 → gi L x = c → x ∉ op → ∀ p ∈ (if x = bx then xss.take k else xss), 0 ≤ gi L (gi p x)

section
variable {N : Nat} {xss : List (List Int)} {i c : Int} {L0 L op : List Int} {bx : Int} {k : Nat}
end

/-- how many are unpainted -/
def unl (L : List Int) : Nat := L.countP (fun x => decide (x < 0))
theorem unl_set {L : List Int} {x c : Int} (h0 : 0 ≤ x) (h1 : x < L.length) (hx : gi L x < 0) (hc : 0 ≤ c) : unl (L.set x.toNat c) + 1 = unl L := by
  obtain ⟨k, rfl⟩ : ∃ k : Nat, x = k := ⟨x.toNat, by omega⟩
  have hk : k < L.length := by omega
  rw [gi_mem hk] at hx
  simp only [unl, Int.toNat_natCast]
  rw [List.countP_set (h := hk)]
  have : 0 < L.countP (fun x => decide (x < 0)) := List.countP_pos_iff.2 ⟨L[k], List.getElem_mem _, by simpa using hx⟩
  simp [hx, show ¬ c < 0 by omega]
  omega
end Go.Proofs.YtdedegbendjmbaaGreatDoor.Vc
/-
  The walk of the labels of orbits. Conditions: as each states them.
-/
namespace Go.Proofs.YtdedegbendjmbaaGreatDoor.Vc
open Go.RowKit

theorem St.shrink {w0 w : World} {ks : List Ck} {k : Ck} (h : St w0 w ks) (i : Nat) (hk : ks[i]? = some k) (m : Nat) (hm : m ≤ k.n) (hM : isM k.vs = false) : St w0 w (ks.set i { k with n := m, vs := k.vs.take m }) := by
  have hilt := (List.getElem?_eq_some_iff.1 hk).1
  refine ⟨h.below, fun x hx => ?_, ?_⟩
  · obtain ⟨j, hj, rfl⟩ := List.mem_iff_getElem.1 hx
    have hj' : j < ks.length := by simpa using hj
    rw [List.getElem_set]
    split
    · obtain ⟨h1, h2, h3, h4⟩ := h.getC hk hM
      refine .ofC (isM_take m hM) ⟨by simp; omega, by show m ≤ k.c; omega, h3, ?_⟩
      rcases h4 with h4 | ⟨g, o, cur, hA, hg, hh, hs, hc⟩
      · exact .inl h4
      · refine .inr ⟨g, o, cur, hA, hg, hh, hs, fun j hj => ?_⟩
        have hj : j < m := hj
        show _ = (k.vs.take m)[j]?
        rw [hc j (by omega), List.getElem?_take, if_pos hj]
    · exact h.own _ (List.getElem_mem _)
  · rw [filterMap_set Ck.blk ks i k { k with n := m, vs := k.vs.take m } hk rfl]
    exact h.apart
theorem St.shrinkI {w0 w : World} {ks : List Ck} {t : TypeId} {A : Option Addr} {n c : Nat} {xs : List Int} (h : St w0 w ks) (i : Nat) (hk : ks[i]? = some (CkI t A n c xs)) (m : Nat) (hm : m ≤ n) : St w0 w (ks.set i (CkI t A m c (xs.take m))) := by
  have := h.shrink i hk m hm (isM_I _)
  simpa [CkI] using this

end Go.Proofs.YtdedegbendjmbaaGreatDoor.Vc
/-
  The walks that tell whether moves are a maniplex. Conditions: as each states them.
-/
namespace Go.Proofs.YtdedegbendjmbaaGreatDoor.Vc
open Go.RowKit

def Comm (xss : List (List Int)) (i k f : Nat) : Prop := gi (gl xss k) (gi (gl xss i) f) = gi (gl xss i) (gi (gl xss k) f) ∧ gi (gl xss i) f ≠ gi (gl xss k) f
instance (xss : List (List Int)) (i k f : Nat) : Decidable (Comm xss i k f) := by unfold Comm; exact inferInstance
def Rows1 (xss : List (List Int)) : Prop := ∀ p ∈ xss, p.length = (gl xss 0).length ∧ IsPerm p ∧ IsFree p
instance (xss : List (List Int)) : Decidable (Rows1 xss) := by unfold Rows1; exact inferInstance
def Mani (xss : List (List Int)) : Prop :=
  (1 ≤ xss.length ∧ xss.length ≤ 5) ∧ (2 ≤ (gl xss 0).length ∧ (gl xss 0).length ≤ 400) ∧ Rows1 xss ∧ (∀ i, i < xss.length → ∀ k, k < xss.length → i + 2 ≤ k → ∀ f, f < (gl xss 0).length → Comm xss i k f) ∧ (orbit (gl xss 0).length xss 0).length = (gl xss 0).length
instance (xss : List (List Int)) : Decidable (Mani xss) := by unfold Mani; exact inferInstance

/-- rows told one after another -/
def Part (xss : List (List Int)) (k : Nat) : Prop := ∀ p ∈ xss.take k, p.length = (gl xss 0).length ∧ IsPerm p ∧ IsFree p
end Go.Proofs.YtdedegbendjmbaaGreatDoor.Vc
/-
  A statement whose order Go leaves open, with any operations that turn memory: each world's property holds till the next of them. Conditions: as each rule names them.
-/
namespace Go.Proofs.YtdedegbendjmbaaGreatDoor.Vc
open Go.RowKit

def dsl (l : List Oper) : List Nat := l.filterMap (·.dst)
theorem filterMap_inj {α β : Type} (f : α → Option β) : ∀ (l : List α), (l.filterMap f).Nodup → ∀ (i j : Nat) (a b : α) (d : β), l[i]? = some a → l[j]? = some b → f a = some d → f b = some d → i = j
  | [], _, i, j, a, b, d, hi, _, _, _ => by simp at hi
  | x :: l, hn, i, j, a, b, d, hi, hj, ha, hb => by
    have mem : ∀ (k : Nat) (c : α), l[k]? = some c → f c = some d → d ∈ l.filterMap f := fun k c hk hc => List.mem_filterMap.2 ⟨c, List.mem_of_getElem? hk, hc⟩
    cases hx : f x with
    | none =>
      rw [List.filterMap_cons, hx] at hn
      cases i with
      | zero => simp at hi; subst hi; rw [hx] at ha; cases ha
      | succ i =>
        cases j with
        | zero => simp at hj; subst hj; rw [hx] at hb; cases hb
        | succ j => rw [filterMap_inj f l hn i j a b d (by simpa using hi) (by simpa using hj) ha hb]
    | some y =>
      rw [List.filterMap_cons, hx] at hn
      simp only [List.nodup_cons] at hn
      cases i with
      | zero =>
        simp at hi; subst hi
        rw [hx] at ha; cases ha
        cases j with
        | zero => rfl
        | succ j => exact absurd (mem j b (by simpa using hj) hb) hn.1
      | succ i =>
        cases j with
        | zero =>
          simp at hj; subst hj
          rw [hx] at hb; cases hb
          exact absurd (mem i a (by simpa using hi) ha) hn.1
        | succ j => rw [filterMap_inj f l hn.2 i j a b d (by simpa using hi) (by simpa using hj) ha hb]

def valOf (o : Oper) (e : Env) : Value := match o.dst with
  | some d => e d
  | none => undef
def isEx : Yd → Bool
  | .ex _ => true
  | .pr _ => false
def drawOkN (N : Nat) (l : List Oper) (ys : List Yd) (ms : List Nat) : Bool :=
  l.all (fun o => match o.dst with | some d => Nat.blt d N | none => true) && decide ((dsl l).Nodup) && (l.zipIdx.all fun p => (aft p.1).all fun ed => Nat.blt ed.on p.2) && Nat.beq l.length ys.length && (l.zip ys).all (fun p => p.1.dst.isSome || !isEx p.2) && decide ms.Nodup && ms.all (fun m => Nat.blt m l.length) && (ys.zipIdx.all fun p => !(isEx p.1) || !(ms.contains p.2))
def loOf (l : List Oper) (ms : List Nat) (k : Nat) : Nat := ms.countP fun m => ancOf l l.length k m
def hiOf (l : List Oper) (ms : List Nat) (k : Nat) : Nat := ms.countP fun m => !(ancOf l l.length m k) && !(Nat.beq m k)
def phOf (l : List Oper) (ms : List Nat) (k : Nat) : Nat := ms.countP fun m => Nat.beq m k || ancOf l l.length k m
/-- one that turns, in order with all that turn -/
def chainAt (l : List Oper) (ms : List Nat) (m : Nat) : Bool := ms.all fun m' => Nat.beq m' m || ancOf l l.length m m' || ancOf l l.length m' m
def Yd.at_ (c ph : Nat) : Yd → Value → World → Prop
  | .ex v, u, _ => u = v
  | .pr p, u, w => c = ph → p u w
def endFrN : List Oper → List Yd → (Nat → Value) → Nat → List (Nat × Value)
  | o :: l, y :: ys, u, i => match o.dst, y with
    | some d, .ex v => (d, v) :: endFrN l ys u (i + 1)
    | some d, .pr _ => (d, u i) :: endFrN l ys u (i + 1)
    | none, _ => endFrN l ys u (i + 1)
  | _, _, _, _ => []
def depFrN (l : List Oper) (ys : List Yd) : List Edge → List (Nat × Value)
  | [] => []
  | ed :: r => match ys[ed.on]?, (l[ed.on]?).bind (·.dst) with
    | some (.ex v), some d => (d, v) :: depFrN l ys r
    | _, _ => depFrN l ys r

theorem le_of_lo {a b c : Nat} (h : a ≤ c) (e : a = b) : b ≤ c := e ▸ h
theorem le_of_hi {a b c : Nat} (h : c ≤ a) (e : a = b) : c ≤ b := e ▸ h
section
variable {P : Program} {N : Nat} {e : Env} {w : World}
def AfterN (o : Oper) (y : Yd) (e1 : Env) (w1 : World) : Env → World → Prop := fun e2 w2 => Below w1.heap.size w1 w2 ∧ y.holds (valOf o e2) w2 ∧ ∀ j, o.dst ≠ some j → e2 j = e1 j
def AfterT (o : Oper) (y : Yd) (e1 : Env) : Env → World → Prop := fun e2 w2 => y.holds (valOf o e2) w2 ∧ ∀ j, o.dst ≠ some j → e2 j = e1 j
theorem upd_at (e1 : Env) (d : Nat) (v : Value) : upd e1 d v d = v := by unfold upd; rw [Nat.beq_refl]; rfl
theorem upd_ne (e1 : Env) {d j : Nat} (v : Value) (h : j ≠ d) : upd e1 d v j = e1 j := by
  have : Nat.beq j d = false := by
    cases hb : Nat.beq j d with
    | false => rfl
    | true => exact absurd (Nat.eq_of_beq_eq_true hb) h
  unfold upd; rw [this]; rfl
theorem AfterN.dn {o : Oper} {y : Yd} {e1 : Env} {w1 w2 : World} {d : Nat} {v : Value} (hd : o.dst = some d) (hb : Below w1.heap.size w1 w2) (hv : y.holds v w2) : AfterN o y e1 w1 (upd e1 d v) w2 := by
  refine ⟨hb, ?_, fun j hj => upd_ne e1 v (fun h => hj (by rw [hd, h]))⟩
  unfold valOf; rw [hd]
  show y.holds (upd e1 d v d) w2
  rw [upd_at]; exact hv
theorem AfterT.dn {o : Oper} {y : Yd} {e1 : Env} {w2 : World} {d : Nat} {v : Value} (hd : o.dst = some d) (hv : y.holds v w2) : AfterT o y e1 (upd e1 d v) w2 := by
  refine ⟨?_, fun j hj => upd_ne e1 v (fun h => hj (by rw [hd, h]))⟩
  unfold valOf; rw [hd]
  show y.holds (upd e1 d v d) w2
  rw [upd_at]; exact hv
theorem AfterT.st {o : Oper} {y : Yd} {e1 : Env} {w2 : World} (hd : o.dst = none) (hv : y.holds undef w2) : AfterT o y e1 e1 w2 := by
  refine ⟨?_, fun j _ => rfl⟩
  unfold valOf; rw [hd]; exact hv

def StepN (P : Program) (N : Nat) (l : List Oper) (ys : List Yd) (ms : List Nat) (e : Env) (w : World) (i : Nat) (o : Oper) : Prop :=
  ∀ (e1 : Env) (w1 : World) (c : Nat), loOf l ms i ≤ c → c ≤ hiOf l ms i → (c = 0 → Below w.heap.size w w1) →
    (∀ (j : Nat) (y : Yd) (o' : Oper), ancOf l l.length i j = true → ys[j]? = some y → l[j]? = some o' → y.at_ c (phOf l ms j) (valOf o' e1) w1) →
    (∀ (j : Nat) (o' : Oper), l[j]? = some o' → ancOf l l.length j i = true → valOf o' e1 = valOf o' e) →
    (∀ (m : Nat) (y : Yd) (o' : Oper), memb ms m = true → chainAt l ms m = true → phOf l ms m = c → ys[m]? = some y → l[m]? = some o' → y.at_ c (phOf l ms m) (valOf o' e1) w1) →
    bif memb ms i then Ops P N l.toArray (AfterT o (ys.getD i (.pr fun _ _ => True)) (ext (mix e1 e (dsl l)) (depFrN l ys (aft o)))) [o] (ext (mix e1 e (dsl l)) (depFrN l ys (aft o))) w1
    else Ops P N l.toArray (AfterN o (ys.getD i (.pr fun _ _ => True)) (ext (mix e1 e (dsl l)) (depFrN l ys (aft o))) w1) [o] (ext (mix e1 e (dsl l)) (depFrN l ys (aft o))) w1
def StepsN (P : Program) (N : Nat) (l : List Oper) (ys : List Yd) (ms : List Nat) (e : Env) (w : World) : Nat → List Oper → Prop
  | _, [] => True
  | i, o :: r => StepN P N l ys ms e w i o ∧ StepsN P N l ys ms e w (i + 1) r
theorem StepsN.get {l : List Oper} {ys : List Yd} {ms : List Nat} : ∀ {r : List Oper} {i : Nat}, StepsN P N l ys ms e w i r → ∀ k o, r[k]? = some o → StepN P N l ys ms e w (i + k) o
  | [], _, _, k, o, hk => by simp at hk
  | x :: r, i, h, 0, o, hk => by simp at hk; subst hk; exact h.1
  | x :: r, i, h, k + 1, o, hk => by
    have := StepsN.get h.2 k o (by simpa using hk)
    rw [show i + 1 + k = i + (k + 1) by omega] at this
    exact this

theorem depFrN_mt {l : List Oper} {ys : List Yd} {e1 : Env} : ∀ (af : List Edge), (∀ ed ∈ af, ∀ (v : Value) (o' : Oper), ys[ed.on]? = some (.ex v) → l[ed.on]? = some o' → valOf o' e1 = v) → Mt e1 (depFrN l ys af)
  | [], _ => trivial
  | ed :: r, h => by
    have hr := depFrN_mt r (fun x hx => h x (List.mem_cons_of_mem _ hx))
    unfold depFrN
    split
    · rename_i v d hy hd
      refine ⟨?_, hr⟩
      cases ho : l[ed.on]? with
      | none => rw [ho] at hd; cases hd
      | some o' =>
        rw [ho] at hd
        have hd' : o'.dst = some d := hd
        have := h ed (by simp) v o' hy ho
        unfold valOf at this
        rw [hd'] at this
        exact this
    · exact hr

theorem endFrN_eq {e1 e : Env} : ∀ (l : List Oper) (ys : List Yd) (i : Nat), l.length = ys.length → (dsl l).Nodup → (∀ (k : Nat) (v : Value) (o : Oper), ys[k]? = some (.ex v) → l[k]? = some o → valOf o e1 = v ∨ o.dst = none) →
    ∃ u : Nat → Value, ext e (endFrN l ys u i) = mix e1 e (dsl l) ∧ (∀ (k : Nat) (o : Oper), l[k]? = some o → u (i + k) = valOf o e1)
  | [], [], i, _, _, _ => ⟨fun _ => undef, by funext j; rfl, fun k o h => by simp at h⟩
  | [], y :: ys, i, hl, _, _ => by simp at hl
  | o :: l, [], i, hl, _, _ => by simp at hl
  | o :: l, y :: ys, i, hl, hn, h => by
    have hn' : (dsl l).Nodup := by
      unfold dsl at hn ⊢
      rw [List.filterMap_cons] at hn
      split at hn
      · exact hn
      · exact (List.nodup_cons.1 hn).2
    obtain ⟨u, hu, hu2⟩ := endFrN_eq (e1 := e1) (e := e) l ys (i + 1) (by simpa using hl) hn' (fun k v o' hy ho => h (k + 1) v o' (by simpa using hy) (by simpa using ho))
    have cng : ∀ (l : List Oper) (ys : List Yd) (i : Nat) (u u' : Nat → Value), (∀ k, i ≤ k → u k = u' k) → endFrN l ys u i = endFrN l ys u' i := by
      intro l
      induction l with
      | nil => intros; rfl
      | cons o l ih =>
        intro ys i u u' hk
        cases ys with
        | nil => rfl
        | cons y ys =>
          have h1 := ih ys (i + 1) u u' (fun k hk' => hk k (by omega))
          simp only [endFrN]
          rw [h1, hk i (by omega)]
    have hc := cng l ys (i + 1) (fun k => if k = i then valOf o e1 else u k) u (fun k hk => by show (if k = i then _ else _) = _; rw [if_neg (by omega)])
    refine ⟨fun k => if k = i then valOf o e1 else u k, ?_, fun k o' hk => ?_⟩
    · cases hd : o.dst with
      | none =>
        have e1' : dsl (o :: l) = dsl l := by unfold dsl; rw [List.filterMap_cons, hd]
        simp only [endFrN, hd, hc, hu, e1']
      | some d =>
        have e1' : dsl (o :: l) = d :: dsl l := by unfold dsl; rw [List.filterMap_cons, hd]
        have hval : valOf o e1 = e1 d := by unfold valOf; rw [hd]
        have hstep : ∀ v, v = e1 d → upd (mix e1 e (dsl l)) d v = mix e1 e (d :: dsl l) := by
          intro v hv
          funext j
          simp only [upd, mix, memb]
          cases hb : Nat.beq j d with
          | true => rw [Nat.eq_of_beq_eq_true hb, hv]; rfl
          | false => rfl
        rw [e1']
        cases y with
        | ex v =>
          have h0 := h 0 v o rfl rfl
          simp only [endFrN, hd, ext, hc, hu]
          refine hstep v ?_
          rcases h0 with h0 | h0
          · rw [← h0, hval]
          · rw [hd] at h0; cases h0
        | pr p =>
          simp only [endFrN, hd, ext, hc, hu, if_pos]
          exact hstep _ hval
    · cases k with
      | zero => simp at hk; subst hk; simp
      | succ k =>
        have := hu2 k o' (by simpa using hk)
        show (if i + (k + 1) = i then _ else u (i + (k + 1))) = _
        rw [if_neg (by omega), ← this]; congr 1; omega

theorem countP_le_of {ms : List Nat} {p q : Nat → Bool} (h : ∀ m ∈ ms, p m = true → q m = true) : ms.countP p ≤ ms.countP q := List.countP_mono_left h

theorem Cd.drawN {id : Nat} {l : List Oper} {Q : Post} (ms : List Nat) (ys : List Yd) (hm : P.follows .mixedOrders = true) (hok : drawOkN N l ys ms = true) (hlasts : ∀ y ∈ ys, y.lasts)
    (hsteps : StepsN P N l ys ms e w 0 l) (hend : ∀ u w1, (ms = [] → Below w.heap.size w w1) → (∀ (k : Nat) (p : Value → World → Prop), ys[k]? = some (Yd.pr p) → phOf l ms k = ms.length → p (u k) w1) → Q .normal (ext e (endFrN l ys u 0)) w1) : Cd P N (.region id l.toArray true) Q e w := .mk' fun a ha => by
  simp only [drawOkN, Bool.and_eq_true, List.all_eq_true, decide_eq_true_eq] at hok
  obtain ⟨⟨⟨⟨⟨⟨⟨h1, h2⟩, h3⟩, hlen⟩, hnone⟩, hmn⟩, hml⟩, hmy⟩ := hok
  have hlen' : l.length = ys.length := Nat.eq_of_beq_eq_true hlen
  have hback : ∀ (i : Nat) (o : Oper), l[i]? = some o → ∀ ed ∈ aft o, ed.on < i := by
    intro i o ho ed hed
    have := h3 (o, i) (by
      obtain ⟨hi, hio⟩ := List.getElem?_eq_some_iff.1 ho
      rw [List.mem_iff_getElem?]
      exact ⟨i, by simp [ho]⟩)
    simpa [Nat.blt_eq] using this ed hed
  have hdN : ∀ (i : Nat) (o : Oper) (d : Nat), l[i]? = some o → o.dst = some d → d < N := by
    intro i o d ho hd
    have := h1 o (List.mem_of_getElem? ho)
    rw [hd] at this
    simpa [Nat.blt_eq] using this
  have hexd : ∀ (i : Nat) (o : Oper) (v : Value), l[i]? = some o → ys[i]? = some (.ex v) → o.dst ≠ none := by
    intro i o v ho hy hd
    have := hnone (o, .ex v) (by
      rw [List.mem_iff_getElem?]
      exact ⟨i, by rw [List.getElem?_zip_eq_some]; exact ⟨ho, hy⟩⟩)
    simp [hd, isEx] at this
  have hmpr : ∀ (m : Nat) (y : Yd), m ∈ ms → ys[m]? = some y → ∃ p, y = .pr p := by
    intro m y hmm hy
    have := hmy (y, m) (by
      obtain ⟨hi, hio⟩ := List.getElem?_eq_some_iff.1 hy
      rw [List.mem_iff_getElem?]
      exact ⟨m, by simp [hy]⟩)
    cases y with
    | ex v => simp [isEx, hmm] at this
    | pr p => exact ⟨p, rfl⟩
  refine wp_region_any hm ?_
  let cnt : Array Bool → Nat := fun listed => ms.countP fun m => listed.getD m false
  have key : ∀ (fuel : Nat) (listed : Array Bool) (a1 : Act) (e1 : Env) (w1 : World), Rep N a1 e1 → (cnt listed = 0 → Below w.heap.size w w1) → (∀ j, memb (dsl l) j = false → e1 j = e j) → listed.size = l.length →
      (∀ (i : Nat) (y : Yd) (o : Oper), listed.getD i false = true → ys[i]? = some y → l[i]? = some o → y.at_ (cnt listed) (phOf l ms i) (valOf o e1) w1) → (∀ (i : Nat) (o : Oper), listed.getD i false = true → l[i]? = some o → ∀ ed ∈ aft o, listed.getD ed.on false = true) → (∀ (i : Nat) (o : Oper), listed.getD i false = false → l[i]? = some o → valOf o e1 = valOf o e) → (l.length - fuel ≤ (List.range l.length).countP fun i => listed.getD i false) →
      wpAny P .any l.toArray (low N Q) fuel listed a1 w1 := by
    have hfin : ∀ (listed : Array Bool) (a1 : Act) (e1 : Env) (w1 : World), Rep N a1 e1 → (cnt listed = 0 → Below w.heap.size w w1) → (∀ j, memb (dsl l) j = false → e1 j = e j) →
        (∀ (i : Nat) (y : Yd) (o : Oper), listed.getD i false = true → ys[i]? = some y → l[i]? = some o → y.at_ (cnt listed) (phOf l ms i) (valOf o e1) w1) → (∀ i, i < l.length → listed.getD i false = true) → low N Q .normal a1 w1 := by
      intro listed a1 e1 w1 hr hb hag hS hall
      have hcnt : cnt listed = ms.length := by
        show ms.countP _ = ms.length
        rw [List.countP_eq_length]
        intro m hmm
        exact hall m (by simpa [Nat.blt_eq] using hml m hmm)
      obtain ⟨u, hu, hu2⟩ := endFrN_eq (e1 := e1) (e := e) l ys 0 hlen' h2 (fun k v o hy ho => .inl (hS k _ o (hall k (List.getElem?_eq_some_iff.1 ho).1) hy ho))
      refine ⟨e1, hr, ?_⟩
      have := hend u w1 (fun h0 => hb (by rw [hcnt, h0]; rfl)) (fun k p hk hph => by
        have hkl : k < l.length := by rw [hlen']; exact (List.getElem?_eq_some_iff.1 hk).1
        have h5 := hS k _ l[k] (hall k hkl) hk (List.getElem?_eq_getElem hkl)
        have h6 := hu2 k l[k] (List.getElem?_eq_getElem hkl)
        rw [Nat.zero_add] at h6
        rw [h6]; exact h5 (by rw [hcnt, hph]))
      rw [hu, mix_eq hag] at this
      exact this
    have hready : ∀ (listed : Array Bool), listed.size = l.length → Region.ready .any l.toArray listed = [] → ∀ i, i < l.length → listed.getD i false = true := by
      intro listed hsz hnil i
      induction i using Nat.strongRecOn with
      | _ i ih =>
        intro hi
        cases hli : listed.getD i false with
        | true => rfl
        | false =>
          exfalso
          have : i ∈ Region.ready .any l.toArray listed := by
            rw [mem_ready]
            refine ⟨?_, l[i], by simp [hi], fun ed hed hbd => ih ed.on (hback i _ (List.getElem?_eq_getElem hi) ed (mem_aft.2 ⟨hed, hbd⟩)) (by have := hback i _ (List.getElem?_eq_getElem hi) ed (mem_aft.2 ⟨hed, hbd⟩); omega)⟩
            rw [Array.getD_eq_getD_getElem?, Array.getElem?_eq_getElem (by omega)] at hli ⊢
            exact hli
          rw [hnil] at this
          cases this
    intro fuel
    induction fuel with
    | zero =>
      intro listed a1 e1 w1 hr hb hag hsz hS hcl hun0 hcnt
      have hall : ∀ i, i < l.length → listed.getD i false = true := by
        have h4 : (List.range l.length).countP (fun i => listed.getD i false) = (List.range l.length).length := by
          have := List.countP_le_length (p := fun i => listed.getD i false) (l := List.range l.length)
          simp at this hcnt ⊢; omega
        rw [List.countP_eq_length] at h4
        intro i hi
        exact h4 i (by simpa using hi)
      refine ⟨?_, hfin listed a1 e1 w1 hr hb hag hS hall⟩
      rw [List.eq_nil_iff_forall_not_mem]
      intro i hi
      obtain ⟨h5, o, ho, _⟩ := mem_ready.1 hi
      have hil : i < l.length := by
        rcases Nat.lt_or_ge i l.length with h | h
        · exact h
        · simp [List.getElem?_eq_none h] at ho
      have h6 := hall i hil
      rw [Array.getD_eq_getD_getElem?, Array.getElem?_eq_getElem (by omega)] at h5 h6
      simp at h5 h6
      rw [h5] at h6; cases h6
    | succ fuel ih =>
      intro listed a1 e1 w1 hr hb hag hsz hS hcl hun0 hcnt
      refine ⟨fun hnil => hfin listed a1 e1 w1 hr hb hag hS (hready listed hsz hnil), fun i hi => ?_⟩
      obtain ⟨hun, o, ho, haf⟩ := mem_ready.1 hi
      have ho' : l[i]? = some o := by simpa using ho
      have hil : i < l.length := (List.getElem?_eq_some_iff.1 ho').1
      have hrd : ∀ ed ∈ aft o, listed.getD ed.on false = true := fun ed hed => haf ed (mem_aft.1 hed).1 (mem_aft.1 hed).2
      have hun' : listed.getD i false = false := by
        have h5 := hun
        rw [Array.getD_eq_getD_getElem?, Array.getElem?_eq_getElem (by omega)] at h5 ⊢
        exact h5
      have hgs : ∀ k, (listed.setIfInBounds i true).getD k false = if k = i then true else listed.getD k false := by
        intro k
        rw [Array.getD_eq_getD_getElem?, Array.getElem?_setIfInBounds]
        by_cases hki : k = i
        · subst hki; rw [if_pos rfl, if_pos (by omega), if_pos rfl]; rfl
        · rw [if_neg (fun e => hki e.symm), if_neg hki, ← Array.getD_eq_getD_getElem?]
      have hlo : loOf l ms i ≤ cnt listed := countP_le_of fun m _ h => ancOf_ready hcl ho' hrd _ _ h
      have hhi : cnt listed ≤ hiOf l ms i := countP_le_of fun m _ h => by
        have hne : Nat.beq m i = false := by
          cases hb : Nat.beq m i with
          | false => rfl
          | true => rw [Nat.eq_of_beq_eq_true hb, hun'] at h; cases h
        have han : ancOf l l.length m i = false := by
          cases hb : ancOf l l.length m i with
          | false => rfl
          | true => have := ancOf_listed hcl _ _ _ hb h; rw [hun'] at this; cases this
        simp [hne, han]
      have hph : ∀ (j : Nat), listed.getD j false = true → phOf l ms j ≤ cnt listed := fun j hj => countP_le_of fun m _ h => by
        rw [Bool.or_eq_true] at h
        rcases h with h | h
        · rw [Nat.eq_of_beq_eq_true h]; exact hj
        · exact ancOf_listed hcl _ _ _ h hj
      have hst := hsteps.get i o ho' e1 w1 (cnt listed)
      rw [Nat.zero_add] at hst
      have hst := hst hlo hhi hb (fun j y o' han hy hoj => hS j y o' (ancOf_ready hcl ho' hrd _ _ han) hy hoj) (fun j o' hj han => by
        refine hun0 j o' ?_ hj
        cases hlj : listed.getD j false with
        | false => rfl
        | true => have := ancOf_listed hcl _ _ _ han hlj; rw [hun'] at this; cases this) (fun m y o' hm hch hphm hy hom => by
        refine hS m y o' ?_ hy hom
        cases hlm : listed.getD m false with
        | true => rfl
        | false =>
          exfalso
          have h8 := countP_one (fun k => listed.getD k false) (fun k => if k = m then true else listed.getD k false) m hlm (fun k => rfl) ms hmn (memb_iff.1 hm)
          have h9 : ms.countP (fun k => if k = m then true else listed.getD k false) ≤ phOf l ms m := countP_le_of fun m' hm' h => by
            by_cases e : m' = m
            · rw [e, Nat.beq_refl]; rfl
            · rw [if_neg e] at h
              simp only [chainAt, List.all_eq_true] at hch
              have h10 := hch m' hm'
              cases h11 : ancOf l l.length m m' with
              | true => rw [Bool.or_true]
              | false =>
                rw [h11, Bool.or_false, Bool.or_eq_true] at h10
                rcases h10 with h10 | h10
                · exact absurd (Nat.eq_of_beq_eq_true h10) e
                · have := ancOf_listed hcl _ _ _ h10 h
                  rw [hlm] at this; cases this
          have h12 : ms.countP (fun k => listed.getD k false) = cnt listed := rfl
          omega)
      rw [mix_eq hag, ext_of_mt (depFrN_mt (aft o) (fun ed hed v o' hy hoj => hS ed.on _ o' (hrd ed hed) hy hoj))] at hst
      let turns : Prop := memb ms i = true
      let KK : Env → World → Prop := fun e2 w2 => (memb ms i = false → Below w1.heap.size w1 w2) ∧ (ys.getD i (.pr fun _ _ => True)).holds (valOf o e2) w2 ∧ ∀ j, o.dst ≠ some j → e2 j = e1 j
      have hwl' : ∃ K : Env → World → Prop, (∀ e2 w2, K e2 w2 → KK e2 w2) ∧ Ops P N l.toArray K [o] e1 w1 := by
        cases hmi : memb ms i with
        | true =>
          rw [hmi] at hst
          exact ⟨_, fun e2 w2 h => ⟨fun h0 => (by rw [hmi] at h0; cases h0), h.1, h.2⟩, hst⟩
        | false =>
          rw [hmi] at hst
          exact ⟨_, fun e2 w2 h => ⟨fun _ => h.1, h.2.1, h.2.2⟩, hst⟩
      obtain ⟨K, hKK, hst'⟩ := hwl'
      have hwl := hst'.run a1 hr
      have hcnt' : cnt (listed.setIfInBounds i true) = if memb ms i = true then cnt listed + 1 else cnt listed := by
        show ms.countP _ = _
        by_cases hmi : memb ms i = true
        · rw [if_pos hmi]
          exact countP_one (fun m => listed.getD m false) (fun m => (listed.setIfInBounds i true).getD m false) i hun' hgs ms hmn (memb_iff.1 hmi)
        · rw [if_neg hmi]
          refine List.countP_congr fun m hmm => ?_
          rw [hgs, if_neg (fun e => hmi (memb_iff.2 (by rw [← e]; exact hmm)))]
      have hnext : ∀ a2 w2, (∃ e2, Rep N a2 e2 ∧ K e2 w2) → wpAny P .any l.toArray (low N Q) fuel (listed.setIfInBounds i true) a2 w2 := by
        intro a2 w2 ⟨e2, hr2, hK2⟩
        obtain ⟨hbl, hy2, hag2⟩ := hKK _ _ hK2
        have hother : ∀ (k : Nat) (o' : Oper), l[k]? = some o' → k ≠ i → valOf o' e2 = valOf o' e1 := by
          intro k o' hok hki
          unfold valOf
          cases hd : o'.dst with
          | none => rfl
          | some d => exact hag2 d (fun h => hki (filterMap_inj _ l h2 k i o' o d hok ho' hd h))
        refine ih _ a2 e2 w2 hr2 (fun h0 => ?_) (fun j hj => ?_) (by simpa using hsz) (fun k y o' hk hy hok => ?_) (fun k o' hk hok ed hed => ?_) (fun k o' hk hok => ?_) ?_
        · rw [hcnt'] at h0
          by_cases hmi : memb ms i = true
          · rw [if_pos hmi] at h0; omega
          · rw [if_neg hmi] at h0
            have := hbl (by simpa using hmi)
            exact (hb h0).trans (this.mono (hb h0).size)
        · have hne : o.dst ≠ some j := by
            intro hd
            have : memb (dsl l) j = true := by rw [memb_iff]; exact List.mem_filterMap.2 ⟨o, List.mem_of_getElem? ho', hd⟩
            rw [this] at hj; cases hj
          rw [hag2 j hne]; exact hag j hj
        · by_cases hki : k = i
          · subst hki
            rw [ho'] at hok
            cases hok
            have : ys.getD k (.pr fun _ _ => True) = y := by simp [List.getD_eq_getElem?_getD, hy]
            rw [this] at hy2
            cases y with
            | ex v => exact hy2
            | pr p => exact fun _ => hy2
          · have hk' : listed.getD k false = true := by rw [hgs, if_neg hki] at hk; exact hk
            have h7 := hS k y o' hk' hy hok
            rw [hother k o' hok hki]
            cases y with
            | ex v => exact h7
            | pr p =>
              intro hc
              rw [hcnt'] at hc
              by_cases hmi : memb ms i = true
              · rw [if_pos hmi] at hc
                have := hph k hk'
                omega
              · rw [if_neg hmi] at hc
                have hl := hlasts _ (List.mem_of_getElem? hy)
                exact hl _ _ _ (h7 hc) (hbl (by simpa using hmi))
        · rw [hgs]
          by_cases hei : ed.on = i
          · rw [if_pos hei]
          · rw [if_neg hei]
            by_cases hki : k = i
            · subst hki
              rw [ho'] at hok; cases hok
              exact hrd ed hed
            · rw [hgs, if_neg hki] at hk
              exact hcl k o' hk hok ed hed
        · rw [hgs] at hk
          by_cases hki : k = i
          · rw [if_pos hki] at hk; cases hk
          · rw [if_neg hki] at hk
            rw [hother k o' hok hki]
            exact hun0 k o' hk hok
        · have hcount : (List.range l.length).countP (fun k => (listed.setIfInBounds i true).getD k false) = (List.range l.length).countP (fun k => listed.getD k false) + 1 :=
            countP_one (fun k => listed.getD k false) (fun k => (listed.setIfInBounds i true).getD k false) i hun' hgs _ List.nodup_range (by simpa using hil)
          rw [hcount]; omega
      unfold wpOp
      rw [ho]
      unfold wpList at hwl
      show if _ then _ else _
      by_cases hw : Region.wanted o (yielded l.toArray a1.tmps) = true
      · rw [if_pos hw] at hwl ⊢
        rcases hwl with h5 | ⟨_, a0, w0, h5⟩
        · refine .inl (Oper.wp_conv h5 (fun a2 w2 hx => ?_) (fun x a w hx hq => hx hq.1))
          exact hnext a2 w2 hx.2
        · exact absurd h5.1 (by simp)
      · rw [if_neg hw] at hwl ⊢
        exact hnext _ _ hwl.2
  refine key l.length (Array.replicate l.length false) a e _ ha (fun _ => ⟨⟨rfl, rfl, rfl, Nat.le_refl _, fun _ _ => rfl⟩, fun _ => Nat.le_add_right _ _⟩) (fun _ _ => rfl) (by simp) (fun i y o hi => ?_) (fun i o hi => ?_) (fun _ _ _ _ => rfl) (by omega)
  · exfalso
    rw [Array.getD_eq_getD_getElem?, Array.getElem?_replicate] at hi
    split at hi <;> simp at hi
  · exfalso
    rw [Array.getD_eq_getD_getElem?, Array.getElem?_replicate] at hi
    split at hi <;> simp at hi
end
end Go.Proofs.YtdedegbendjmbaaGreatDoor.Vc
/-
  The walks of the reference's runs of a word over flags, and of the lengths of a word. Conditions: as each states them.
-/
namespace Go.Proofs.YtdedegbendjmbaaGreatDoor.Vc
open Go.RowKit

/-- where a word leads from x -/
def runW (xss : List (List Int)) (x : Int) (ws : List Int) : Int := ws.foldl (fun x i => gi (gl xss i) x) x
/-- what a word does -/
def doesL (xss : List (List Int)) (F : Nat) (ws : List Int) : List Int := (List.range F).map fun x : Nat => runW xss (x : Int) ws
/-- a maniplex with edges -/
def Grph (xss : List (List Int)) : Prop := Mani xss ∧ 2 ≤ xss.length
instance (xss : List (List Int)) : Decidable (Grph xss) := by unfold Grph; exact inferInstance

end Go.Proofs.YtdedegbendjmbaaGreatDoor.Vc
/-
  The walk of the reference's lengths of a word. Conditions: as it states them.
-/
namespace Go.Proofs.YtdedegbendjmbaaGreatDoor.Vc
open Go.RowKit

theorem RdI.drop {w : World} {A : Option Addr} {n c l : Nat} {xs : List Int} (h : RdI w A n xs) (hl : l ≤ n) (hc : n ≤ c) : RdI w (cutAt A c l) (n - l) (xs.drop l) := by
  have := h.cut (l := l) (h := n) (c := c) hl (Nat.le_refl _) hc
  rwa [List.take_of_length_le (by rw [List.length_drop, h.1]; omega)] at this
end Go.Proofs.YtdedegbendjmbaaGreatDoor.Vc
