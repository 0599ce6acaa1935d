/-
  The walks of the helpers of the laws: sizes, copies, comparisons. Conditions: as each states them.
-/
import Derived.Test.YtpdhjnacnmfbjaaMat
import Derived.Test.YtpdhjnacnmfbjaaInst
import Derived.Test.YtpdhjnacnmfbjaaB1
namespace Go.Proofs.Ytpdhjnacnmfbjaa.Vc
open Go.RowKit

def szI (n : Nat) (left : Int) : Int := if left - n < 0 then -1 else left - n
theorem szInt64S_c (A : Option Addr) (n c : Nat) (left : Int) (w : World) (hn : n ≤ 9223372036854775807) (hl : 0 ≤ left ∧ left ≤ 1048576) : Ret Try.prog 98 [.slice A n c, .int .i64 left] w (fun v w' => v = .int .i64 (szI n left) ∧ w' = w) := by
  refine Ret.of_cd Try.func98 rfl Try.ntmps98 rfl (post1 rfl) ?_
  refine Cd.seq ?_
  refine Cd.region ?_
  refine Ops.mv_int rfl rfl rfl ?_
  refine Ops.nil ?_
  refine thenQ_n ?_
  refine Cd.seq ?_
  refine Cd.region ?_
  refine Ops.mv_int rfl rfl rfl ?_
  refine Ops.mv_sl rfl rfl rfl ?_
  refine Ops.len rfl rfl ?_
  refine Ops.sub rfl rfl rfl (by omega) ?_
  refine Ops.mv_int rfl rfl rfl ?_
  refine Ops.nil ?_
  refine thenQ_n ?_
  refine Cd.seq ?_
  refine Cd.seq ?_
  refine Cd.region ?_
  refine Ops.mv_int rfl rfl rfl ?_
  refine Ops.lss rfl rfl rfl ?_
  refine Ops.nil ?_
  refine thenQ_n ?_
  -- stop: cond
  refine Cd.cond_p _ rfl (fun h => ?_) (fun h => ?_)
  · refine Cd.seq ?_
    refine Cd.region ?_
    refine Ops.mv_int rfl rfl rfl ?_
    refine Ops.nil ?_
    refine thenQ_n ?_
    refine Cd.ret ?_
    refine thenQ_r ?_
    refine ret1_i rfl ?_
    -- stop: end
    exact ⟨by simp [szI, h], rfl⟩
  · refine Cd.skip ?_
    refine thenQ_n ?_
    refine Cd.seq ?_
    refine Cd.region ?_
    refine Ops.mv_int rfl rfl rfl ?_
    refine Ops.mv_int rfl rfl rfl ?_
    refine Ops.nil ?_
    refine thenQ_n ?_
    refine Cd.ret ?_
    refine ret1_i rfl ?_
    -- stop: end
    exact ⟨by simp [szI, h], rfl⟩

def szGo : List Nat → Int → Int
  | [], l => l
  | n :: r, l => if szI n l < 0 then -1 else szGo r (szI n l)
def szSS (ns : List Nat) (left : Int) : Int := if left - ns.length < 0 then -1 else szGo ns (left - ns.length)
theorem szGo_drop {ns : List Nat} {k : Nat} (hk : k < ns.length) (l : Int) : szGo (ns.drop k) l = if szI (ns.getD k 0) l < 0 then -1 else szGo (ns.drop (k + 1)) (szI (ns.getD k 0) l) := by
  rw [List.drop_eq_getElem_cons hk]
  simp [szGo, List.getD_eq_getElem?_getD, List.getElem?_eq_getElem hk]
theorem szI_le (n : Nat) (l : Int) (h : 0 ≤ l) : szI n l ≤ l := by unfold szI; split <;> omega
def lens (rs : List SlV) : List Nat := rs.map (·.n)
theorem lens_getD {rs : List SlV} {k : Nat} (hk : k < rs.length) : (lens rs).getD k 0 = (rg rs (k : Int)).n := by simp [lens, rg, List.getD_eq_getElem?_getD, List.getElem?_eq_getElem hk]

theorem szInt64SS_c (A : Option Addr) (n c : Nat) (rs : List SlV) (xss : List (List Int)) (left : Int) (w : World) (hR : RowsI w A n rs xss) (hn : n ≤ 9223372036854775807) (hl : 0 ≤ left ∧ left ≤ 1048576) : Ret Try.prog 60 [.slice A n c, .int .i64 left] w (fun v w' => v = .int .i64 (szSS (lens rs) left) ∧ w' = w) := by
  have hrl : (lens rs).length = n := by simp [lens, hR.top.1]
  refine Ret.of_cd Try.func60 rfl Try.ntmps60 rfl (post1 rfl) ?_
  refine Cd.seq ?_
  refine Cd.region ?_
  refine Ops.mv_int rfl rfl rfl ?_
  refine Ops.nil ?_
  refine thenQ_n ?_
  refine Cd.seq ?_
  refine Cd.region ?_
  refine Ops.mv_int rfl rfl rfl ?_
  refine Ops.mv_sl rfl rfl rfl ?_
  refine Ops.len rfl rfl ?_
  refine Ops.sub rfl rfl rfl (by omega) ?_
  refine Ops.mv_int rfl rfl rfl ?_
  refine Ops.nil ?_
  refine thenQ_n ?_
  refine Cd.seq ?_
  refine Cd.seq ?_
  refine Cd.region ?_
  refine Ops.mv_int rfl rfl rfl ?_
  refine Ops.lss rfl rfl rfl ?_
  refine Ops.nil ?_
  refine thenQ_n ?_
  -- stop: cond
  refine Cd.cond_p _ rfl (fun h => ?_) (fun h => ?_)
  · refine Cd.seq ?_
    refine Cd.region ?_
    refine Ops.mv_int rfl rfl rfl ?_
    refine Ops.nil ?_
    refine thenQ_n ?_
    refine Cd.ret ?_
    refine thenQ_r ?_
    refine ret1_i rfl ?_
    -- stop: end
    exact ⟨by simp [szSS, hrl, h], rfl⟩
  refine Cd.skip ?_
  refine thenQ_n ?_
  refine Cd.seq ?_
  refine Cd.seq ?_
  refine Cd.region ?_
  refine Ops.mv_int rfl rfl rfl ?_
  refine Ops.nil ?_
  refine thenQ_n ?_
  refine Cd.block ?_
  -- stop: loop
  refine Cd.loop (α := Nat × Int) (fun s => [(0, .slice A n c), (1, .int .i64 s.2), (5, .int .i64 (s.1 : Int))]) (fun s w' => w' = w ∧ s.1 ≤ n ∧ 0 ≤ s.2 ∧ s.2 ≤ 1048576 ∧ szGo ((lens rs).drop s.1) s.2 = szSS (lens rs) left) (fun s => n - s.1) (0, left - n) ⟨rfl, rfl, rfl, trivial⟩ ⟨rfl, Nat.zero_le _, by show 0 ≤ left - n; omega, by show left - n ≤ _; omega, by simp [szSS, hrl, h]⟩ ?_
  rintro ⟨k, l⟩ e w2 ⟨rfl, hk, h0, h1, hI⟩
  dsimp only at hk h0 h1 hI ⊢
  refine Cd.seq ?_
  refine Cd.seq ?_
  refine Cd.region ?_
  refine Ops.mv_int rfl rfl rfl ?_
  refine Ops.mv_sl rfl rfl rfl ?_
  refine Ops.len rfl rfl ?_
  refine Ops.lss rfl rfl rfl ?_
  refine Ops.nil ?_
  refine thenQ_n ?_
  -- stop: cond
  refine Cd.cond_p _ rfl (fun hlt => ?_) (fun hlt => ?_)
  · refine Cd.skip ?_
    refine thenQ_n ?_
    refine Cd.seq ?_
    refine Cd.block ?_
    refine Cd.seq ?_
    refine Cd.region ?_
    refine Ops.mv_sl rfl rfl rfl ?_
    refine Ops.mv_int rfl rfl rfl ?_
    -- stop: INDEXADDR 25 t18 t19 -> 20
    refine Ops.idx hR.top.2 rfl rfl rfl (by omega) hlt ?_
    refine Ops.ld_sl hR.top rfl (by omega) rfl rfl ?_
    refine Ops.mv_int rfl rfl rfl ?_
    -- stop: CALL laws.szInt64S(t21, t22) -> 23
    have hc := hR.cap_ (i := k) (by omega) hlt
    refine Ops.call (szInt64S_c _ _ _ _ _ (by omega) ⟨h0, h1⟩) rfl rfl rfl ?_
    rintro _ _ ⟨rfl, rfl⟩
    refine Ops.mv_int rfl rfl rfl ?_
    refine Ops.nil ?_
    refine thenQ_n ?_
    refine Cd.seq ?_
    refine Cd.region ?_
    refine Ops.mv_int rfl rfl rfl ?_
    refine Ops.lss rfl rfl rfl ?_
    refine Ops.nil ?_
    refine thenQ_n ?_
    -- stop: cond
    rw [szGo_drop (by omega), lens_getD (by rw [hR.top.1]; omega)] at hI
    have hle := szI_le (rg rs k).n l h0
    refine Cd.cond_p _ rfl (fun h2 => ?_) (fun h2 => ?_)
    · refine Cd.seq ?_
      refine Cd.region ?_
      refine Ops.mv_int rfl rfl rfl ?_
      refine Ops.nil ?_
      refine thenQ_n ?_
      refine Cd.ret ?_
      refine blockQ_r ?_
      refine thenQ_r ?_
      refine thenQ_r ?_
      refine blockQ_r ?_
      refine thenQ_r ?_
      refine ret1_i rfl ?_
      -- stop: end
      exact ⟨by rw [← hI, if_pos h2], rfl⟩
    · refine Cd.skip ?_
      refine blockQ_n ?_
      refine thenQ_n ?_
      refine Cd.region ?_
      refine Ops.mv_int rfl rfl rfl ?_
      refine Ops.add rfl rfl rfl (by omega) ?_
      refine Ops.mv_int rfl rfl rfl ?_
      refine Ops.nil ?_
      refine thenQ_n ?_
      -- stop: round
      exact ⟨(k + 1, szI (rg rs k).n l), by show n - (k + 1) < n - k; omega, ⟨rfl, rfl, rfl, trivial⟩, rfl, by show k + 1 ≤ n; omega, by show 0 ≤ szI _ _; omega, by show szI _ _ ≤ _; omega, by rw [← hI, if_neg h2]⟩
  · refine Cd.exit ?_
    refine thenQ_x ?_
    refine thenQ_x ?_
    refine blockQ_x ?_
    refine thenQ_n ?_
    refine Cd.seq ?_
    refine Cd.region ?_
    refine Ops.mv_int rfl rfl rfl ?_
    refine Ops.mv_int rfl rfl rfl ?_
    refine Ops.nil ?_
    refine thenQ_n ?_
    refine Cd.ret ?_
    refine ret1_i rfl ?_
    -- stop: end
    refine ⟨?_, rfl⟩
    rw [List.drop_of_length_le (by omega)] at hI
    rw [← hI]; rfl

theorem szManiplex_c (A : Option Addr) (n c : Nat) (rs : List SlV) (xss : List (List Int)) (left : Int) (w : World) (hR : RowsI w A n rs xss) (hn : n ≤ 9223372036854775807) (hl : 0 ≤ left ∧ left ≤ 1048576) : Ret Try.prog 22 [.agg #[.slice A n c], .int .i64 left] w (fun v w' => v = .int .i64 (szSS (lens rs) left) ∧ St w w' []) := by
  refine Ret.of_cd Try.func22 rfl Try.ntmps22 rfl (post1 rfl) ?_
  refine Cd.seq ?_
  refine Cd.region ?_
  -- stop: BOX 27 t0=a -> 2
  refine Ops.box1 (St.refl w) rfl rfl ?_
  intro Ab w1 hS
  refine Ops.mv_int rfl rfl rfl ?_
  refine Ops.nil ?_
  refine thenQ_n ?_
  refine Cd.seq ?_
  refine Cd.region ?_
  -- stop: FIELDADDR 27 t2=a 0 -> 5
  refine Ops.fld (hS.rd 0 rfl) rfl rfl rfl rfl inferInstance ?_
  skip
  -- stop: LOAD 25 t5 -> 6
  refine Ops.ldf_s (hS.rd 0 rfl) rfl rfl rfl rfl rfl ?_
  refine Ops.mv_int rfl rfl rfl ?_
  -- stop: CALL laws.szInt64SS(t6, t7) -> 8
  refine Ops.call (szInt64SS_c _ _ _ _ _ _ _ (hS.oldRows hR) hn hl) rfl rfl rfl ?_
  rintro _ _ ⟨rfl, rfl⟩
  refine Ops.mv_int rfl rfl rfl ?_
  refine Ops.nil ?_
  refine thenQ_n ?_
  refine Cd.seq ?_
  refine Cd.seq ?_
  refine Cd.region ?_
  refine Ops.mv_int rfl rfl rfl ?_
  refine Ops.lss rfl rfl rfl ?_
  refine Ops.nil ?_
  refine thenQ_n ?_
  -- stop: cond
  have hneg : szSS (lens rs) left < 0 → szSS (lens rs) left = -1 := by
    have key : ∀ (ns : List Nat) (l : Int), 0 ≤ l → szGo ns l < 0 → szGo ns l = -1 := by
      intro ns
      induction ns with
      | nil => intro l h0 h; simp [szGo] at h; omega
      | cons n r ih =>
        intro l h0
        simp only [szGo]
        split
        · intro _; rfl
        · exact ih _ (by omega)
    unfold szSS
    split
    · intro _; rfl
    · exact key _ _ (by omega)
  refine Cd.cond_p _ rfl (fun h => ?_) (fun h => ?_)
  · refine Cd.seq ?_
    refine Cd.region ?_
    refine Ops.mv_int rfl rfl rfl ?_
    refine Ops.nil ?_
    refine thenQ_n ?_
    refine Cd.ret ?_
    refine thenQ_r ?_
    refine ret1_i rfl ?_
    -- stop: end
    exact ⟨by rw [hneg h], hS.none⟩
  · refine Cd.skip ?_
    refine thenQ_n ?_
    refine Cd.seq ?_
    refine Cd.region ?_
    refine Ops.mv_int rfl rfl rfl ?_
    refine Ops.mv_int rfl rfl rfl ?_
    refine Ops.nil ?_
    refine thenQ_n ?_
    refine Cd.ret ?_
    refine ret1_i rfl ?_
    -- stop: end
    exact ⟨rfl, hS.none⟩

def fill {α : Type} (k : Nat) (xs : List α) (d : α) : List α := xs.take k ++ List.replicate (xs.length - k) d
theorem fill_zero {α : Type} (xs : List α) (d : α) : fill 0 xs d = List.replicate xs.length d := by simp [fill]
theorem fill_all {α : Type} (xs : List α) (d : α) : fill xs.length xs d = xs := by simp [fill]
theorem fill_set {α : Type} {k : Nat} {xs : List α} {d : α} (h : k < xs.length) : (fill k xs d).set k xs[k] = fill (k + 1) xs d := by
  have e : xs.length - k = (xs.length - (k + 1)) + 1 := by omega
  simp only [fill]
  rw [List.set_append_right _ _ (by simp; omega), e, List.replicate_succ, List.take_succ_eq_append_getElem h, List.append_assoc]
  have : k - (xs.take k).length = 0 := by simp [Nat.min_eq_left (Nat.le_of_lt h)]
  rw [this]; rfl
theorem fill_length {α : Type} {k : Nat} {xs : List α} {d : α} (h : k ≤ xs.length) : (fill k xs d).length = xs.length := by simp [fill]; omega

theorem toInt64S_c (A : Option Addr) (n c : Nat) (xs : List Int) (w : World) (hR : RdI w A n xs) (hn : 8 * n ≤ 281474976710656) : Ret Try.prog 32 [.slice A n c] w (fun v w' => ∃ A', v = .slice A' n n ∧ St w w' [CkI 2 A' n n xs]) := by
  have hl := hR.1
  subst hl
  refine Ret.of_cd Try.func32 rfl Try.ntmps32 rfl (post1 rfl) ?_
  refine Cd.seq ?_
  refine Cd.region ?_
  refine Ops.mv_sl rfl rfl rfl ?_
  refine Ops.nil ?_
  refine thenQ_n ?_
  refine Cd.seq ?_
  refine Cd.region ?_
  refine Ops.mv_sl rfl rfl rfl ?_
  refine Ops.len rfl rfl ?_
  -- stop: MAKESLICE 39 t6 t6 -> 7
  refine Ops.mkI xs.length (St.refl w) rfl rfl (by omega) ?_
  intro A1 w1 hS1
  refine Ops.mv_sl rfl rfl rfl ?_
  refine Ops.nil ?_
  refine thenQ_n ?_
  refine Cd.seq ?_
  refine Cd.seq ?_
  refine Cd.region ?_
  refine Ops.mv_int rfl rfl rfl ?_
  refine Ops.nil ?_
  refine thenQ_n ?_
  refine Cd.block ?_
  -- stop: loop
  refine Cd.loop (α := Nat) (fun k => [(0, .slice A xs.length c), (3, .slice A1 xs.length xs.length), (4, .int .i64 (k : Int))]) (fun k w' => St w w' [CkI 2 A1 xs.length xs.length (fill k xs 0)] ∧ k ≤ xs.length) (fun k => xs.length - k) 0 ⟨rfl, rfl, rfl, trivial⟩ ⟨by rw [fill_zero]; exact hS1, Nat.zero_le _⟩ ?_
  rintro k e w2 ⟨hS2, hk⟩
  refine Cd.seq ?_
  refine Cd.seq ?_
  refine Cd.region ?_
  refine Ops.mv_int rfl rfl rfl ?_
  refine Ops.mv_sl rfl rfl rfl ?_
  refine Ops.len rfl rfl ?_
  refine Ops.lss rfl rfl rfl ?_
  refine Ops.nil ?_
  refine thenQ_n ?_
  -- stop: cond
  refine Cd.cond_p _ rfl (fun h1 => ?_) (fun h1 => ?_)
  · refine Cd.skip ?_
    refine thenQ_n ?_
    refine Cd.seq ?_
    refine Cd.block ?_
    refine Cd.region ?_
    refine Ops.mv_sl rfl rfl rfl ?_
    refine Ops.mv_int rfl rfl rfl ?_
    refine Ops.mv_sl rfl rfl rfl ?_
    refine Ops.mv_int rfl rfl rfl ?_
    -- stop: INDEXADDR 39 t16 t17 -> 18
    refine Ops.idx (hS2.oldI hR).2 rfl rfl rfl (by omega) h1 ?_
    refine Ops.ld_int (hS2.oldI hR) rfl (by omega) rfl rfl ?_
    refine Ops.idx (hS2.rdI 0 rfl).2 rfl rfl rfl (by omega) h1 ?_
    refine Ops.st_int 0 hS2 rfl rfl rfl (by omega) ?_
    intro w3 hS3
    refine Ops.nil ?_
    refine blockQ_n ?_
    refine thenQ_n ?_
    refine Cd.region ?_
    refine Ops.mv_int rfl rfl rfl ?_
    refine Ops.add rfl rfl rfl (by omega) ?_
    refine Ops.mv_int rfl rfl rfl ?_
    refine Ops.nil ?_
    refine thenQ_n ?_
    -- stop: round
    have hk' : k < xs.length := by omega
    have e1 : (fill k xs 0).set (Int.toNat k) (gi xs k) = fill (k + 1) xs 0 := by rw [gi_mem hk', Int.toNat_natCast, fill_set hk']
    rw [show ([CkI 2 A1 xs.length xs.length (fill k xs 0)].set 0 (CkI 2 A1 xs.length xs.length ((fill k xs 0).set (Int.toNat k) (gi xs k)))) = [CkI 2 A1 xs.length xs.length (fill (k + 1) xs 0)] from by rw [e1]; rfl] at hS3
    exact ⟨k + 1, by omega, ⟨rfl, rfl, rfl, trivial⟩, hS3, hk'⟩
  · refine Cd.exit ?_
    refine thenQ_x ?_
    refine thenQ_x ?_
    refine blockQ_x ?_
    refine thenQ_n ?_
    refine Cd.seq ?_
    refine Cd.region ?_
    refine Ops.mv_sl rfl rfl rfl ?_
    refine Ops.mv_sl rfl rfl rfl ?_
    refine Ops.nil ?_
    refine thenQ_n ?_
    refine Cd.ret ?_
    refine ret1_s rfl ?_
    -- stop: end
    have : k = xs.length := by omega
    subst this
    rw [fill_all] at hS2
    exact ⟨A1, rfl, hS2⟩

theorem toInt64SS_c (A : Option Addr) (n c : Nat) (rs : List SlV) (xss : List (List Int)) (w : World) (hR : RowsI w A n rs xss) (hn : 24 * n ≤ 281474976710656) (hr : ∀ i, i < n → 8 * (rs.getD i slNil).n ≤ 281474976710656) :
    Ret Try.prog 63 [.slice A n c] w (fun v w' => ∃ A' rs', v = .slice A' n n ∧ rs'.length = n ∧ St w w' (mat 39 2 A' n n rs' xss)) := by
  refine Ret.of_cd Try.func63 rfl Try.ntmps63 rfl (post1 rfl) ?_
  refine Cd.seq ?_
  refine Cd.region ?_
  refine Ops.mv_sl rfl rfl rfl ?_
  refine Ops.nil ?_
  refine thenQ_n ?_
  refine Cd.seq ?_
  refine Cd.region ?_
  refine Ops.mv_sl rfl rfl rfl ?_
  refine Ops.len rfl rfl ?_
  -- stop: MAKESLICE 25 t6 t6 -> 7
  refine Ops.mkR n (St.refl w) rfl rfl (by omega) ?_
  intro A1 w1 hS1
  refine Ops.mv_sl rfl rfl rfl ?_
  refine Ops.nil ?_
  refine thenQ_n ?_
  refine Cd.seq ?_
  refine Cd.seq ?_
  refine Cd.region ?_
  refine Ops.mv_int rfl rfl rfl ?_
  refine Ops.nil ?_
  refine thenQ_n ?_
  refine Cd.block ?_
  -- stop: loop
  refine Cd.loop (α := Nat × List SlV) (fun s => [(0, .slice A n c), (3, .slice A1 n n), (4, .int .i64 (s.1 : Int))]) (fun s w' => St w w' (CkR 39 A1 n n (s.2 ++ List.replicate (n - s.1) slNil) :: rowsCk 2 s.2 (xss.take s.1)) ∧ s.1 ≤ n ∧ s.2.length = s.1) (fun s => n - s.1) (0, []) ⟨rfl, rfl, rfl, trivial⟩ ⟨hS1, Nat.zero_le _, rfl⟩ ?_
  rintro ⟨k, rs1⟩ e w2 ⟨hS2, hk, hlen⟩
  dsimp only at hS2 hk hlen ⊢
  refine Cd.seq ?_
  refine Cd.seq ?_
  refine Cd.region ?_
  refine Ops.mv_int rfl rfl rfl ?_
  refine Ops.mv_sl rfl rfl rfl ?_
  refine Ops.len rfl rfl ?_
  refine Ops.lss rfl rfl rfl ?_
  refine Ops.nil ?_
  refine thenQ_n ?_
  -- stop: cond
  refine Cd.cond_p _ rfl (fun h1 => ?_) (fun h1 => ?_)
  · refine Cd.skip ?_
    refine thenQ_n ?_
    refine Cd.seq ?_
    refine Cd.block ?_
    refine Cd.region ?_
    refine Ops.mv_sl rfl rfl rfl ?_
    refine Ops.mv_int rfl rfl rfl ?_
    refine Ops.mv_sl rfl rfl rfl ?_
    refine Ops.mv_int rfl rfl rfl ?_
    -- stop: INDEXADDR 25 t16 t17 -> 18
    refine Ops.idx (hS2.oldR hR.top).2 rfl rfl rfl (by omega) h1 ?_
    refine Ops.ld_sl (hS2.oldR hR.top) rfl (by omega) rfl rfl ?_
    refine Ops.call (toInt64S_c _ _ _ _ _ (hS2.oldI (hR.at_ (i := k) (by omega) h1)) (hr k (by omega))) rfl rfl rfl ?_
    rintro _ w3 ⟨A2, rfl, hS3⟩
    have hS3 := hS2.call hS3
    refine Ops.idx (hS3.rdR 1 rfl).2 rfl rfl rfl (by omega) h1 ?_
    refine Ops.st_sl 1 hS3 rfl rfl rfl (by omega) ?_
    intro w4 hS4
    refine Ops.nil ?_
    refine blockQ_n ?_
    refine thenQ_n ?_
    refine Cd.region ?_
    refine Ops.mv_int rfl rfl rfl ?_
    refine Ops.add rfl rfl rfl (by omega) ?_
    refine Ops.mv_int rfl rfl rfl ?_
    refine Ops.nil ?_
    refine thenQ_n ?_
    -- stop: round
    have hk' : k < n := by omega
    have hx : k < xss.length := by rw [hR.len]; exact hk'
    refine ⟨(k + 1, rs1 ++ [⟨A2, (rg rs k).n, (rg rs k).n⟩]), by show n - (k + 1) < n - k; omega, ⟨rfl, rfl, rfl, trivial⟩, ?_, hk', by simp [hlen]⟩
    show St w w4 (CkR _ A1 n n ((rs1 ++ [_]) ++ List.replicate (n - (k + 1)) slNil) :: rowsCk _ (rs1 ++ [_]) (xss.take (k + 1)))
    have e1 : (rs1 ++ List.replicate (n - k) slNil).set (Int.toNat k) ⟨A2, (rg rs k).n, (rg rs k).n⟩ = (rs1 ++ [⟨A2, (rg rs k).n, (rg rs k).n⟩]) ++ List.replicate (n - (k + 1)) slNil := by
      rw [Int.toNat_natCast, List.set_append_right _ _ (by omega), show n - k = (n - (k + 1)) + 1 by omega, List.replicate_succ, show k - rs1.length = 0 by omega]
      simp
    have e2 : gl xss k = xss[k] := by simp [gl, List.getD_eq_getElem?_getD, List.getElem?_eq_getElem hx]
    rw [List.take_succ_eq_append_getElem hx, rowsCk_append (by simp [hlen]; omega)]
    have h5 : St w w4 (CkI 2 A2 (rg rs k).n (rg rs k).n (gl xss k) :: CkR 39 A1 n n ((rs1 ++ List.replicate (n - k) slNil).set (Int.toNat k) ⟨A2, (rg rs k).n, (rg rs k).n⟩) :: rowsCk 2 rs1 (xss.take k)) := hS4
    rw [e1, e2] at h5
    refine h5.perm ?_
    refine (List.Perm.swap _ _ _).trans (List.Perm.cons _ ?_)
    exact List.perm_append_comm (l₁ := [_])
  · refine Cd.exit ?_
    refine thenQ_x ?_
    refine thenQ_x ?_
    refine blockQ_x ?_
    refine thenQ_n ?_
    refine Cd.seq ?_
    refine Cd.region ?_
    refine Ops.mv_sl rfl rfl rfl ?_
    refine Ops.mv_sl rfl rfl rfl ?_
    refine Ops.nil ?_
    refine thenQ_n ?_
    refine Cd.ret ?_
    refine ret1_s rfl ?_
    -- stop: end
    have : k = n := by omega
    subst this
    rw [Nat.sub_self, List.replicate_zero, List.append_nil, ← hR.len, List.take_length] at hS2
    exact ⟨A1, rs1, rfl, hlen, by rw [← hR.len]; exact hS2⟩

/-- sizes that copies bear -/
def Fits (n : Nat) (rs : List SlV) : Prop := 24 * n ≤ 281474976710656 ∧ ∀ i, i < n → 8 * (rs.getD i slNil).n ≤ 281474976710656

theorem toManiplex_c (A : Option Addr) (n c : Nat) (rs : List SlV) (xss : List (List Int)) (w : World) (hR : RowsI w A n rs xss) (hn : Fits n rs) :
    Ret Try.prog 24 [.agg #[.slice A n c]] w (fun v w' => ∃ A' rs', v = .agg #[.slice A' n n] ∧ rs'.length = n ∧ St w w' (mat 39 2 A' n n rs' xss)) := by
  refine Ret.of_cd Try.func24 rfl Try.ntmps24 rfl (postc rfl rfl) ?_
  refine Cd.seq ?_
  refine Cd.region ?_
  -- stop: BOX 27 t0=a -> 1
  refine Ops.box1 (St.refl w) rfl rfl ?_
  intro A1 w1 hS1
  refine Ops.new1 hS1 rfl ?_
  intro A2 w2 hS2
  refine Ops.nil ?_
  refine thenQ_n ?_
  refine Cd.seq ?_
  refine Cd.region ?_
  -- stop: ALLOC 32 -> 3
  refine Ops.new1 hS2 rfl ?_
  intro A3 w3 hS3
  refine Ops.nil ?_
  refine thenQ_n ?_
  refine Cd.seq ?_
  refine Cd.region ?_
  -- stop: FIELDADDR 27 t1=a 0 -> 4
  refine Ops.fld (hS3.rd 2 rfl) rfl rfl rfl rfl inferInstance ?_
  refine Ops.ldf_s (hS3.rd 2 rfl) rfl rfl rfl rfl rfl ?_
  refine Ops.call (toInt64SS_c _ _ _ _ _ _ (hS3.oldRows hR) hn.1 hn.2) rfl rfl rfl ?_
  rintro _ w4 ⟨A4, rs', rfl, hl, hS4⟩
  have hS4 := hS3.call2 hS4
  refine Ops.fld (hS4.rd 0 rfl) rfl rfl rfl rfl inferInstance ?_
  refine Ops.stf 0 hS4 rfl rfl rfl rfl rfl ?_
  intro w5 hS5
  have hS5 : St w w5 ([Bx 32 1 A3 [.slice A4 n n], Bx 32 1 A2 [.slice none 0 0], Bx 27 1 A1 [.slice A n c]] ++ mat 39 2 A4 n n rs' xss) := hS5
  refine Ops.nil ?_
  refine thenQ_n ?_
  refine Cd.seq ?_
  refine Cd.region ?_
  -- stop: LOAD 32 t3=out -> 8
  refine Ops.ld_agg 0 (hS5.rd 0 rfl) rfl rfl rfl ?_
  refine Ops.st_agg 1 1 hS5 rfl rfl rfl rfl rfl rfl rfl ?_
  intro w6 hS6
  have hS6 : St w w6 ([Bx 32 1 A3 [.slice A4 n n], Bx 32 1 A2 [.slice A4 n n], Bx 27 1 A1 [.slice A n c]] ++ mat 39 2 A4 n n rs' xss) := hS6
  refine Ops.nil ?_
  refine thenQ_n ?_
  refine Cd.ret ?_
  skip
  -- stop: end
  refine retc_r rfl (hS6.rd 1 rfl) ?_
  exact ⟨A4, rs', rfl, hl, hS6.sub (List.sublist_append_right _ _)⟩

theorem eqInt64S_c (A : Option Addr) (n c : Nat) (xs : List Int) (A' : Option Addr) (n' c' : Nat) (ys : List Int) (w : World) (hR : RdI w A n xs) (hR' : RdI w A' n' ys) (hn : n ≤ 9223372036854775807) :
    Ret Try.prog 26 [.slice A n c, .slice A' n' c'] w (fun v w' => v = .bool (decide (xs = ys)) ∧ St w w' []) := by
  have hl := hR.1
  have hl' := hR'.1
  subst hl
  subst hl'
  refine Ret.of_cd Try.func26 rfl Try.ntmps26 rfl (post1 rfl) ?_
  refine Cd.seq ?_
  refine Cd.region ?_
  refine Ops.mv_bool rfl rfl rfl ?_
  refine Ops.nil ?_
  refine thenQ_n ?_
  refine Cd.seq ?_
  refine Cd.seq ?_
  refine Cd.region ?_
  refine Ops.mv_sl rfl rfl rfl ?_
  refine Ops.len rfl rfl ?_
  refine Ops.mv_sl rfl rfl rfl ?_
  refine Ops.len rfl rfl ?_
  refine Ops.neq rfl rfl rfl ?_
  refine Ops.nil ?_
  refine thenQ_n ?_
  -- stop: cond
  refine Cd.cond_p _ rfl (fun h => ?_) (fun h => ?_)
  · refine Cd.seq ?_
    refine Cd.region ?_
    refine Ops.mv_bool rfl rfl rfl ?_
    refine Ops.nil ?_
    refine thenQ_n ?_
    refine Cd.ret ?_
    refine thenQ_r ?_
    refine ret1_b rfl ?_
    -- stop: end
    exact ⟨by rw [decide_eq_false (fun e : xs = ys => h (by rw [e]))], St.refl _⟩
  refine Cd.skip ?_
  refine thenQ_n ?_
  refine Cd.seq ?_
  refine Cd.seq ?_
  refine Cd.region ?_
  refine Ops.mv_int rfl rfl rfl ?_
  refine Ops.nil ?_
  refine thenQ_n ?_
  refine Cd.block ?_
  -- stop: loop
  refine Cd.loop (α := Nat) (fun k => [(0, .slice A xs.length c), (1, .slice A' ys.length c'), (5, .int .i64 (k : Int))]) (fun k w' => St w w' [] ∧ k ≤ xs.length ∧ xs.take k = ys.take k) (fun k => xs.length - k) 0 ⟨rfl, rfl, rfl, trivial⟩ ⟨St.refl w, Nat.zero_le _, rfl⟩ ?_
  rintro k e w2 ⟨hS2, hk, hI⟩
  have hle : xs.length = ys.length := by omega
  refine Cd.seq ?_
  refine Cd.seq ?_
  refine Cd.region ?_
  refine Ops.mv_int rfl rfl rfl ?_
  refine Ops.mv_sl rfl rfl rfl ?_
  refine Ops.len rfl rfl ?_
  refine Ops.lss rfl rfl rfl ?_
  refine Ops.nil ?_
  refine thenQ_n ?_
  -- stop: cond
  refine Cd.cond_p _ rfl (fun h1 => ?_) (fun h1 => ?_)
  · have hA := hS2.oldI hR
    have hB := hS2.oldI hR'
    have h2 : (k : Int) < ys.length := by omega
    have hx := gi_mem (p := xs) (k := k) (by omega)
    have hy := gi_mem (p := ys) (k := k) (by omega)
    refine Cd.skip ?_
    refine thenQ_n ?_
    refine Cd.seq ?_
    refine Cd.block ?_
    refine Cd.seq ?_
    -- stop: draw
    refine Cd.draw [.ex (.slice (A) (xs.length) (c)), .ex (.int .i64 ((k : Int))), .ex (.pointer (ptrAt (A) ((k : Int)).toNat)), .ex (.int .i64 (gi (xs) ((k : Int)))), .ex (.slice (A') (ys.length) (c')), .ex (.int .i64 ((k : Int))), .ex (.pointer (ptrAt (A') ((k : Int)).toNat)), .ex (.int .i64 (gi (ys) ((k : Int)))), .ex (.bool (decide (¬ (gi (xs) ((k : Int))) = (gi (ys) ((k : Int))))))] (by kernel_rfl) (by kernel_rfl) rfl (List.forall_mem_cons.2 ⟨Yd.lasts_ex _, (List.forall_mem_cons.2 ⟨Yd.lasts_ex _, (List.forall_mem_cons.2 ⟨Yd.lasts_ex _, (List.forall_mem_cons.2 ⟨Yd.lasts_ex _, (List.forall_mem_cons.2 ⟨Yd.lasts_ex _, (List.forall_mem_cons.2 ⟨Yd.lasts_ex _, (List.forall_mem_cons.2 ⟨Yd.lasts_ex _, (List.forall_mem_cons.2 ⟨Yd.lasts_ex _, (List.forall_mem_cons.2 ⟨Yd.lasts_ex _, (fun _ h => by cases h)⟩)⟩)⟩)⟩)⟩)⟩)⟩)⟩)⟩) ⟨?_, ?_, ?_, ?_, ?_, ?_, ?_, ?_, ?_, trivial⟩ ?_
    · intro e1 w1 hb hp hun
      refine Ops.mv_sl rfl rfl rfl ?_
      refine Ops.nil ?_
      exact After.dn (Below.refl _ _) (by exact rfl)
    · intro e1 w1 hb hp hun
      refine Ops.mv_int rfl rfl rfl ?_
      refine Ops.nil ?_
      exact After.dn (Below.refl _ _) (by exact rfl)
    · intro e1 w1 hb hp hun
      refine Ops.idx (hA.later hb).2 rfl rfl rfl (by omega) (by omega) ?_
      refine Ops.nil ?_
      exact After.dn (Below.refl _ _) (by exact rfl)
    · intro e1 w1 hb hp hun
      refine Ops.ld_int (hA.later hb) rfl (by omega) rfl rfl ?_
      refine Ops.nil ?_
      exact After.dn (Below.refl _ _) (by exact rfl)
    · intro e1 w1 hb hp hun
      refine Ops.mv_sl rfl rfl rfl ?_
      refine Ops.nil ?_
      exact After.dn (Below.refl _ _) (by exact rfl)
    · intro e1 w1 hb hp hun
      refine Ops.mv_int rfl rfl rfl ?_
      refine Ops.nil ?_
      exact After.dn (Below.refl _ _) (by exact rfl)
    · intro e1 w1 hb hp hun
      refine Ops.idx (hB.later hb).2 rfl rfl rfl (by omega) (by omega) ?_
      refine Ops.nil ?_
      exact After.dn (Below.refl _ _) (by exact rfl)
    · intro e1 w1 hb hp hun
      refine Ops.ld_int (hB.later hb) rfl (by omega) rfl rfl ?_
      refine Ops.nil ?_
      exact After.dn (Below.refl _ _) (by exact rfl)
    · intro e1 w1 hb hp hun
      refine Ops.neq rfl rfl rfl ?_
      refine Ops.nil ?_
      exact After.dn (Below.refl _ _) (by exact rfl)
    intro u w3 hb3 _
    have hS3 := hS2.later hb3
    refine thenQ_n ?_
    -- stop: cond
    refine Cd.cond_p _ rfl (fun h3 => ?_) (fun h3 => ?_)
    · refine Cd.seq ?_
      refine Cd.region ?_
      refine Ops.mv_bool rfl rfl rfl ?_
      refine Ops.nil ?_
      refine thenQ_n ?_
      refine Cd.ret ?_
      refine blockQ_r ?_
      refine thenQ_r ?_
      refine thenQ_r ?_
      refine blockQ_r ?_
      refine thenQ_r ?_
      refine ret1_b rfl ?_
      -- stop: end
      refine ⟨by rw [decide_eq_false (fun e : xs = ys => h3 (by rw [e]))], hS3⟩
    · refine Cd.skip ?_
      refine blockQ_n ?_
      refine thenQ_n ?_
      refine Cd.region ?_
      refine Ops.mv_int rfl rfl rfl ?_
      refine Ops.add rfl rfl rfl (by omega) ?_
      refine Ops.mv_int rfl rfl rfl ?_
      refine Ops.nil ?_
      refine thenQ_n ?_
      -- stop: round
      refine ⟨k + 1, by omega, ⟨rfl, rfl, rfl, trivial⟩, hS3, by omega, ?_⟩
      rw [take_succ_gi (by omega), take_succ_gi (by omega), hI, Classical.not_not.1 h3]
  · refine Cd.exit ?_
    refine thenQ_x ?_
    refine thenQ_x ?_
    refine blockQ_x ?_
    refine thenQ_n ?_
    refine Cd.seq ?_
    refine Cd.region ?_
    refine Ops.mv_bool rfl rfl rfl ?_
    refine Ops.nil ?_
    refine thenQ_n ?_
    refine Cd.ret ?_
    refine ret1_b rfl ?_
    -- stop: end
    refine ⟨?_, hS2⟩
    rw [List.take_of_length_le (by omega), List.take_of_length_le (by omega)] at hI
    rw [decide_eq_true hI]

theorem gl_mem {p : List (List Int)} {k : Nat} (h : k < p.length) : gl p k = p[k] := by simp [gl, List.getD_eq_getElem?_getD, List.getElem?_eq_getElem h]
theorem take_succ_gl {p : List (List Int)} {k : Nat} (h : k < p.length) : p.take (k + 1) = p.take k ++ [gl p k] := by rw [gl_mem h, List.take_succ_eq_append_getElem h]

theorem eqInt64SS_c (A : Option Addr) (n c : Nat) (rs : List SlV) (xs : List (List Int)) (A' : Option Addr) (n' c' : Nat) (rs' : List SlV) (ys : List (List Int)) (w : World) (hR : RowsI w A n rs xs) (hR' : RowsI w A' n' rs' ys) (hn : n ≤ 9223372036854775807) :
    Ret Try.prog 40 [.slice A n c, .slice A' n' c'] w (fun v w' => v = .bool (decide (xs = ys)) ∧ St w w' []) := by
  have hl := hR.len
  have hl' := hR'.len
  subst hl
  subst hl'
  refine Ret.of_cd Try.func40 rfl Try.ntmps40 rfl (post1 rfl) ?_
  refine Cd.seq ?_
  refine Cd.region ?_
  refine Ops.mv_bool rfl rfl rfl ?_
  refine Ops.nil ?_
  refine thenQ_n ?_
  refine Cd.seq ?_
  refine Cd.seq ?_
  refine Cd.region ?_
  refine Ops.mv_sl rfl rfl rfl ?_
  refine Ops.len rfl rfl ?_
  refine Ops.mv_sl rfl rfl rfl ?_
  refine Ops.len rfl rfl ?_
  refine Ops.neq rfl rfl rfl ?_
  refine Ops.nil ?_
  refine thenQ_n ?_
  -- stop: cond
  refine Cd.cond_p _ rfl (fun h => ?_) (fun h => ?_)
  · refine Cd.seq ?_
    refine Cd.region ?_
    refine Ops.mv_bool rfl rfl rfl ?_
    refine Ops.nil ?_
    refine thenQ_n ?_
    refine Cd.ret ?_
    refine thenQ_r ?_
    refine ret1_b rfl ?_
    -- stop: end
    exact ⟨by rw [decide_eq_false (fun e : xs = ys => h (by rw [e]))], St.refl _⟩
  refine Cd.skip ?_
  refine thenQ_n ?_
  refine Cd.seq ?_
  refine Cd.seq ?_
  refine Cd.region ?_
  refine Ops.mv_int rfl rfl rfl ?_
  refine Ops.nil ?_
  refine thenQ_n ?_
  refine Cd.block ?_
  -- stop: loop
  refine Cd.loop (α := Nat) (fun k => [(0, .slice A xs.length c), (1, .slice A' ys.length c'), (5, .int .i64 (k : Int))]) (fun k w' => St w w' [] ∧ k ≤ xs.length ∧ xs.take k = ys.take k) (fun k => xs.length - k) 0 ⟨rfl, rfl, rfl, trivial⟩ ⟨St.refl w, Nat.zero_le _, rfl⟩ ?_
  rintro k e w2 ⟨hS2, hk, hI⟩
  have hle : xs.length = ys.length := by omega
  refine Cd.seq ?_
  refine Cd.seq ?_
  refine Cd.region ?_
  refine Ops.mv_int rfl rfl rfl ?_
  refine Ops.mv_sl rfl rfl rfl ?_
  refine Ops.len rfl rfl ?_
  refine Ops.lss rfl rfl rfl ?_
  refine Ops.nil ?_
  refine thenQ_n ?_
  -- stop: cond
  refine Cd.cond_p _ rfl (fun h1 => ?_) (fun h1 => ?_)
  · have hA := hS2.oldRows hR
    have hB := hS2.oldRows hR'
    have hAt := hA.top
    have hBt := hB.top
    have h2 : (k : Int) < ys.length := by omega
    have hx := gl_mem (p := xs) (k := k) (by omega)
    have hy := gl_mem (p := ys) (k := k) (by omega)
    have ha := hA.at_ (i := k) (by omega) h1
    have hb' := hB.at_ (i := k) (by omega) h2
    have hc := hA.cap_ (i := k) (by omega) h1
    refine Cd.skip ?_
    refine thenQ_n ?_
    refine Cd.seq ?_
    refine Cd.block ?_
    refine Cd.seq ?_
    -- stop: draw
    refine Cd.draw [.ex (.slice (A) (xs.length) (c)), .ex (.int .i64 ((k : Int))), .ex (.pointer (ptrAt (A) ((k : Int)).toNat)), .ex (.slice ((rg (rs) ((k : Int))).a) ((rg (rs) ((k : Int))).n) ((rg (rs) ((k : Int))).c)), .ex (.slice (A') (ys.length) (c')), .ex (.int .i64 ((k : Int))), .ex (.pointer (ptrAt (A') ((k : Int)).toNat)), .ex (.slice ((rg (rs') ((k : Int))).a) ((rg (rs') ((k : Int))).n) ((rg (rs') ((k : Int))).c)), .ex (.bool (decide (gl xs k = gl ys k))), .ex (.bool (decide (¬ (gl xs k = gl ys k))))] (by kernel_rfl) (by kernel_rfl) rfl (List.forall_mem_cons.2 ⟨Yd.lasts_ex _, (List.forall_mem_cons.2 ⟨Yd.lasts_ex _, (List.forall_mem_cons.2 ⟨Yd.lasts_ex _, (List.forall_mem_cons.2 ⟨Yd.lasts_ex _, (List.forall_mem_cons.2 ⟨Yd.lasts_ex _, (List.forall_mem_cons.2 ⟨Yd.lasts_ex _, (List.forall_mem_cons.2 ⟨Yd.lasts_ex _, (List.forall_mem_cons.2 ⟨Yd.lasts_ex _, (List.forall_mem_cons.2 ⟨Yd.lasts_ex _, (List.forall_mem_cons.2 ⟨Yd.lasts_ex _, (fun _ h => by cases h)⟩)⟩)⟩)⟩)⟩)⟩)⟩)⟩)⟩)⟩) ⟨?_, ?_, ?_, ?_, ?_, ?_, ?_, ?_, ?_, ?_, trivial⟩ ?_
    · intro e1 w1 hb hp hun
      refine Ops.mv_sl rfl rfl rfl ?_
      refine Ops.nil ?_
      exact After.dn (Below.refl _ _) (by exact rfl)
    · intro e1 w1 hb hp hun
      refine Ops.mv_int rfl rfl rfl ?_
      refine Ops.nil ?_
      exact After.dn (Below.refl _ _) (by exact rfl)
    · intro e1 w1 hb hp hun
      refine Ops.idx (hAt.later hb).2 rfl rfl rfl (by omega) (by omega) ?_
      refine Ops.nil ?_
      exact After.dn (Below.refl _ _) (by exact rfl)
    · intro e1 w1 hb hp hun
      refine Ops.ld_sl (hAt.later hb) rfl (by omega) rfl rfl ?_
      refine Ops.nil ?_
      exact After.dn (Below.refl _ _) (by exact rfl)
    · intro e1 w1 hb hp hun
      refine Ops.mv_sl rfl rfl rfl ?_
      refine Ops.nil ?_
      exact After.dn (Below.refl _ _) (by exact rfl)
    · intro e1 w1 hb hp hun
      refine Ops.mv_int rfl rfl rfl ?_
      refine Ops.nil ?_
      exact After.dn (Below.refl _ _) (by exact rfl)
    · intro e1 w1 hb hp hun
      refine Ops.idx (hBt.later hb).2 rfl rfl rfl (by omega) (by omega) ?_
      refine Ops.nil ?_
      exact After.dn (Below.refl _ _) (by exact rfl)
    · intro e1 w1 hb hp hun
      refine Ops.ld_sl (hBt.later hb) rfl (by omega) rfl rfl ?_
      refine Ops.nil ?_
      exact After.dn (Below.refl _ _) (by exact rfl)
    · intro e1 w1 hb hp hun
      refine Ops.call (eqInt64S_c _ _ _ _ _ _ _ _ _ (ha.later hb) (hb'.later hb) (by omega)) rfl rfl rfl ?_
      rintro _ w2 ⟨rfl, hst⟩
      refine Ops.nil ?_
      exact After.dn hst.below (by exact rfl)
    · intro e1 w1 hb hp hun
      refine Ops.not_p rfl rfl ?_
      refine Ops.nil ?_
      exact After.dn (Below.refl _ _) (by exact rfl)
    intro u w3 hb3 _
    have hS3 := hS2.later hb3
    refine thenQ_n ?_
    -- stop: cond
    refine Cd.cond_p _ rfl (fun h3 => ?_) (fun h3 => ?_)
    · refine Cd.seq ?_
      refine Cd.region ?_
      refine Ops.mv_bool rfl rfl rfl ?_
      refine Ops.nil ?_
      refine thenQ_n ?_
      refine Cd.ret ?_
      refine blockQ_r ?_
      refine thenQ_r ?_
      refine thenQ_r ?_
      refine blockQ_r ?_
      refine thenQ_r ?_
      refine ret1_b rfl ?_
      -- stop: end
      refine ⟨by rw [decide_eq_false (fun e : xs = ys => h3 (by rw [e]))], hS3⟩
    · refine Cd.skip ?_
      refine blockQ_n ?_
      refine thenQ_n ?_
      refine Cd.region ?_
      refine Ops.mv_int rfl rfl rfl ?_
      refine Ops.add rfl rfl rfl (by omega) ?_
      refine Ops.mv_int rfl rfl rfl ?_
      refine Ops.nil ?_
      refine thenQ_n ?_
      -- stop: round
      refine ⟨k + 1, by omega, ⟨rfl, rfl, rfl, trivial⟩, hS3, by omega, ?_⟩
      rw [take_succ_gl (by omega), take_succ_gl (by omega), hI, Classical.not_not.1 h3]
  · refine Cd.exit ?_
    refine thenQ_x ?_
    refine thenQ_x ?_
    refine blockQ_x ?_
    refine thenQ_n ?_
    refine Cd.seq ?_
    refine Cd.region ?_
    refine Ops.mv_bool rfl rfl rfl ?_
    refine Ops.nil ?_
    refine thenQ_n ?_
    refine Cd.ret ?_
    refine ret1_b rfl ?_
    -- stop: end
    refine ⟨?_, hS2⟩
    rw [List.take_of_length_le (by omega), List.take_of_length_le (by omega)] at hI
    rw [decide_eq_true hI]

theorem eqManiplex_c (A : Option Addr) (n c : Nat) (rs : List SlV) (xs : List (List Int)) (A' : Option Addr) (n' c' : Nat) (rs' : List SlV) (ys : List (List Int)) (w : World) (hR : RowsI w A n rs xs) (hR' : RowsI w A' n' rs' ys) (hn : n ≤ 9223372036854775807) :
    Ret Try.prog 27 [.agg #[.slice A n c], .agg #[.slice A' n' c']] w (fun v w' => v = .bool (decide (xs = ys)) ∧ St w w' []) := by
  refine Ret.of_cd Try.func27 rfl Try.ntmps27 rfl (post1 rfl) ?_
  refine Cd.seq ?_
  refine Cd.region ?_
  -- stop: BOX 32 t0=a -> 2
  refine Ops.box1 (St.refl w) rfl rfl ?_
  intro A1 w1 hS1
  refine Ops.box1 hS1 rfl rfl ?_
  intro A2 w2 hS2
  refine Ops.mv_bool rfl rfl rfl ?_
  refine Ops.nil ?_
  refine thenQ_n ?_
  refine Cd.seq ?_
  refine Cd.seq ?_
  refine Cd.region ?_
  -- stop: FIELDADDR 32 t2=a 0 -> 5
  refine Ops.fld (hS2.rd 1 rfl) rfl rfl rfl rfl inferInstance ?_
  refine Ops.ldf_s (hS2.rd 1 rfl) rfl rfl rfl rfl rfl ?_
  refine Ops.fld (hS2.rd 0 rfl) rfl rfl rfl rfl inferInstance ?_
  refine Ops.ldf_s (hS2.rd 0 rfl) rfl rfl rfl rfl rfl ?_
  refine Ops.call (eqInt64SS_c _ _ _ _ _ _ _ _ _ _ _ (hS2.oldRows hR) (hS2.oldRows hR') hn) rfl rfl rfl ?_
  rintro _ w3 ⟨rfl, hS3⟩
  have hS3 := hS2.call hS3
  first | refine Ops.not_p rfl rfl ?_ | refine Ops.not rfl rfl ?_
  refine Ops.nil ?_
  refine thenQ_n ?_
  -- stop: cond
  refine Cd.cond_p _ rfl (fun h3 => ?_) (fun h3 => ?_)
  · refine Cd.seq ?_
    refine Cd.region ?_
    refine Ops.mv_bool rfl rfl rfl ?_
    refine Ops.nil ?_
    refine thenQ_n ?_
    refine Cd.ret ?_
    refine thenQ_r ?_
    refine ret1_b rfl ?_
    -- stop: end
    exact ⟨by rw [decide_eq_false h3], hS3.none⟩
  · refine Cd.skip ?_
    refine thenQ_n ?_
    refine Cd.seq ?_
    refine Cd.region ?_
    refine Ops.mv_bool rfl rfl rfl ?_
    refine Ops.nil ?_
    refine thenQ_n ?_
    refine Cd.ret ?_
    refine ret1_b rfl ?_
    -- stop: end
    exact ⟨by rw [decide_eq_true (Classical.not_not.1 h3)], hS3.none⟩
end Go.Proofs.Ytpdhjnacnmfbjaa.Vc
