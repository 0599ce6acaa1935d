/-
  The walks of the lengths of cycles, and of the Petrie word's lengths on both sides. Conditions: as each states them.
-/
import Derived.Test.YtpdhjnacnmfbjaaC4
namespace Go.Proofs.Ytpdhjnacnmfbjaa.Vc
open Go.RowKit

theorem cyAll_pos {p : List Int} {n : Nat} (hn : 0 < n) : 0 < (cyAll p n).length := by
  rw [cyAll_eq, cycs_step hn]
  have h : ¬ gb (List.replicate n false) ((0 : Nat) : Int) = true := by simp [gb, List.getD_eq_getElem?_getD, List.getElem?_replicate, hn]
  rw [goC_step (by simpa using hn) h]
  simp

theorem CycleLengths_c (A : Option Addr) (n c : Nat) (p : List Int) (w : World) (hP : RdI w A n p) (hn : 0 < n) (hp : IsPerm p) :
    Ret Try.prog 65 [.slice A n c] w (fun v w' => ∃ A' c', v = .tuple #[.slice A' (lenAll p n).length c', .int .i64 0] ∧ St w w' [CkI 2 A' (lenAll p n).length c' (srt (lenAll p n))]) := by
  have hpl := hP.1
  have hn4 : n ≤ 400 := by have := hp.1; omega
  have hcl := cyAll_le p n
  have hpos := cyAll_pos (p := p) hn
  have hll : (lenAll p n).length = (cyAll p n).length := by simp [lenAll]
  have hlen : ∀ k (hk : k < (cyAll p n).length), (lenAll p n)[k]? = some (((cyAll p n)[k].length : Nat) : Int) := fun k hk => by simp [lenAll, hk]
  refine Ret.of_cd Try.func65 rfl Try.ntmps65 rfl (post2 rfl) ?_
  refine Cd.seq ?_
  refine Cd.region ?_
  refine Ops.mv_sl rfl rfl rfl ?_
  refine Ops.mv_int rfl rfl rfl ?_
  refine Ops.nil ?_
  refine thenQ_n ?_
  refine Cd.seq ?_
  refine Cd.seq ?_
  refine Cd.region ?_
  refine Ops.mv_sl rfl rfl rfl ?_
  -- stop: CALL impl.isPermutation(t7) -> 8
  refine Ops.call (isPermutation_c A n c p w hP) rfl rfl rfl ?_
  rintro _ w1 ⟨rfl, hS1⟩
  first | refine Ops.not_p rfl rfl ?_ | refine Ops.not rfl rfl ?_
  refine Ops.nil ?_
  refine thenQ_n ?_
  -- stop: cond
  refine Cd.cond_pf rfl (fun h => h hp) ?_
  refine Cd.skip ?_
  refine thenQ_n ?_
  refine Cd.seq ?_
  refine Cd.region ?_
  refine Ops.mv_sl rfl rfl rfl ?_
  refine Ops.nil ?_
  refine thenQ_n ?_
  refine Cd.seq ?_
  refine Cd.seq ?_
  refine Cd.region ?_
  refine Ops.mv_sl rfl rfl rfl ?_
  -- stop: CALL impl.cyclesOf(t10) -> 11
  refine Ops.call (cyclesOf_c A n c p w1 (hS1.oldI hP) (by omega) (fun x hx => by have := hp.range (i := (x : Int)) (by omega) (by omega); omega)) rfl rfl rfl ?_
  rintro _ w2 ⟨A1, c1, rs, rfl, hrl, hst⟩
  have hS2 : St w w2 (mat 39 2 A1 (cyAll p n).length c1 rs (cyAll p n) ++ []) := by have := hS1.call hst; rwa [List.append_nil] at this
  refine Ops.len rfl rfl ?_
  refine Ops.mv_int rfl rfl rfl ?_
  refine Ops.nil ?_
  refine thenQ_n ?_
  refine Cd.block ?_
  -- stop: loop
  generalize hC : cyAll p n = C at *
  generalize hL : lenAll p n = L at *
  refine Cd.loop (α := Nat × Option Addr × Nat) (fun z => [(4, .slice z.2.1 z.1 z.2.2), (11, .slice A1 C.length c1), (12, .int .i64 (C.length : Int)), (13, .int .i64 (z.1 : Int))])
    (fun z w' => St w w' (CkI 2 z.2.1 z.1 z.2.2 (L.take z.1) :: (mat 39 2 A1 C.length c1 rs C ++ [])) ∧ z.1 ≤ C.length) (fun z => C.length - z.1) (0, none, 0) ⟨rfl, rfl, rfl, rfl, trivial⟩ ⟨hS2.nil _, Nat.zero_le _⟩ ?_
  rintro ⟨k, A4, c4⟩ e w3 ⟨hS3, hk⟩
  dsimp only at hS3 hk ⊢
  have hM := hS3.tail.rowsI rfl
  refine Cd.seq ?_
  refine Cd.region ?_
  refine Ops.lss rfl rfl rfl ?_
  refine Ops.nil ?_
  refine thenQ_n ?_
  refine Cd.seq ?_
  -- stop: cond
  refine Cd.cond_p _ rfl (fun h1 => ?_) (fun h1 => ?_)
  · have hk' : k < C.length := by omega
    have hrk : (rg rs (k : Int)).n = C[k].length := by
      rw [← hM.rowLen (k := (k : Int)) (by omega) h1, gl_mem hk']
    refine Cd.skip ?_
    refine thenQ_n ?_
    refine Cd.seq ?_
    refine Cd.block ?_
    refine Cd.seq ?_
    refine Cd.region ?_
    -- stop: INDEXADDR 25 t11 t13 -> 15
    refine Ops.idx hM.top.2 rfl rfl rfl (by omega) h1 ?_
    refine Ops.ld_sl hM.top rfl (by omega) rfl rfl ?_
    refine Ops.mv_sl rfl rfl rfl ?_
    refine Ops.nil ?_
    refine thenQ_n ?_
    refine Cd.region ?_
    refine Ops.mv_sl rfl rfl rfl ?_
    refine Ops.mv_sl rfl rfl rfl ?_
    -- stop: CALL impl.size[int64](t18) -> 19
    refine Ops.call (sizeI_c _ _ _ _) rfl rfl rfl ?_
    rintro _ w3 ⟨rfl, rfl⟩
    refine Ops.bs1I hS3 rfl rfl rfl ?_
    intro A7 w4 hS4
    refine Ops.appI 1 hS4 rfl (hS4.rdI 0 rfl) rfl rfl rfl (by omega) (by omega) rfl ?_
    intro A8 c8 w5 hS5
    refine Ops.mv_sl rfl rfl rfl ?_
    refine Ops.nil ?_
    refine blockQ_n ?_
    refine thenQ_n ?_
    refine Cd.region ?_
    refine Ops.add rfl rfl rfl (by omega) ?_
    refine Ops.mv_int rfl rfl rfl ?_
    refine Ops.nil ?_
    refine thenQ_n ?_
    -- stop: round
    refine ⟨(k + 1, A8, c8), by show C.length - (k + 1) < C.length - k; omega, ⟨rfl, rfl, rfl, rfl, trivial⟩, ?_, hk'⟩
    have h6 := hS5.tail
    have e : L.take (k + 1) = L.take k ++ [((rg rs (k : Int)).n : Int)] := by
      have h7 := hlen k hk'
      obtain ⟨hkl, h8⟩ := List.getElem?_eq_some_iff.1 h7
      rw [List.take_succ_eq_append_getElem hkl, h8, hrk]
    show St w w5 (CkI _ A8 (k + 1) c8 (L.take (k + 1)) :: _)
    rw [e]
    exact h6
  · refine Cd.exit ?_
    refine thenQ_x ?_
    refine thenQ_x ?_
    refine blockQ_x ?_
    refine thenQ_n ?_
    refine Cd.seq ?_
    refine Cd.region ?_
    refine Ops.mv_sl rfl rfl rfl ?_
    -- stop: CALL slices.Sort[[]int64,int64](t23) -> 24
    have hkn : k = C.length := by omega
    subst hkn
    rw [List.take_of_length_le (by omega)] at hS3
    refine Ops.call (sort_c 0 hS3 rfl (by omega) (by omega)) rfl rfl rfl ?_
    rintro _ w4 ⟨rfl, hS4⟩
    refine Ops.nil ?_
    refine thenQ_n ?_
    refine Cd.seq ?_
    refine Cd.region ?_
    refine Ops.mv_sl rfl rfl rfl ?_
    refine Ops.mv_sl rfl rfl rfl ?_
    refine Ops.mv_int rfl rfl rfl ?_
    refine Ops.nil ?_
    refine thenQ_n ?_
    refine Cd.ret ?_
    refine ret2_si rfl rfl ?_
    -- stop: end
    refine ⟨A4, c4, by rw [hll], ?_⟩
    rw [hll]
    exact hS4.sub (List.Sublist.cons_cons _ (List.nil_sublist _))

theorem idL_get {n k : Nat} (h : k < n) : gi (idL n) (k : Int) = (k : Int) := by simp [gi, idL, List.getD_eq_getElem?_getD, h]
/-- the lengths of a word of a maniplex -/
def wordL (xss : List (List Int)) (ws : List Int) : List Int := srt (lenAll (doesL xss (gl xss 0).length ws) (gl xss 0).length)
theorem wordL_len (xss : List (List Int)) (ws : List Int) : (wordL xss ws).length = (lenAll (doesL xss (gl xss 0).length ws) (gl xss 0).length).length := (srt_perm _).length_eq
theorem wordL_le {xss : List (List Int)} (ws : List Int) (h : Mani xss) : (wordL xss ws).length ≤ 400 := by
  rw [wordL_len]
  have := lenAll_le (doesL xss (gl xss 0).length ws) (gl xss 0).length
  have := h.2.1
  omega

/-- the answer: a list of numbers in memory of its own, and a code -/
def AnsR (L : List Int) (K : Int) (w : World) (v : Value) (w' : World) : Prop := ∃ A' c', v = .tuple #[.slice A' L.length c', .int .i64 K] ∧ St w w' [CkI 2 A' L.length c' L]
theorem AnsR.none {w w' : World} {ks : List Ck} {K : Int} (h : St w w' ks) : AnsR [] K w (.tuple #[.slice Option.none 0 0, .int .i64 K]) w' := ⟨Option.none, 0, rfl, h.none.nil _⟩
theorem AnsR.word {w w' : World} {ks : List Ck} {A : Option Addr} {c : Nat} {xss : List (List Int)} {ws : List Int} (h : St w w' (CkI 2 A (lenAll (doesL xss (gl xss 0).length ws) (gl xss 0).length).length c (srt (lenAll (doesL xss (gl xss 0).length ws) (gl xss 0).length)) :: ks)) :
    AnsR (wordL xss ws) 0 w (.tuple #[.slice A (lenAll (doesL xss (gl xss 0).length ws) (gl xss 0).length).length c, .int .i64 0]) w' :=
  ⟨A, c, by rw [wordL_len], by rw [wordL_len]; exact h.sub (List.Sublist.cons_cons _ (List.nil_sublist _))⟩

def petrieL (xss : List (List Int)) : List Int := if Grph xss then wordL xss (idL xss.length) else []
def petrieK (xss : List (List Int)) : Int := if Grph xss then 0 else 1

theorem specPetrieCycles_c (A : Option Addr) (n c : Nat) (rs : List SlV) (xss : List (List Int)) (w : World) (hR : RowsI w A n rs xss) (hn : n ≤ 9223372036854775807) :
    Ret Try.prog 23 [.agg #[.slice A n c]] w (AnsR (petrieL xss) (petrieK xss) w) := by
  have hl := hR.len
  refine Ret.of_cd Try.func23 rfl Try.ntmps23 rfl (post2 rfl) ?_
  refine Cd.seq ?_
  refine Cd.region ?_
  -- stop: BOX 32 t0=m -> 1
  refine Ops.box1 (St.refl w) rfl rfl ?_
  intro Ab w1 hS1
  refine Ops.mv_sl rfl rfl rfl ?_
  refine Ops.mv_int rfl rfl rfl ?_
  refine Ops.nil ?_
  refine thenQ_n ?_
  refine Cd.seq ?_
  refine Cd.seq ?_
  refine Cd.region ?_
  -- stop: LOAD 32 t1=m -> 6
  refine Ops.ld_agg 0 (hS1.rd 0 rfl) rfl rfl rfl ?_
  refine Ops.call (l18Is_c A n c rs xss _ (hS1.oldRows hR) hn) rfl rfl rfl ?_
  rintro _ w2 ⟨rfl, hst⟩
  have hS2 := hS1.later hst.below
  first | refine Ops.not_p rfl rfl ?_ | refine Ops.not rfl rfl ?_
  refine Ops.nil ?_
  refine thenQ_n ?_
  -- stop: cond
  refine Cd.cond_p _ rfl (fun h => ?_) (fun h => ?_)
  · refine Cd.seq ?_
    refine Cd.region ?_
    refine Ops.mv_sl rfl rfl rfl ?_
    refine Ops.mv_int rfl rfl rfl ?_
    refine Ops.nil ?_
    refine thenQ_n ?_
    refine Cd.ret ?_
    refine thenQ_r ?_
    refine ret2_si rfl rfl ?_
    -- stop: end
    rw [petrieL, petrieK, if_neg h, if_neg h]
    exact AnsR.none hS2
  · have hG : Grph xss := Classical.not_not.1 h
    have hMa := hG.1
    have hs := hMa.2.2.1.sys
    have h5 := hMa.1
    have h40 := hMa.2.1
    refine Cd.skip ?_
    refine thenQ_n ?_
    refine Cd.seq ?_
    refine Cd.region ?_
    -- stop: BUILDSLICE 39 0 [] -> 9
    refine Ops.bs0 hS2 rfl ?_
    intro A4 w3 hS3
    have hS3 : St w w3 (CkI 2 A4 0 0 ((idL n).take 0) :: [Bx 32 1 Ab [.slice A n c]]) := hS3
    refine Ops.mv_sl rfl rfl rfl ?_
    refine Ops.nil ?_
    refine thenQ_n ?_
    refine Cd.seq ?_
    refine Cd.seq ?_
    refine Cd.region ?_
    refine Ops.mv_int rfl rfl rfl ?_
    refine Ops.nil ?_
    refine thenQ_n ?_
    refine Cd.block ?_
    -- stop: loop
    refine Cd.loop (α := Nat × Option Addr × Nat) (fun z => [(1, .pointer Ab), (4, .slice z.2.1 z.1 z.2.2), (5, .int .i64 (z.1 : Int))]) (fun z w' => St w w' (CkI 2 z.2.1 z.1 z.2.2 ((idL n).take z.1) :: [Bx 32 1 Ab [.slice A n c]]) ∧ z.1 ≤ n) (fun z => n - z.1) (0, A4, 0) ⟨rfl, rfl, rfl, trivial⟩ ⟨hS3, Nat.zero_le _⟩ ?_
    rintro ⟨k, A5, c5⟩ e w4 ⟨hS4, hk⟩
    dsimp only at hS4 hk ⊢
    refine Cd.seq ?_
    refine Cd.seq ?_
    refine Cd.region ?_
    refine Ops.mv_int rfl rfl rfl ?_
    -- stop: FIELDADDR 32 t1=m 0 -> 11
    refine Ops.fld (hS4.rd 1 rfl) rfl rfl rfl rfl inferInstance ?_
    refine Ops.ldf_s (hS4.rd 1 rfl) rfl rfl rfl rfl rfl ?_
    refine Ops.len rfl rfl ?_
    refine Ops.lss rfl rfl rfl ?_
    refine Ops.nil ?_
    refine thenQ_n ?_
    -- stop: cond
    refine Cd.cond_p _ rfl (fun h1 => ?_) (fun h1 => ?_)
    · refine Cd.skip ?_
      refine thenQ_n ?_
      refine Cd.seq ?_
      refine Cd.block ?_
      refine Cd.region ?_
      refine Ops.mv_sl rfl rfl rfl ?_
      refine Ops.mv_int rfl rfl rfl ?_
      -- stop: BUILDSLICE 39 1 [('pair', [0, ('app', 'Go.Operand.tmp', [18])])] -> 19
      refine Ops.bs1I hS4 rfl rfl rfl ?_
      intro A7 w5 hS5
      refine Ops.appI 1 hS5 rfl (hS5.rdI 0 rfl) rfl rfl rfl (by omega) (by omega) rfl ?_
      intro A8 c8 w6 hS6
      refine Ops.mv_sl rfl rfl rfl ?_
      refine Ops.nil ?_
      refine blockQ_n ?_
      refine thenQ_n ?_
      refine Cd.region ?_
      refine Ops.mv_int rfl rfl rfl ?_
      refine Ops.add rfl rfl rfl (by omega) ?_
      refine Ops.mv_int rfl rfl rfl ?_
      refine Ops.nil ?_
      refine thenQ_n ?_
      -- stop: round
      refine ⟨(k + 1, A8, c8), by show n - (k + 1) < n - k; omega, ⟨rfl, rfl, rfl, trivial⟩, ?_, by show k + 1 ≤ n; omega⟩
      have h6 := hS6.tail
      have e : (idL n).take (k + 1) = (idL n).take k ++ [(k : Int)] := by
        rw [List.take_succ_eq_append_getElem (by simp [idL]; omega)]
        simp [idL]
      show St w w6 (CkI _ A8 (k + 1) c8 ((idL n).take (k + 1)) :: _)
      rw [e]
      exact h6
    · refine Cd.exit ?_
      refine thenQ_x ?_
      refine thenQ_x ?_
      refine blockQ_x ?_
      refine thenQ_n ?_
      refine Cd.seq ?_
      refine Cd.region ?_
      -- stop: LOAD 32 t1=m -> 21
      have hkn : k = n := by omega
      subst hkn
      rw [List.take_of_length_le (by simp [idL])] at hS4
      refine Ops.ld_agg 0 (hS4.rd 1 rfl) rfl rfl rfl ?_
      refine Ops.mv_sl rfl rfl rfl ?_
      -- stop: CALL spec.l18Lengths(t21, t22) -> 23
      refine Ops.call (l18Lengths_c A k c rs xss (gl xss 0).length A5 k c5 (idL k) _ (hS4.oldRows hR) (by omega) rfl (by omega) hs (hS4.rdI 0 rfl) (by omega) (fun j hj => by rw [idL_get hj]; omega)) rfl rfl rfl ?_
      rintro _ w5 ⟨A9, c9, rfl, hst⟩
      have hS5 := hS4.call hst
      refine Ops.mv_sl rfl rfl rfl ?_
      refine Ops.mv_int rfl rfl rfl ?_
      refine Ops.nil ?_
      refine thenQ_n ?_
      refine Cd.ret ?_
      refine ret2_si rfl rfl ?_
      -- stop: end
      rw [petrieL, petrieK, if_pos hG, if_pos hG, hl]
      exact AnsR.word hS5

theorem implPetrieCycles_c (A : Option Addr) (n c : Nat) (rs : List SlV) (xss : List (List Int)) (w : World) (hR : RowsI w A n rs xss) (hn : n ≤ c) (hc : c ≤ 9223372036854775807) :
    Ret Try.prog 25 [.agg #[.slice A n c]] w (AnsR (petrieL xss) (petrieK xss) w) := by
  have hl := hR.len
  refine Ret.of_cd Try.func25 rfl Try.ntmps25 rfl (post2 rfl) ?_
  refine Cd.seq ?_
  refine Cd.region ?_
  -- stop: BOX 32 t0=m -> 1
  refine Ops.box1 (St.refl w) rfl rfl ?_
  intro Ab w1 hS1
  refine Ops.mv_sl rfl rfl rfl ?_
  refine Ops.mv_int rfl rfl rfl ?_
  refine Ops.nil ?_
  refine thenQ_n ?_
  refine Cd.seq ?_
  refine Cd.seq ?_
  refine Cd.region ?_
  -- stop: LOAD 32 t1=m -> 4
  refine Ops.ld_agg 0 (hS1.rd 0 rfl) rfl rfl rfl ?_
  refine Ops.call (isGraphed_c A n c rs xss _ (hS1.oldRows hR) hn hc) rfl rfl rfl ?_
  rintro _ w2 ⟨rfl, hst⟩
  have hS2 := hS1.later hst.below
  first | refine Ops.not_p rfl rfl ?_ | refine Ops.not rfl rfl ?_
  refine Ops.nil ?_
  refine thenQ_n ?_
  -- stop: cond
  refine Cd.cond_p _ rfl (fun h => ?_) (fun h => ?_)
  · refine Cd.seq ?_
    refine Cd.region ?_
    refine Ops.mv_sl rfl rfl rfl ?_
    refine Ops.mv_int rfl rfl rfl ?_
    refine Ops.nil ?_
    refine thenQ_n ?_
    refine Cd.ret ?_
    refine thenQ_r ?_
    refine ret2_si rfl rfl ?_
    -- stop: end
    rw [petrieL, petrieK, if_neg h, if_neg h]
    exact AnsR.none hS2
  · have hG : Grph xss := Classical.not_not.1 h
    have hMa := hG.1
    have hs := hMa.2.2.1.sys
    have h5 := hMa.1
    have h40 := hMa.2.1
    refine Cd.skip ?_
    refine thenQ_n ?_
    refine Cd.seq ?_
    refine Cd.region ?_
    -- stop: CALL impl.Maniplex).rank(t1=m) -> 7
    refine Ops.call (rank_c Ab A n c _ _ (hS2.rd 0 rfl) rfl) rfl rfl rfl ?_
    rintro _ w2 ⟨rfl, rfl⟩
    refine Ops.call (identity_c n _ (by omega)) rfl rfl rfl ?_
    rintro _ w3 ⟨A5, rfl, hst⟩
    have hS3 := hS2.call hst
    have hw : ∀ j : Nat, j < n → 0 ≤ gi (idL n) j ∧ gi (idL n) j < n := fun j hj => by rw [idL_get hj]; omega
    refine Ops.call (does_c Ab A n c rs xss (gl xss 0).length A5 n n (idL n) _ (Rd.congr (hS3.rd 1 rfl) (fun j hj => by obtain rfl : j = 0 := by { have : j < 1 := hj; omega }; rfl)) (hS3.oldRows hR) (by omega) rfl (by omega) hs (hS3.rdI 0 rfl) (by omega) hw) rfl rfl rfl ?_
    rintro _ w4 ⟨A6, rfl, hst⟩
    have hS4 := hS3.call hst
    refine Ops.call (CycleLengths_c A6 _ _ _ _ (hS4.rdI 0 rfl) (by omega) (does_perm hs hMa.2.2.1.inj (by omega) (mem_gi fun j hj => by have := hw j (by simpa [idL] using hj); omega))) rfl rfl rfl ?_
    rintro _ w5 ⟨A7, c7, rfl, hst⟩
    have hS5 := hS4.call hst
    refine Ops.extract rfl rfl rfl ?_
    refine Ops.extract rfl rfl rfl ?_
    refine Ops.mv_sl rfl rfl rfl ?_
    refine Ops.mv_int rfl rfl rfl ?_
    refine Ops.nil ?_
    refine thenQ_n ?_
    refine Cd.ret ?_
    refine ret2_si rfl rfl ?_
    -- stop: end
    rw [petrieL, petrieK, if_pos hG, if_pos hG, hl]
    exact AnsR.word hS5
end Go.Proofs.Ytpdhjnacnmfbjaa.Vc
