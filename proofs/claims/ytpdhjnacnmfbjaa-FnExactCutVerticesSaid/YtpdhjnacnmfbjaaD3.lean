/-
  Faces on the program's side; the ends of edges on the reference's. Conditions: as each states them.
-/
import Derived.Test.YtpdhjnacnmfbjaaD1
import Derived.Test.YtpdhjnacnmfbjaaD2
import Derived.Test.YtpdhjnacnmfbjaaC8
namespace Go.Proofs.Ytpdhjnacnmfbjaa.Vc
open Go.RowKit

theorem CloneR_c (A : Option Addr) (n c : Nat) (rs : List SlV) (w : World) (hR : RdR w A n rs) (hn : n ≤ 1000000) (h0 : 0 < n) : Ret Try.prog 144 [.slice A n c] w (fun v w' => ∃ A' c', v = .slice A' n c' ∧ St w w' [CkR 39 A' n c' rs]) := by
  cases hA : A with
  | none =>
    subst hA
    obtain ⟨p, hp, _⟩ := hR.2 0 h0
    simp [ptrAt] at hp
  | some a =>
    subst hA
    refine Ret.of_cd Try.func144 rfl Try.ntmps144 rfl (post1 rfl) ?_
    refine Cd.seq ?_
    refine Cd.region ?_
    refine Ops.mv_sl rfl rfl rfl ?_
    refine Ops.nil ?_
    refine thenQ_n ?_
    refine Cd.seq ?_
    refine Cd.seq ?_
    refine Cd.region ?_
    refine Ops.mv_sl rfl rfl rfl ?_
    -- stop: BINOP eql 25 t3 0 25 -> 4
    refine Ops.eqNil rfl rfl rfl ?_
    refine Ops.nil ?_
    refine thenQ_n ?_
    -- stop: cond
    refine Cd.cond_f rfl ?_
    refine Cd.skip ?_
    refine thenQ_n ?_
    refine Cd.seq ?_
    refine Cd.region ?_
    -- stop: BUILDSLICE 25 0 [] -> 5
    refine Ops.bs0 (St.refl w) rfl ?_
    intro A1 w1 hS1
    have hS1 : St w w1 [CkR 39 A1 0 0 []] := hS1
    refine Ops.mv_sl rfl rfl rfl ?_
    -- stop: BUILTIN append(t5, t6) -> 7
    refine Ops.appR 0 hS1 rfl (hS1.oldR hR) rfl rfl rfl (by omega) (by omega) rfl ?_
    intro A2 c2 w2 hS2
    rw [Nat.zero_add] at hS2 ⊢
    refine Ops.mv_sl rfl rfl rfl ?_
    refine Ops.nil ?_
    refine thenQ_n ?_
    refine Cd.ret ?_
    refine ret1_s rfl ?_
    -- stop: end
    exact ⟨A2, c2, rfl, hS2⟩

theorem without_c (Ab A : Option Addr) (n c : Nat) (rs : List SlV) (xss : List (List Int)) (i : Nat) (w : World) (hB : Rd w Ab 1 (fun _ => .slice A n c)) (hR : RowsI w A n rs xss) (hn : n ≤ 1000) (hi : i < n) :
    Ret Try.prog 124 [.pointer Ab, .int .i64 (i : Int)] w (fun v w' => ∃ A' c', v = .slice A' (n - 1) c' ∧ St w w' [CkR 39 A' (n - 1) c' (rs.eraseIdx i)]) := by
  refine Ret.of_cd Try.func124 rfl Try.ntmps124 rfl (post1 rfl) ?_
  refine Cd.seq ?_
  refine Cd.region ?_
  refine Ops.mv_sl rfl rfl rfl ?_
  refine Ops.nil ?_
  refine thenQ_n ?_
  refine Cd.seq ?_
  refine Cd.region ?_
  refine Ops.mv_ptr rfl rfl rfl ?_
  -- stop: NILCHECK t5 -> 6
  refine Ops.nilp hB (by decide) rfl rfl ?_
  refine Ops.fld hB rfl rfl rfl rfl inferInstance ?_
  refine Ops.ldf_s hB rfl rfl rfl rfl rfl ?_
  refine Ops.call (CloneR_c A n c rs _ hR.top (by omega) (by omega)) rfl rfl rfl ?_
  rintro _ w1 ⟨A1, c1, rfl, hS1⟩
  refine Ops.mv_int rfl rfl rfl ?_
  refine Ops.mv_int rfl rfl rfl ?_
  refine Ops.add rfl rfl rfl (by omega) ?_
  -- stop: CALL slices.Delete[[][]int64,[]int64](t9, t10, t12) -> 13
  have hi1 : ((i : Int) + 1) = ((i + 1 : Nat) : Int) := by omega
  rw [hi1]
  refine Ops.call (delete_c 0 hS1 rfl (by omega) (by omega) (show i ≤ i + 1 by omega) (by omega)) rfl rfl rfl ?_
  rintro _ w2 ⟨rfl, hS2⟩
  refine Ops.mv_sl rfl rfl rfl ?_
  refine Ops.nil ?_
  refine thenQ_n ?_
  refine Cd.ret ?_
  refine ret1_s rfl ?_
  -- stop: end
  have e : n - (i + 1 - i) = n - 1 := by omega
  rw [e]
  rw [e, ← List.eraseIdx_eq_take_drop_succ] at hS2
  exact ⟨A1, c1, rfl, hS2⟩

theorem faces_c (Ab A : Option Addr) (n c : Nat) (rs : List SlV) (xss : List (List Int)) (i : Nat) (w : World) (hB : Rd w Ab 1 (fun _ => .slice A n c)) (hR : RowsI w A n rs xss) (hM : Mani xss) (hi : i < n) :
    Ret Try.prog 109 [.pointer Ab, .int .i64 (i : Int)] w (fun v w' => ∃ A', v = .tuple #[.slice A' (gl xss 0).length (gl xss 0).length, .int .i64 (facesN xss i)] ∧ St w w' [CkI 2 A' (gl xss 0).length (gl xss 0).length (facesL xss i)]) := by
  have hl := hR.len
  have h1 := hM.1
  have h2 := hM.2.1
  have e0 : (rg rs 0).n = (gl xss 0).length := (hR.rowLen (by omega) (by omega)).symm
  refine Ret.of_cd Try.func109 rfl Try.ntmps109 rfl (post2 rfl) ?_
  refine Cd.seq ?_
  refine Cd.region ?_
  refine Ops.mv_sl rfl rfl rfl ?_
  refine Ops.mv_int rfl rfl rfl ?_
  refine Ops.nil ?_
  refine thenQ_n ?_
  refine Cd.seq ?_
  refine Cd.region ?_
  refine Ops.mv_ptr rfl rfl rfl ?_
  -- stop: CALL impl.Maniplex).flags(t6) -> 7
  refine Ops.call (flags_c Ab A n c rs xss _ w hB rfl hR (by omega)) rfl rfl rfl ?_
  rintro _ w ⟨rfl, rfl⟩
  rw [e0]
  refine Ops.mv_ptr rfl rfl rfl ?_
  refine Ops.mv_int rfl rfl rfl ?_
  -- stop: CALL impl.Maniplex).without(t8, t9) -> 10
  refine Ops.call (without_c Ab A n c rs xss i _ hB hR (by omega) hi) rfl rfl rfl ?_
  rintro _ w1 ⟨A1, c1, rfl, hS1⟩
  refine Ops.call (orbitLabels_c A1 (n - 1) c1 (rs.eraseIdx i) (xss.eraseIdx i) (gl xss 0).length _ ((hS1.oldRows hR).erase hi (hS1.rdR 0 rfl)) (by omega) (hM.2.2.1.sys.erase i) (hM.2.2.1.inj.erase i) (by omega)) rfl rfl rfl ?_
  rintro _ w2 ⟨A2, rfl, hst⟩
  have hS2 := hS1.call hst
  refine Ops.extract rfl rfl rfl ?_
  refine Ops.extract rfl rfl rfl ?_
  refine Ops.mv_sl rfl rfl rfl ?_
  refine Ops.mv_int rfl rfl rfl ?_
  refine Ops.nil ?_
  refine thenQ_n ?_
  refine Cd.ret ?_
  refine ret2_si rfl rfl ?_
  -- stop: end
  exact ⟨A2, rfl, hS2.sub (List.Sublist.cons_cons _ (List.nil_sublist _))⟩

theorem put_cs {xs : List Int} {a : Nat} {v : Int} (h : SA xs) (hv : v ∉ xs) (ha : a ≤ xs.length) (hl : ∀ j : Nat, j < a → gi xs (j : Int) < v) (hg : a < xs.length → v ≤ gi xs (a : Int)) : xs.take a ++ (v :: xs.drop a) = cs (xs ++ [v]) := by
  have hp : (xs.take a ++ (v :: xs.drop a)).Perm (xs ++ [v]) := put_perm
  refine cs_eq ?_ fun x => hp.mem_iff
  have h1 := asc_put h.asc ha hl hg
  have h2 : (xs.take a ++ (v :: xs.drop a)).Nodup := hp.nodup_iff.2 (by
    rw [List.nodup_append]
    refine ⟨h.nodup, by simp, fun x hx y hy e => ?_⟩
    simp at hy
    subst hy
    exact hv (e ▸ hx))
  exact (List.Pairwise.and h1 h2).imp fun h => by have := h.1; have := h.2; omega

theorem l13Insert_c (A : Option Addr) (n c : Nat) (xs : List Int) (v : Int) (w : World) (hR : RdI w A n xs) (hc : n ≤ c) (hn : n ≤ 1000000) (hs : SA xs) (hv : v ∉ xs) :
    Ret Try.prog 123 [.slice A n c, .int .i64 v] w (fun r w' => ∃ A' c', r = .slice A' (cs (xs ++ [v])).length c' ∧ St w w' [CkI 2 A' (cs (xs ++ [v])).length c' (cs (xs ++ [v]))]) := by
  have hxl := hR.1
  refine Ret.of_cd Try.func123 rfl Try.ntmps123 rfl (post1 rfl) ?_
  refine Cd.seq ?_
  refine Cd.region ?_
  refine Ops.mv_sl rfl rfl rfl ?_
  refine Ops.nil ?_
  refine thenQ_n ?_
  refine Cd.seq ?_
  refine Cd.region ?_
  refine Ops.mv_int rfl rfl rfl ?_
  refine Ops.nil ?_
  refine thenQ_n ?_
  -- stop: join
  refine Cd.join (α := Nat) (fun a => [(0, .slice A n c), (1, .int .i64 v), (5, .int .i64 (a : Int))])
    (fun a w' => w' = w ∧ a ≤ xs.length ∧ (∀ j : Nat, j < a → gi xs (j : Int) < v) ∧ (a < xs.length → v ≤ gi xs (a : Int))) ?_ ?_
  · refine Cd.block ?_
    -- stop: loop
    refine Cd.loop (α := Nat) (fun a => [(0, .slice A n c), (1, .int .i64 v), (5, .int .i64 (a : Int))]) (fun a w' => w' = w ∧ a ≤ xs.length ∧ ∀ j : Nat, j < a → gi xs (j : Int) < v) (fun a => xs.length - a) 0 ⟨rfl, rfl, rfl, trivial⟩ ⟨rfl, Nat.zero_le _, fun j hj => by omega⟩ ?_
    rintro a e w ⟨rfl, ha, hlt⟩
    refine Cd.seq ?_
    refine Cd.seq ?_
    refine Cd.region ?_
    refine Ops.mv_int rfl rfl rfl ?_
    refine Ops.mv_sl rfl rfl rfl ?_
    refine Ops.len rfl rfl ?_
    refine Ops.lss rfl rfl rfl ?_
    refine Ops.mv_bool rfl rfl rfl ?_
    -- stop: guard 11
    refine Ops.split_p 11 rfl (fun h4 => ?_) (fun h4 => ?_)
    · refine Ops.rung rfl rfl rfl ?_
      refine Ops.mv_sl rfl rfl rfl ?_
      refine Ops.rung rfl rfl rfl ?_
      refine Ops.mv_int rfl rfl rfl ?_
      refine Ops.rung rfl rfl rfl ?_
      -- stop: INDEXADDR 39 t12 t13 -> 14
      refine Ops.idx hR.2 rfl rfl rfl (by omega) (by omega) ?_
      refine Ops.rung rfl rfl rfl ?_
      -- stop: LOAD 2 t14 -> 15
      refine Ops.ld_int hR rfl (by omega) rfl rfl ?_
      refine Ops.rung rfl rfl rfl ?_
      refine Ops.mv_int rfl rfl rfl ?_
      refine Ops.rung rfl rfl rfl ?_
      refine Ops.lss rfl rfl rfl ?_
      refine Ops.pick_t rfl rfl rfl ?_
      refine Ops.nil ?_
      refine thenQ_n ?_
      -- stop: cond
      refine Cd.cond_p _ rfl (fun h5 => ?_) (fun h5 => ?_)
      · refine Cd.skip ?_
        refine thenQ_n ?_
        refine Cd.block ?_
        refine Cd.region ?_
        refine Ops.mv_int rfl rfl rfl ?_
        refine Ops.add rfl rfl rfl (by omega) ?_
        refine Ops.mv_int rfl rfl rfl ?_
        refine Ops.nil ?_
        refine blockQ_n ?_
        refine thenQ_n ?_
        -- stop: round
        refine ⟨a + 1, by show xs.length - (a + 1) < xs.length - a; omega, ⟨rfl, rfl, rfl, trivial⟩, rfl, by omega, fun j hj => ?_⟩
        by_cases ej : j = a
        · subst ej; exact h5
        · exact hlt j (by omega)
      · refine Cd.exit ?_
        refine thenQ_x ?_
        refine thenQ_x ?_
        refine blockQ_x ?_
        refine thenQ_n ?_
        -- stop: round
        exact ⟨a, ⟨rfl, rfl, rfl, trivial⟩, rfl, ha, hlt, fun _ => by omega⟩
    · refine Ops.skipg rfl rfl rfl rfl rfl ?_
      refine Ops.skipg rfl rfl rfl rfl rfl ?_
      refine Ops.skipg rfl rfl rfl rfl rfl ?_
      refine Ops.skipg rfl rfl rfl rfl rfl ?_
      refine Ops.skipg rfl rfl rfl rfl rfl ?_
      refine Ops.skipg rfl rfl rfl rfl rfl ?_
      refine Ops.pick_f rfl rfl rfl ?_
      refine Ops.nil ?_
      refine thenQ_n ?_
      -- stop: cond
      refine Cd.cond_f rfl ?_
      refine Cd.exit ?_
      refine thenQ_x ?_
      refine thenQ_x ?_
      refine blockQ_x ?_
      refine thenQ_n ?_
      -- stop: round
      exact ⟨a, ⟨rfl, rfl, rfl, trivial⟩, rfl, ha, hlt, fun h => absurd h (by omega)⟩
  · rintro a e w ⟨rfl, ha, hlt, hge⟩
    have hput := put_cs hs hv ha hlt hge
    refine Cd.seq ?_
    refine Cd.region ?_
    refine Ops.mv_int rfl rfl rfl ?_
    -- stop: BUILDSLICE 39 1 [('pair', [0, ('app', 'Go.Operand.tmp', [21])])] -> 22
    refine Ops.bs1I (St.refl w) rfl rfl rfl ?_
    intro A7 w7 hS7
    refine Ops.mv_sl rfl rfl rfl ?_
    refine Ops.mv_int rfl rfl rfl ?_
    -- stop: SLICE 39 t23 some t24 none none -> 25
    refine Ops.cut_l rfl rfl rfl (by omega) ?_
    refine Ops.appI 0 hS7 rfl ((hS7.oldI hR).drop (l := a) (by omega) hc) rfl rfl rfl (by omega) (by omega) rfl ?_
    intro A8 c8 w8 hS8
    refine Ops.mv_sl rfl rfl rfl ?_
    refine Ops.nil ?_
    refine thenQ_n ?_
    refine Cd.seq ?_
    refine Cd.region ?_
    -- stop: BUILDSLICE 39 0 [] -> 27
    refine Ops.bs0 hS8 rfl ?_
    intro A9 w9 hS9
    have hS9 : St w w9 (CkI 2 A9 0 0 [] :: CkI 2 A8 (1 + (n - a)) c8 ([v] ++ xs.drop a) :: []) := hS9
    refine Ops.mv_sl rfl rfl rfl ?_
    refine Ops.mv_int rfl rfl rfl ?_
    -- stop: SLICE 39 t28 none some t29 none -> 30
    refine Ops.cut_h rfl rfl rfl (by omega) ?_
    refine Ops.appI 0 hS9 rfl ((hS9.oldI hR).take (l := a) (by omega)) rfl rfl rfl (by omega) (by omega) rfl ?_
    intro A10 c10 w10 hS10
    refine Ops.mv_sl rfl rfl rfl ?_
    -- stop: BUILTIN append(t31, t32) -> 33
    refine Ops.appI 0 hS10 rfl (hS10.rdI 1 rfl) rfl rfl rfl (by omega) (by omega) rfl ?_
    intro A11 c11 w11 hS11
    refine Ops.mv_sl rfl rfl rfl ?_
    refine Ops.nil ?_
    refine thenQ_n ?_
    refine Cd.ret ?_
    refine ret1_s rfl ?_
    -- stop: end
    have hS11 : St w w11 (CkI 2 A11 (0 + a + (1 + (n - a))) c11 (([] ++ xs.take a) ++ ([v] ++ xs.drop a)) :: CkI 2 A8 (1 + (n - a)) c8 ([v] ++ xs.drop a) :: []) := hS11
    have hS12 := hS11.sub (List.Sublist.cons_cons _ (List.nil_sublist _))
    rw [List.nil_append, List.singleton_append, hput] at hS12
    have hlen' : (cs (xs ++ [v])).length = 0 + a + (1 + (n - a)) := by rw [← hput]; simp; omega
    exact ⟨A11, c11, by rw [hlen'], by rw [hlen']; exact hS12⟩

theorem l17Insert_c (A : Option Addr) (n c : Nat) (xs : List Int) (v : Int) (w : World) (hR : RdI w A n xs) (hc : n ≤ c) (hn : n ≤ 1000000) (hs : SA xs) :
    Ret Try.prog 108 [.slice A n c, .int .i64 v] w (fun r w' => ∃ A' c', r = .slice A' (cs (xs ++ [v])).length c' ∧ Below w.heap.size w w' ∧ ((A' = A ∧ c' = c ∧ cs (xs ++ [v]) = xs) ∨ St w w' [CkI 2 A' (cs (xs ++ [v])).length c' (cs (xs ++ [v]))])) := by
  have hxl := hR.1
  refine Ret.of_cd Try.func108 rfl Try.ntmps108 rfl (post1 rfl) ?_
  refine Cd.seq ?_
  refine Cd.region ?_
  refine Ops.mv_sl rfl rfl rfl ?_
  refine Ops.nil ?_
  refine thenQ_n ?_
  refine Cd.seq ?_
  refine Cd.seq ?_
  refine Cd.region ?_
  refine Ops.mv_sl rfl rfl rfl ?_
  refine Ops.mv_int rfl rfl rfl ?_
  -- stop: CALL spec.l01Has(t5, t6) -> 7
  refine Ops.call (l01Has_c A n c xs v w hR (by omega)) rfl rfl rfl ?_
  rintro _ w ⟨rfl, rfl⟩
  refine Ops.nil ?_
  refine thenQ_n ?_
  -- stop: cond
  refine Cd.cond_p _ rfl (fun h => ?_) (fun h => ?_)
  · have e : cs (xs ++ [v]) = xs := (cs_eq hs fun x => by
      simp only [List.mem_append, List.mem_singleton]
      exact ⟨.inl, fun h2 => h2.elim id fun e => e ▸ h⟩).symm
    refine Cd.seq ?_
    refine Cd.region ?_
    refine Ops.mv_sl rfl rfl rfl ?_
    refine Ops.mv_sl rfl rfl rfl ?_
    refine Ops.nil ?_
    refine thenQ_n ?_
    refine Cd.ret ?_
    refine thenQ_r ?_
    refine ret1_s rfl ?_
    -- stop: end
    exact ⟨A, c, by rw [e, hxl], Below.refl _ _, .inl ⟨rfl, rfl, e⟩⟩
  · refine Cd.skip ?_
    refine thenQ_n ?_
    refine Cd.seq ?_
    refine Cd.region ?_
    refine Ops.mv_sl rfl rfl rfl ?_
    refine Ops.mv_int rfl rfl rfl ?_
    -- stop: CALL spec.l13Insert(t9, t10) -> 11
    refine Ops.call (l13Insert_c A n c xs v w hR hc hn hs h) rfl rfl rfl ?_
    rintro _ w1 ⟨A1, c1, rfl, hst⟩
    refine Ops.mv_sl rfl rfl rfl ?_
    refine Ops.nil ?_
    refine thenQ_n ?_
    refine Cd.ret ?_
    refine ret1_s rfl ?_
    -- stop: end
    exact ⟨A1, c1, rfl, hst.below, .inr hst⟩

/-! rows put anew -/
theorem cons_set_perm : ∀ (l : List Ck) (i : Nat) (x y : Ck), l[i]? = some y → (x :: l).Perm (y :: l.set i x)
  | [], i, x, y, h => by simp at h
  | u :: l, 0, x, y, h => by simp at h; subst h; exact List.Perm.swap _ _ _
  | u :: l, i + 1, x, y, h => by
    simp only [List.getElem?_cons_succ] at h
    simp only [List.set_cons_succ]
    exact (List.Perm.swap _ _ _).trans (((cons_set_perm l i x y h).cons u).trans (List.Perm.swap _ _ _))
theorem St.anew {w0 w : World} {ks : List Ck} {i : Nat} {k y : Ck} (h : St w0 w (k :: ks)) (hy : ks[i]? = some y) : St w0 w (ks.set i k) := (h.perm (cons_set_perm ks i k y hy)).tail
theorem St.insRow {w2 w1 w9 : World} {ks : List Ck} {i : Nat} {t : TypeId} {A A1 : Option Addr} {n c c1 : Nat} {xs ys : List Int} (h : St w2 w1 ks) (hk : ks[i]? = some (CkI t A n c xs)) (hbl : Below w1.heap.size w1 w9) (hor : (A1 = A ∧ c1 = c ∧ ys = xs) ∨ St w1 w9 [CkI t A1 ys.length c1 ys]) : St w2 w9 (ks.set i (CkI t A1 ys.length c1 ys)) := by
  rcases hor with ⟨rfl, rfl, rfl⟩ | hst
  · have hl := h.lenI i hk
    rw [hl, set_id hk]
    exact h.later hbl
  · exact (h.call hst).anew hk
theorem rowsCk_upd {t : TypeId} : ∀ {rs : List SlV} {xss : List (List Int)} {i : Nat} {s : SlV} {xs : List Int}, rs.length = xss.length → (rowsCk t rs xss).set i (CkI t s.a s.n s.c xs) = rowsCk t (rs.set i s) (xss.set i xs)
  | [], [], _, _, _, _ => rfl
  | [], _ :: _, _, _, _, h => by simp at h
  | _ :: _, [], _, _, _, h => by simp at h
  | r :: rs, x :: xss, 0, s, xs, _ => rfl
  | r :: rs, x :: xss, i + 1, s, xs, h => by
    have := rowsCk_upd (t := t) (rs := rs) (xss := xss) (i := i) (s := s) (xs := xs) (by simpa using h)
    simpa [rowsCk] using this
theorem mat_upd {t1 t2 : TypeId} {A : Option Addr} {n c : Nat} {rs : List SlV} {xss : List (List Int)} {i : Nat} {s : SlV} {xs : List Int} (hr : rs.length = xss.length) (hi : i < rs.length) : CkR t1 A n c (rs.set i s) :: (rowsCk t2 rs xss ++ []).set i (CkI t2 s.a s.n s.c xs) = mat t1 t2 A n c (rs.set i s) (xss.set i xs) ++ [] := by
  rw [List.append_nil, List.append_nil, rowsCk_upd hr]; rfl
theorem nilRows {w0 w : World} {t : TypeId} : ∀ (n : Nat) {ks : List Ck}, St w0 w ks → St w0 w (ks ++ rowsCk t (List.replicate n slNil) (List.replicate n []))
  | 0, ks, h => by show St w0 w (ks ++ []); rwa [List.append_nil]
  | n + 1, ks, h => by
    have h1 := nilRows (t := t) n h
    have h2 := h1.nil t
    exact h2.perm (List.perm_middle.symm)
end Go.Proofs.Ytpdhjnacnmfbjaa.Vc
