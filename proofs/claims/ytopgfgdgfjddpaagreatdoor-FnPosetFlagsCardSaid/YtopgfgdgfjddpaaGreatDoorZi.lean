/-
  The texts Da, Db, Prs, Dc, Dd, De, Df, K1, Dg, Qe1, Qc4, Qc5, Qc6, Qe2, Open, Opm, Opy in one. Conditions: as each part states them.
-/
import Derived.Test.YtopgfgdgfjddpaaGreatDoorZb
import Derived.Test.YtopgfgdgfjddpaaGreatDoorZg
import Derived.Test.YtopgfgdgfjddpaaGreatDoorZc
import Derived.Test.YtopgfgdgfjddpaaGreatDoorZa
import Derived.Test.YtopgfgdgfjddpaaGreatDoorZe
import Derived.Test.YtopgfgdgfjddpaaGreatDoorZh
import Derived.Test.YtopgfgdgfjddpaaGreatDoorInst
import Derived.Deep.Matrix
import Derived.Carry
import Derived.Below
import Derived.ChangeSame
import Derived.ProofKit
import Derived.OpenShut
import Derived.Handed
import Derived.Lib.SmallJoins
/-
 The draws of permutations and matchings, walked: lists of numbers in range.
-/
namespace Go.Proofs.YtopgfgdgfjddpaaGreatDoor.Vc
open Go.RowKit
def Rg (n : Nat) (xs : List Int) : Prop := xs.length = n ∧ ∀ x ∈ xs, 0 ≤ x ∧ x < (n : Int)
theorem Rg.gi {n : Nat} {xs : List Int} (h : Rg n xs) {i : Int} (h0 : 0 ≤ i) (h1 : i < n) : 0 ≤ Vc.gi xs i ∧ Vc.gi xs i < n := by
 obtain ⟨q, rfl⟩ : ∃ q : Nat, i = q := ⟨i.toNat, by omega⟩
 rw [gi_mem (by rw [h.1]; omega)]
 exact h.2 _ (List.getElem_mem _)
theorem Rg.set {n : Nat} {xs : List Int} (h : Rg n xs) {j : Nat} {v : Int} (h0 : 0 ≤ v) (h1 : v < n) : Rg n (xs.set j v) := by
 refine ⟨by rw [List.length_set]; exact h.1, fun x hx => ?_⟩
 rcases List.mem_or_eq_of_mem_set hx with hx | rfl
 ·exact h.2 x hx
 exact ⟨h0, h1⟩
theorem l01Unit_c (n : Nat) (w : World) (hn : n ≤ 1000000) :
  Ret Tryz.prog 168 [.int .i64 (n : Int)] w (fun v w' => ∃ A c xs, v = .slice A n c ∧ Rg n xs ∧ St w w' [CkI 2 A n c xs]) := by
 refine Ret.of_cd Tryz.func168 O Tryz.ntmps168 O (post1 O) (Gbo O (Ops.bs0 (St.refl w) O ?_))
 intro A1 w1 hS1
 refine Gdc O ?_
 refine Cd.loop (α := Nat × Option Addr × Nat × List Int) (fun s => [(0, .int .i64 (n : Int)), (3, .slice s.2.1 s.1 s.2.2.1), (4, .int .i64 (s.1 : Int))]) (fun s w' => St w w' [CkI 2 s.2.1 s.1 s.2.2.1 s.2.2.2] ∧ s.1 ≤ n ∧ s.2.2.2.length = s.1 ∧ ∀ x ∈ s.2.2.2, 0 ≤ x ∧ x < (s.1 : Int)) (fun s => n - s.1) (0, A1, 0, []) ⟨O, O, O, trivial⟩ ⟨hS1, Nat.zero_le _, O, fun x hx => (nomatch hx)⟩ ?_
 rintro ⟨i, A2, c2, xs⟩ e w2 ⟨hS2, hi, hl, hx⟩
 dsimp only at hS2 hi hl hx ⊢
 refine Gbc O ?_
 refine Cd.cond_p _ O (fun h1 => ?_) (fun h1 => ?_)
 ·refine Gao O (Ops.bs1I hS2 O O O ?_)
  intro A3 w3 hS3
  refine Ops.appI 1 hS3 O (hS3.rdI 0 O) O O O (by omega) (by omega) O ?_
  intro A4 c4 w4 hS4
  refine Gdo O (Ops.add O O O (by omega) (Gdn O (tQ ?_)))
  refine ⟨(i + 1, A4, c4, xs ++ [(i : Int)]), by show n - (i + 1) < n - i; omega, ⟨O, O, O, trivial⟩, hS4.tail, by show i + 1 ≤ n; omega, by simp [hl], fun x hx' => ?_⟩
  rcases List.mem_append.1 hx' with h | h
  ·have := hx x h
   show 0 ≤ x ∧ x < ((i + 1 : Nat) : Int)
   omega
  rw [List.mem_singleton] at h
  subst h
  show 0 ≤ (i : Int) ∧ (i : Int) < ((i + 1 : Nat) : Int)
  omega
 have hin : i = n := by omega
 subst hin
 refine Gax O (thenQ_x (Gfr O ?_))
 refine ret1_s O ?_
 exact ⟨A2, c2, xs, O, ⟨hl, hx⟩, hS2⟩
theorem l01Draw_c {w0 w : World} {ks : List Ck} (ix : Nat) {As : Option Addr} {k : Ck} (n : Nat) (hS : St w0 w ks) (hk : ks[ix]? = some k) (hK : srcK w0 As k) (hn : n ≤ 1000000) :
  Ret Tryz.prog 183 [.pointer As, .int .i64 (n : Int)] w (fun v w' => ∃ A c xs k', v = .slice A n c ∧ Rg n xs ∧ srcK w0 As k' ∧ St w0 w' (CkI 2 A n c xs :: ks.set ix k')) := by
 refine Ret.of_cd Tryz.func183 O Tryz.ntmps183 O (post1 O) (Gbo O (Ops.call (l01Unit_c n _ hn) O O O ?_))
 rintro _ w1 ⟨A, c, xs, rfl, hx, hst⟩
 have hS1 : St w0 w1 (CkI 2 A n c xs :: ks) := hS.call hst
 refine Gdo O (Ops.sub O O O (by omega) (Gdc O ?_))
 refine Cd.loop (α := Int × List Int × Ck) (fun s => [(0, .pointer As), (5, .slice A n c), (6, .int .i64 s.1)]) (fun s w' => St w0 w' (CkI 2 A n c s.2.1 :: ks.set ix s.2.2) ∧ Rg n s.2.1 ∧ srcK w0 As s.2.2 ∧ -1 ≤ s.1 ∧ s.1 < n) (fun s => s.1.toNat) ((n : Int) - 1, xs, k) ⟨O, O, O, trivial⟩ ⟨by dsimp only; rw [setK_same hk]; exact hS1, hx, hK, by show -1 ≤ (n : Int) - 1; omega, by show (n : Int) - 1 < n; omega⟩ ?_
 rintro ⟨i, xs, k1⟩ e w2 ⟨hS2, hx, hK1, hi0, hi1⟩
 dsimp only at hS2 hx hK1 hi0 hi1 ⊢
 have hk1 : (CkI 2 A n c xs :: ks.set ix k1)[ix + 1]? = some k1 := setK_get (k' := k1) hk
 refine Gbc O ?_
 refine Cd.cond_p _ O (fun h1 => ?_) (fun h1 => ?_)
 ·refine Gao O (Ops.add O O O (by omega) ?_)
  refine Ops.call (srcNext_c (ix + 1) (i + 1) hS2 hk1 hK1) O O O ?_
  rintro _ w3 ⟨r, k2, rfl, ⟨hr0, hr1, _⟩, hK2, hS3⟩
  have hr1 := hr1 (by omega)
  have hS3 : St w0 w3 (CkI 2 A n c xs :: (ks.set ix k1).set ix k2) := hS3
  rw [List.set_set] at hS3
  have hR3 := hS3.rdI 0 O
  have hgi := hx.gi (i := i) (by omega) hi1
  have hgr := hx.gi (i := r) hr0 (by omega)
  refine Gdo O (Ops.idx hR3.2 O O O (by omega) (by omega) (Ops.ld_int hR3 O (by omega) O O (Gdo O (Ops.idx hR3.2 O O O (by omega) (by omega) (Ops.ld_int hR3 O (by omega) O O (Ops.idx hR3.2 O O O (by omega) (by omega) (Ops.st_int 0 hS3 O O O (by omega) ?_)))))))
  intro w4 hS4
  have hS4 : St w0 w4 (CkI 2 A n c (xs.set i.toNat (gi xs r)) :: ks.set ix k2) := hS4
  have hR4 := hS4.rdI 0 O
  refine Gdo O (Ops.idx hR4.2 O O O (by omega) (by omega) (Ops.st_int 0 hS4 O O O (by omega) ?_))
  intro w5 hS5
  refine Gdo O (Ops.sub O O O (by omega) (Gdn O (tQ ?_)))
  exact ⟨(i - 1, (xs.set i.toNat (gi xs r)).set r.toNat (gi xs i), k2), by show (i - 1).toNat < i.toNat; omega, ⟨O, O, O, trivial⟩, hS5, (hx.set hgr.1 hgr.2).set hgi.1 hgi.2, hK2, by show -1 ≤ i - 1; omega, by show i - 1 < n; omega⟩
 refine Gax O (thenQ_x (Gfr O ?_))
 refine ret1_s O ?_
 exact ⟨A, c, xs, k1, O, hx, hK1, hS2⟩
structure Ma4 (w0 : World) (ks : List Ck) (ix : Nat) (As : Option Addr) (k : Ck) (n : Nat) (S : Nat → Bool) (e : Env) (w : World) : Prop where
 f0 : e 0 = .pointer As
 f1 : e 1 = .int .i64 (n : Int)
 p0 : S 0 = true → e 8 = .pointer As
 p1 : S 1 = true → e 9 = .int .i64 (n : Int)
 p3 : S 3 = true → e 11 = .int .i64 (n : Int)
 mem : ∃ (A : Option Addr) (c : Nat) (xs : List Int) (A2 : Option Addr) (k' : Ck) (bsC bsM : List Ck), (S 2 = false → bsC = [] ∧ k' = k) ∧ (S 2 = true → e 10 = .slice A n c ∧ Rg n xs ∧ bsC = [CkI 2 A n c xs]) ∧ srcK w0 As k' ∧ (S 4 = false → bsM = []) ∧ (S 4 = true → e 12 = .slice A2 n n ∧ bsM = [CkI 2 A2 n n (List.replicate n 0)]) ∧ (S 5 = true → e 5 = .slice A n c) ∧ (S 6 = true → e 6 = .slice A2 n n) ∧ St w0 w (bsM ++ (bsC ++ ks.set ix k'))
theorem l01Matching_c {w0 w : World} {ks : List Ck} (ix : Nat) {As : Option Addr} {k : Ck} (n : Nat) (hS : St w0 w ks) (hk : ks[ix]? = some k) (hK : srcK w0 As k) (hn : n ≤ 1000000) :
  Ret Tryz.prog 162 [.pointer As, .int .i64 (n : Int)] w (fun v w' => ∃ A c xs k', v = .slice A n c ∧ Rg n xs ∧ srcK w0 As k' ∧ St w0 w' (CkI 2 A n c xs :: ks.set ix k')) := by
 refine Ret.of_cd Tryz.func162 O Tryz.ntmps162 O (post1 O) (Gbc O ?_)
 refine Cd.drawS (by kernel_rfl) (by kernel_rfl) (fun S e1 w1 => Ma4 w0 ks ix As k n S e1 w1) (fun w4 hb => ⟨O, O, fun h => (nomatch h), fun h => (nomatch h), fun h => (nomatch h), none, 0, [], none, k, [], [], fun _ => ⟨O, O⟩, fun h => (nomatch h), hK, fun _ => O, fun h => (nomatch h), fun h => (nomatch h), fun h => (nomatch h), by rw [setK_same hk]; exact hS.later hb⟩) ?_ ?_
 ·intro S q o e1 w4 hq hSk hd hcl hI
  obtain ⟨f0, f1, p0, p1, p3, A, c, xs, A2, k', bsC, bsM, m0, m1, hK', m2, m3, m4, m5, hT⟩ := hI
  match q, hq, hSk with
  | 0, hq, hSk =>
   obtain rfl := Option.some.inj hq
   refine Ops.mv_ptr O (by exact f0) O (Ops.n ?_)
   exact ⟨f0, f1, fun _ => O, p1, p3, A, c, xs, A2, k', bsC, bsM, m0, m1, hK', m2, m3, m4, m5, hT⟩
  | 1, hq, hSk =>
   obtain rfl := Option.some.inj hq
   refine Ops.mi O (by exact f1) O (Ops.n ?_)
   exact ⟨f0, f1, p0, fun _ => O, p3, A, c, xs, A2, k', bsC, bsM, m0, m1, hK', m2, m3, m4, m5, hT⟩
  | 2, hq, hSk =>
   obtain rfl := Option.some.inj hq
   obtain ⟨rfl, rfl⟩ := m0 hSk
   have n5 : S 5 = false := by
    cases h : S 5 with
    | false => rfl
    | true => rw [← hSk]; exact (deps_of (hcl 5 _ h rfl) 2 rfl).symm
   have n6 : S 6 = false := by
    cases h : S 6 with
    | false => rfl
    | true => rw [← n5]; exact (deps_of (hcl 6 _ h rfl) 5 rfl).symm
   rw [List.nil_append] at hT
   have hkk : (bsM ++ ks.set ix k')[bsM.length + ix]? = some k' := by
    rw [List.getElem?_append_right (by omega), show bsM.length + ix - bsM.length = ix by omega]
    exact setK_get hk
   refine Ops.call (l01Draw_c (bsM.length + ix) n hT hkk hK hn) O (by show [e1 8, e1 9] = _; rw [p0 (deps_of hd 0 O), p1 (deps_of hd 1 O)]) O ?_
   rintro _ w5 ⟨A', c', xs', k2, rfl, hx', hK2, hT'⟩
   refine Ops.n ?_
   refine ⟨f0, f1, p0, p1, p3, A', c', xs', A2, k2, [CkI 2 A' n c' xs'], bsM, fun h => (nomatch (show true = false from h)), fun _ => ⟨O, hx', O⟩, hK2, m2, m3, fun h => (nomatch n5.symm.trans h), fun h => (nomatch n6.symm.trans h), ?_⟩
   rw [List.set_append_right _ _ (by omega), show bsM.length + ix - bsM.length = ix by omega, List.set_set] at hT'
   exact hT'.perm (List.perm_middle (l₁ := bsM)).symm
  | 3, hq, hSk =>
   obtain rfl := Option.some.inj hq
   refine Ops.mi O (by exact f1) O (Ops.n ?_)
   exact ⟨f0, f1, p0, p1, fun _ => O, A, c, xs, A2, k', bsC, bsM, m0, m1, hK', m2, m3, m4, m5, hT⟩
  | 4, hq, hSk =>
   obtain rfl := Option.some.inj hq
   obtain rfl := m2 hSk
   have n6 : S 6 = false := by
    cases h : S 6 with
    | false => rfl
    | true => rw [← hSk]; exact (deps_of (hcl 6 _ h rfl) 4 rfl).symm
   refine Ops.mkI n hT (by exact p3 (deps_of hd 3 O)) O (by omega) ?_
   intro A' w5 hT5
   refine Ops.n ?_
   exact ⟨f0, f1, p0, p1, p3, A, c, xs, A', k', bsC, [CkI 2 A' n n (List.replicate n 0)], m0, m1, hK', fun h => (nomatch (show true = false from h)), fun _ => ⟨O, O⟩, m4, fun h => (nomatch n6.symm.trans h), hT5⟩
  | 5, hq, hSk =>
   obtain rfl := Option.some.inj hq
   refine Ops.ms O (by exact (m1 (deps_of hd 2 O)).1) O (Ops.n ?_)
   exact ⟨f0, f1, p0, p1, p3, A, c, xs, A2, k', bsC, bsM, m0, m1, hK', m2, m3, fun _ => O, m5, hT⟩
  | 6, hq, hSk =>
   obtain rfl := Option.some.inj hq
   refine Ops.ms O (by exact (m3 (deps_of hd 4 O)).1) O (Ops.n ?_)
   exact ⟨f0, f1, p0, p1, p3, A, c, xs, A2, k', bsC, bsM, m0, m1, hK', m2, m3, m4, fun _ => O, hT⟩
  | q + 7, hq, _ => exact (nomatch hq)
 ·intro S e1 w4 hall hI
  obtain ⟨f0, f1, p0, p1, p3, A, c, xs, A2, k', bsC, bsM, m0, m1, hK', m2, m3, m4, m5, hT⟩ := hI
  obtain ⟨_, hx, rfl⟩ := m1 (hall 2 (by decide))
  obtain ⟨_, rfl⟩ := m3 (hall 4 (by decide))
  refine Qk_ext (F := [(0, .pointer As), (1, .int .i64 (n : Int)), (5, .slice A n c), (6, .slice A2 n n)]) ⟨f0, f1, m4 (hall 5 (by decide)), m5 (hall 6 (by decide)), trivial⟩ ?_
  have hT : St w0 w4 (CkI 2 A2 n n (List.replicate n 0) :: CkI 2 A n c xs :: ks.set ix k') := hT
  refine Gec O ?_
  refine Cd.loop (α := Nat × List Int) (fun s => [(1, .int .i64 (n : Int)), (5, .slice A n c), (6, .slice A2 n n), (7, .int .i64 (s.1 : Int))]) (fun s w' => St w0 w' (CkI 2 A2 n n s.2 :: CkI 2 A n c xs :: ks.set ix k') ∧ Rg n s.2 ∧ s.1 ≤ n + 1) (fun s => n + 2 - s.1) (0, List.replicate n 0) ⟨rfl, rfl, rfl, rfl, trivial⟩ ⟨hT, ⟨by simp, fun x hx => by obtain ⟨h0, rfl⟩ := List.mem_replicate.1 hx; omega⟩, Nat.zero_le _⟩ ?_
  rintro ⟨i, ps⟩ e w5 ⟨hT5, hps, hi⟩
  dsimp only at hT5 hps hi ⊢
  refine Gbo O (Ops.add O O O (by omega) (Gdc O ?_))
  refine Cd.cond_p _ O (fun h1 => ?_) (fun h1 => ?_)
  ·have hP5 := hT5.rdI 0 O
   have hO5 := hT5.rdI 1 O
   have hg0 := hx.gi (i := (i : Int)) (by omega) (by omega)
   have hg1 := hx.gi (i := (i : Int) + 1) (by omega) (by omega)
   refine Gac O ?_
   refine Cd.drawP [11] [yS (A2) (n) (n), yS (A) (n) (c), yI ((i : Int)), yP (ptrAt (A) ((i : Int)).toNat), yI (gi (xs) ((i : Int))), yS (A) (n) (c), yI ((i : Int)), yI (((i : Int)) + ((1 : Int))), yP (ptrAt (A) (((i : Int)) + ((1 : Int))).toNat), yI (gi (xs) (((i : Int)) + ((1 : Int)))), yP (ptrAt (A2) (gi (xs) ((i : Int))).toNat), .pr (fun _ w' => St w0 w' (CkI 2 A2 n n (ps.set (gi xs (i : Int)).toNat (gi xs ((i : Int) + 1))) :: CkI 2 A n c xs :: ks.set ix k'))] (by kernel_rfl) (by kernel_rfl) (ly (ly (ly (ly (ly (ly (ly (ly (ly (ly (ly (List.forall_mem_cons.2 ⟨Ye.lasts_pr (fun v w w' h hb => h.later hb), (fun _ h => by cases h)⟩)))))))))))) ?_ ?_
   ·refine ⟨DrP O, DrP O, DrP O, cP fun _ _ hb _ _ _ => Ops.idx (hO5.later hb).2 O O O (by omega) (by omega) (AzP O O), cP fun _ _ hb _ _ _ => Ops.ld_int (hO5.later hb) O (by omega) O O (AzP O O), DrP O, DrP O, aP fun _ _ => Ops.add O O O (by omega) (AzP O O), cP fun _ _ hb _ _ _ => Ops.idx (hO5.later hb).2 O O O (by omega) (by omega) (AzP O O), cP fun _ _ hb _ _ _ => Ops.ld_int (hO5.later hb) O (by omega) O O (AzP O O), cP fun _ _ hb _ _ _ => Ops.idx (hP5.later hb).2 O O O (by omega) (by omega) (AzP O O), ?_, trivial⟩
    ·refine cPT fun e1 w1 hb hp hun hq => ?_
     refine Ops.st_int 0 (hT5.later hb) O O O (by omega) ?_
     intro w9 hT9
     refine Ops.n ?_
     exact AfterU.st O hT9
   intro u w6 _ hu _ _
   have hT6 := hu 11 _ O (by kernel_rfl)
   have hP6 := hT6.rdI 0 O
   have hO6 := hT6.rdI 1 O
   refine Gec O ?_
   refine Cd.drawP [11] [yS (A2) (n) (n), yS (A) (n) (c), yI ((i : Int)), yI (((i : Int)) + ((1 : Int))), yP (ptrAt (A) (((i : Int)) + ((1 : Int))).toNat), yI (gi (xs) (((i : Int)) + ((1 : Int)))), yS (A) (n) (c), yI ((i : Int)), yP (ptrAt (A) ((i : Int)).toNat), yI (gi (xs) ((i : Int))), yP (ptrAt (A2) (gi (xs) (((i : Int)) + ((1 : Int)))).toNat), .pr (fun _ w' => St w0 w' (CkI 2 A2 n n ((ps.set (gi xs (i : Int)).toNat (gi xs ((i : Int) + 1))).set (gi xs ((i : Int) + 1)).toNat (gi xs (i : Int))) :: CkI 2 A n c xs :: ks.set ix k'))] (by kernel_rfl) (by kernel_rfl) (ly (ly (ly (ly (ly (ly (ly (ly (ly (ly (ly (List.forall_mem_cons.2 ⟨Ye.lasts_pr (fun v w w' h hb => h.later hb), (fun _ h => by cases h)⟩)))))))))))) ?_ ?_
   ·refine ⟨DrP O, DrP O, DrP O, aP fun _ _ => Ops.add O O O (by omega) (AzP O O), cP fun _ _ hb _ _ _ => Ops.idx (hO6.later hb).2 O O O (by omega) (by omega) (AzP O O), cP fun _ _ hb _ _ _ => Ops.ld_int (hO6.later hb) O (by omega) O O (AzP O O), DrP O, DrP O, cP fun _ _ hb _ _ _ => Ops.idx (hO6.later hb).2 O O O (by omega) (by omega) (AzP O O), cP fun _ _ hb _ _ _ => Ops.ld_int (hO6.later hb) O (by omega) O O (AzP O O), cP fun _ _ hb _ _ _ => Ops.idx (hP6.later hb).2 O O O (by omega) (by omega) (AzP O O), ?_, trivial⟩
    ·refine cPT fun e1 w1 hb hp hun hq => ?_
     refine Ops.st_int 0 (hT6.later hb) O O O (by omega) ?_
     intro w9 hT9
     refine Ops.n ?_
     exact AfterU.st O hT9
   intro u2 w7 _ hu2 _ _
   have hT7 := hu2 11 _ O (by kernel_rfl)
   refine Geo O (Ops.add O O O (by omega) (Gdn O (tQ ?_)))
   exact ⟨(i + 2, (ps.set (gi xs (i : Int)).toNat (gi xs ((i : Int) + 1))).set (gi xs ((i : Int) + 1)).toNat (gi xs (i : Int))), by show n + 2 - (i + 2) < n + 2 - i; omega, ⟨O, O, O, O, trivial⟩, hT7, (hps.set hg1.1 hg1.2).set hg0.1 hg0.2, by show i + 2 ≤ n + 1; omega⟩
  ·refine Gax O (thenQ_x (Gfr O ?_))
   refine ret1_s O ?_
   exact ⟨A2, n, ps, k', O, hps, hK', hT5.sub (List.Sublist.cons_cons _ (List.sublist_cons_self _ _))⟩
/-
 The draws of maniplexes, walked: polygons.
-/
def GM (N : Nat) (xss : List (List Int)) : Prop := ∀ p ∈ xss, Rg N p
theorem GM.sys {N : Nat} {xss : List (List Int)} (h : GM N xss) : Sys N xss := fun p hp => ⟨(h p hp).1, fun x h0 h1 => (h p hp).gi h0 h1⟩
def AnsG (n N : Nat) (w : World) (v : Value) (w' : World) : Prop := ∃ A c rs xss, v = .agg #[.slice A n c] ∧ rs.length = n ∧ xss.length = n ∧ GM N xss ∧ St w w' (mat 32 2 A n c rs xss)
structure Po4 (w0 : World) (base : List Ck) (n : Nat) (S : Nat → Bool) (e : Env) (w : World) : Prop where
 f2 : ∃ A, e 2 = .pointer A ∧ base = [Bx 24 1 A [.slice none 0 0]]
 f3 : e 3 = .int .i64 (n : Int)
 p0 : S 0 = true → e 9 = .int .i64 (n : Int)
 p2 : S 2 = true → e 11 = .int .i64 (n : Int)
 mem : ∃ (A1 A2 : Option Addr) (b1 b2 : List Ck), (S 1 = false → b1 = []) ∧ (S 1 = true → e 10 = .slice A1 n n ∧ b1 = [CkI 2 A1 n n (List.replicate n 0)]) ∧ (S 3 = false → b2 = []) ∧ (S 3 = true → e 12 = .slice A2 n n ∧ b2 = [CkI 2 A2 n n (List.replicate n 0)]) ∧ (S 4 = true → e 4 = .slice A1 n n) ∧ (S 5 = true → e 5 = .slice A2 n n) ∧ St w0 w (b1 ++ (b2 ++ base))
def tabF (v : Nat → Int) (n f : Nat) : List Int := (List.range n).map fun g => if g < f then v g else 0
theorem tabF_0 (v : Nat → Int) (n : Nat) : tabF v n 0 = List.replicate n 0 := by
 apply List.ext_getElem (by simp [tabF])
 intro i h1 h2
 simp [tabF]
theorem tabF_set {v : Nat → Int} {n f : Nat} : (tabF v n f).set f (v f) = tabF v n (f + 1) := by
 apply List.ext_getElem (by simp [tabF])
 intro i h1 h2
 rw [List.getElem_set]
 simp only [tabF, List.getElem_map, List.getElem_range]
 by_cases h : f = i
 ·subst h
  rw [if_pos rfl, if_pos (Nat.lt_succ_self _)]
 rw [if_neg h]
 by_cases h2 : i < f
 ·rw [if_pos h2, if_pos (by omega)]
 rw [if_neg h2, if_neg (by omega)]
theorem tabF_rg {v : Nat → Int} {n : Nat} (h : ∀ g, g < n → 0 ≤ v g ∧ v g < n) : Rg n (tabF v n n) := ⟨by simp [tabF], fun x hx => by
 obtain ⟨g, hg, rfl⟩ := List.mem_map.1 hx
 have hg := List.mem_range.1 hg
 rw [if_pos hg]
 exact h g hg⟩
def vPA (g : Nat) : Int := if (g : Int) % 2 = 0 then (g : Int) + 1 else (g : Int) - 1
def vPB (n g : Nat) : Int := if (g : Int) % 2 = 0 then ((g : Int) + (n : Int) - 1) % (n : Int) else ((g : Int) + 1) % (n : Int)
def polL (p : Nat) : List (List Int) := [tabF vPA (2 * p) (2 * p), tabF (vPB (2 * p)) (2 * p) (2 * p)]
theorem polL_gm {p : Nat} (hp : 1 ≤ p) : GM (2 * p) (polL p) := fun q hq => by
 rcases List.mem_cons.1 hq with rfl | hq
 ·refine tabF_rg fun g hg => ?_
  unfold vPA
  split <;> omega
 rw [List.mem_singleton] at hq
 subst hq
 refine tabF_rg fun g hg => ?_
 unfold vPB
 have hm1 := Int.emod_nonneg ((g : Int) + ((2 * p : Nat) : Int) - 1) (b := ((2 * p : Nat) : Int)) (by omega)
 have hm2 := Int.emod_lt_of_pos ((g : Int) + ((2 * p : Nat) : Int) - 1) (b := ((2 * p : Nat) : Int)) (by omega)
 have hm3 := Int.emod_nonneg ((g : Int) + 1) (b := ((2 * p : Nat) : Int)) (by omega)
 have hm4 := Int.emod_lt_of_pos ((g : Int) + 1) (b := ((2 * p : Nat) : Int)) (by omega)
 split
 ·exact ⟨hm1, hm2⟩
 exact ⟨hm3, hm4⟩
theorem l02PolygonE_c (p : Nat) (w : World) (hp : 1 ≤ p ∧ p ≤ 100000) : Ret Tryz.prog 179 [.int .i64 (p : Int)] w (fun v w' => ∃ A c rs, v = .agg #[.slice A 2 c] ∧ rs.length = 2 ∧ St w w' (mat 32 2 A 2 c rs (polL p))) := by
 unfold polL
 refine Ret.of_cd Tryz.func179 O Tryz.ntmps179 O (postc O O) (Gbo O (Ops.new1 (St.refl w) O ?_))
 intro A2 w1 hS1
 refine Gdo O (Ops.mul O O O (by omega) (Gdc O ?_))
 have hn : (2 : Int) * (p : Int) = ((2 * p : Nat) : Int) := by omega
 rw [hn]
 generalize hN : 2 * p = n
 have hn2 : 2 ≤ n := by omega
 refine Cd.drawS (by kernel_rfl) (by kernel_rfl) (fun S e1 w1 => Po4 w [Bx 24 1 A2 [.slice none 0 0]] n S e1 w1) (fun w4 hb => ⟨⟨A2, O, O⟩, O, fun h => (nomatch h), fun h => (nomatch h), none, none, [], [], fun _ => O, fun h => (nomatch h), fun _ => O, fun h => (nomatch h), fun h => (nomatch h), fun h => (nomatch h), hS1.later hb⟩) ?_ ?_
 ·intro S q o e1 w4 hq hSk hd hcl hI
  obtain ⟨f2, f3, p0, p2, A, B, b1, b2, m1, m1', m3, m3', m4, m5, hT⟩ := hI
  match q, hq, hSk with
  | 0, hq, hSk =>
   obtain rfl := Option.some.inj hq
   refine Ops.mi O (by exact f3) O (Ops.n ?_)
   exact ⟨f2, f3, fun _ => O, p2, A, B, b1, b2, m1, m1', m3, m3', m4, m5, hT⟩
  | 1, hq, hSk =>
   obtain rfl := Option.some.inj hq
   obtain rfl := m1 hSk
   have n4 : S 4 = false := by
    cases h : S 4 with
    | false => rfl
    | true => rw [← hSk]; exact (deps_of (hcl 4 _ h rfl) 1 rfl).symm
   refine Ops.mkI n hT (by exact p0 (deps_of hd 0 O)) O (by omega) ?_
   intro A' w5 hT5
   refine Ops.n ?_
   exact ⟨f2, f3, p0, p2, A', B, [CkI 2 A' n n (List.replicate n 0)], b2, fun h => (nomatch (show true = false from h)), fun _ => ⟨O, O⟩, m3, m3', fun h => (nomatch n4.symm.trans h), m5, hT5⟩
  | 2, hq, hSk =>
   obtain rfl := Option.some.inj hq
   refine Ops.mi O (by exact f3) O (Ops.n ?_)
   exact ⟨f2, f3, p0, fun _ => O, A, B, b1, b2, m1, m1', m3, m3', m4, m5, hT⟩
  | 3, hq, hSk =>
   obtain rfl := Option.some.inj hq
   obtain rfl := m3 hSk
   have n5 : S 5 = false := by
    cases h : S 5 with
    | false => rfl
    | true => rw [← hSk]; exact (deps_of (hcl 5 _ h rfl) 3 rfl).symm
   refine Ops.mkI n hT (by exact p2 (deps_of hd 2 O)) O (by omega) ?_
   intro A' w5 hT5
   refine Ops.n ?_
   exact ⟨f2, f3, p0, p2, A, A', b1, [CkI 2 A' n n (List.replicate n 0)], m1, m1', fun h => (nomatch (show true = false from h)), fun _ => ⟨O, O⟩, m4, fun h => (nomatch n5.symm.trans h), hT5.perm (List.perm_middle (l₁ := b1)).symm⟩
  | 4, hq, hSk =>
   obtain rfl := Option.some.inj hq
   refine Ops.ms O (by exact (m1' (deps_of hd 1 O)).1) O (Ops.n ?_)
   exact ⟨f2, f3, p0, p2, A, B, b1, b2, m1, m1', m3, m3', fun _ => O, m5, hT⟩
  | 5, hq, hSk =>
   obtain rfl := Option.some.inj hq
   refine Ops.ms O (by exact (m3' (deps_of hd 3 O)).1) O (Ops.n ?_)
   exact ⟨f2, f3, p0, p2, A, B, b1, b2, m1, m1', m3, m3', m4, fun _ => O, hT⟩
  | q + 6, hq, _ => exact (nomatch hq)
 ·intro S e1 w4 hall hI
  obtain ⟨⟨A0, f2, hbase⟩, f3, p0, p2, A, B, b1, b2, m1, m1', m3, m3', m4, m5, hT⟩ := hI
  obtain ⟨_, rfl⟩ := m1' (hall 1 (by decide))
  obtain ⟨_, rfl⟩ := m3' (hall 3 (by decide))
  rw [hbase] at hT
  refine Qk_ext (F := [(2, .pointer A0), (3, .int .i64 (n : Int)), (4, .slice A n n), (5, .slice B n n)]) ⟨f2, f3, m4 (hall 4 (by decide)), m5 (hall 5 (by decide)), trivial⟩ ?_
  have hT : St w w4 [CkI 2 A n n (List.replicate n 0), CkI 2 B n n (List.replicate n 0), Bx 24 1 A0 [.slice none 0 0]] := hT
  rw [← tabF_0 vPA n] at hT
  have hT : St w w4 [CkI 2 A n n (tabF vPA n 0), CkI 2 B n n (tabF (vPB n) n 0), Bx 24 1 A0 [.slice none 0 0]] := by rw [tabF_0, tabF_0 (vPB n)]; rw [tabF_0] at hT; exact hT
  refine Gec O ?_
  refine Cd.loop (α := Nat) (fun s => [(2, .pointer A0), (3, .int .i64 (n : Int)), (4, .slice A n n), (5, .slice B n n), (6, .int .i64 (s : Int))]) (fun s w' => St w w' [CkI 2 A n n (tabF vPA n s), CkI 2 B n n (tabF (vPB n) n s), Bx 24 1 A0 [.slice none 0 0]] ∧ s ≤ n) (fun s => n - s) 0 ⟨O, O, O, O, O, trivial⟩ ⟨hT, Nat.zero_le _⟩ ?_
  rintro f e w5 ⟨hT5, hf⟩
  refine Gbc O ?_
  refine Cd.cond_p _ O (fun h1 => ?_) (fun h1 => ?_)
  ·have hX5 := hT5.rdI 0 O
   have hm1 := Int.emod_nonneg ((f : Int) + (n : Int) - 1) (b := (n : Int)) (by omega)
   have hm2 := Int.emod_lt_of_pos ((f : Int) + (n : Int) - 1) (b := (n : Int)) (by omega)
   have hm3 := Int.emod_nonneg ((f : Int) + 1) (b := (n : Int)) (by omega)
   have hm4 := Int.emod_lt_of_pos ((f : Int) + 1) (b := (n : Int)) (by omega)
   refine Gao O (Ops.rem O O O (by omega) (Gdc O ?_))
   refine Cd.cond_p _ O (fun h2 => ?_) (fun h2 => ?_)
   ·have hvA : vPA f = (f : Int) + 1 := if_pos h2
    have hvB : vPB n f = ((f : Int) + (n : Int) - 1) % (n : Int) := if_pos h2
    refine Gao O (Ops.add O O O (by omega) ?_)
    refine Ops.idx hX5.2 O O O (by omega) (by omega) (Ops.st_int 0 hT5 O O O (by omega) ?_)
    intro w6 hT6
    have hT6 : St w w6 [CkI 2 A n n ((tabF vPA n f).set f ((f : Int) + 1)), CkI 2 B n n (tabF (vPB n) n f), Bx 24 1 A0 [.slice none 0 0]] := hT6
    rw [← hvA, tabF_set] at hT6
    have hY6 := hT6.rdI 1 O
    refine Gdo O (Ops.add O O O (by omega) (Ops.sub O O O (by omega) (Gdo O ?_)))
    refine Ops.rem O O O (by omega) (Ops.idx hY6.2 O O O (by omega) (by omega) (Ops.st_int 1 hT6 O O O (by omega) ?_))
    intro w7 hT7
    have hT7 : St w w7 [CkI 2 A n n (tabF vPA n (f + 1)), CkI 2 B n n ((tabF (vPB n) n f).set f (((f : Int) + (n : Int) - 1) % (n : Int))), Bx 24 1 A0 [.slice none 0 0]] := hT7
    rw [← hvB, tabF_set] at hT7
    refine Gdo O (Ops.add O O O (by omega) (Gdn O (tQ ?_)))
    exact ⟨f + 1, by show n - (f + 1) < n - f; omega, ⟨O, O, O, O, O, trivial⟩, hT7, by omega⟩
   ·have hvA : vPA f = (f : Int) - 1 := if_neg h2
    have hvB : vPB n f = ((f : Int) + 1) % (n : Int) := if_neg h2
    refine Gao O (Ops.sub O O O (by omega) ?_)
    refine Ops.idx hX5.2 O O O (by omega) (by omega) (Ops.st_int 0 hT5 O O O (by omega) ?_)
    intro w6 hT6
    have hT6 : St w w6 [CkI 2 A n n ((tabF vPA n f).set f ((f : Int) - 1)), CkI 2 B n n (tabF (vPB n) n f), Bx 24 1 A0 [.slice none 0 0]] := hT6
    rw [← hvA, tabF_set] at hT6
    have hY6 := hT6.rdI 1 O
    refine Gdo O (Ops.add O O O (by omega) (Gdo O ?_))
    refine Ops.rem O O O (by omega) (Ops.idx hY6.2 O O O (by omega) (by omega) (Ops.st_int 1 hT6 O O O (by omega) ?_))
    intro w7 hT7
    have hT7 : St w w7 [CkI 2 A n n (tabF vPA n (f + 1)), CkI 2 B n n ((tabF (vPB n) n f).set f (((f : Int) + 1) % (n : Int))), Bx 24 1 A0 [.slice none 0 0]] := hT7
    rw [← hvB, tabF_set] at hT7
    refine Gdo O (Ops.add O O O (by omega) (Gdn O (tQ ?_)))
    exact ⟨f + 1, by show n - (f + 1) < n - f; omega, ⟨O, O, O, O, O, trivial⟩, hT7, by omega⟩
  ·have hfn : f = n := by omega
   subst hfn
   refine Gax O (thenQ_x (Gfo O ?_))
   refine Ops.bs2 hT5 O O O O O O ?_
   intro A9 w6 hT6
   refine Ops.bld1 (by exact inferInstance) O O O O (Ops.st_agg 1 3 hT6 O O O O O O O ?_)
   intro w7 hT7
   refine Gdr O (retc_r O (hT7.rd 3 O) ?_)
   exact ⟨A9, 2, [⟨A, f, f⟩, ⟨B, f, f⟩], O, O, hT7.sub (List.Sublist.cons_cons _ (List.Sublist.cons_cons _ (List.Sublist.cons_cons _ (List.nil_sublist _))))⟩
theorem l02Polygon_c (p : Nat) (w : World) (hp : 1 ≤ p ∧ p ≤ 100000) : Ret Tryz.prog 179 [.int .i64 (p : Int)] w (AnsG 2 (2 * p) w) := (l02PolygonE_c p w hp).mono fun v w' h => by
  obtain ⟨A, c, rs, hv, hrl, hst⟩ := h
  exact ⟨A, c, rs, polL p, hv, hrl, O, polL_gm hp.1, hst⟩
end Go.Proofs.YtopgfgdgfjddpaaGreatDoor.Vc
/-
 What a loop that grows a list of rows keeps.
-/
namespace Go.Proofs.YtopgfgdgfjddpaaGreatDoor.Vc
structure PrS where
 f : Nat
 k : Nat
 B : Option Addr
 n : Nat
 c : Nat
 rs : List SlV
 xss : List (List Int)
end Go.Proofs.YtopgfgdgfjddpaaGreatDoor.Vc
/-
 The draws of maniplexes, walked: two beside each other.
-/
namespace Go.Proofs.YtopgfgdgfjddpaaGreatDoor.Vc
open Go.RowKit
theorem beside_lt {N M v r : Int} (hv : 0 ≤ v ∧ v < N) (hr : 0 ≤ r ∧ r < M) (hb : N * M ≤ 1000000) : 0 ≤ v * M ∧ v * M ≤ 1000000 ∧ 0 ≤ v * M + r ∧ v * M + r < N * M := by
 have h1 : (v + 1) * M ≤ N * M := Int.mul_le_mul_of_nonneg_right (by omega) (by omega)
 have h2 : 0 ≤ v * M := Int.mul_nonneg hv.1 (by omega)
 rw [Int.add_mul, Int.one_mul] at h1
 omega
theorem GM.first {N : Nat} {xss : List (List Int)} (h : GM N xss) (hn : 0 < xss.length) : (gl xss 0).length = N := by
 have e : gl xss (0 : Nat) = xss[0] := gl_mem hn
 have e : gl xss 0 = xss[0] := e
 rw [e]
 exact (h _ (List.getElem_mem hn)).1
theorem GM.at_ {N : Nat} {xss : List (List Int)} (h : GM N xss) {i : Nat} (hi : i < xss.length) : Rg N (gl xss (i : Int)) := by
 rw [gl_mem hi]; exact h _ (List.getElem_mem hi)
theorem l02Beside_c (A : Option Addr) (n c : Nat) (rs : List SlV) (xss : List (List Int)) (N : Nat) (B : Option Addr) (m cB : Nat) (rs' : List SlV) (yss : List (List Int)) (M : Nat) (w : World) (hX : RowsI w A n rs xss) (hY : RowsI w B m rs' yss) (hn : 1 ≤ n ∧ n ≤ 100) (hm : 1 ≤ m ∧ m ≤ 100) (hx : GM N xss) (hy : GM M yss) (hN : 1 ≤ N) (hM : 1 ≤ M) (hNM : N * M ≤ 1000000) :
  Ret Tryz.prog 180 [.agg #[.slice A n c], .agg #[.slice B m cB]] w (AnsG (n + m) (N * M) w) := by
 have hxl := hX.len
 have hyl := hY.len
 have hxN := hx.first (by omega)
 have hyM := hy.first (by omega)
 have hNMi : (N : Int) * (M : Int) ≤ 1000000 := by
  rw [← Int.natCast_mul]
  exact Int.ofNat_le.2 hNM
 refine Ret.of_cd Tryz.func180 O Tryz.ntmps180 O (postc O O) (Gbo O (Ops.box1 (St.refl w) O O ?_))
 intro A2 w1 hS1
 refine Ops.box1 hS1 O O ?_
 intro A3 w2 hS2
 refine Ops.new1 hS2 O ?_
 intro A4 w3 hS3
 refine Gdc O ?_
 refine Cd.draw [.ex (.agg #[.slice (A) (n) (c)]), xI ((gl xss 0).length : Int), .ex (.agg #[.slice (B) (m) (cB)]), xI ((gl yss 0).length : Int), xI ((gl xss 0).length : Int), xI ((gl yss 0).length : Int)] (by kernel_rfl) (by kernel_rfl) O (exL O) ?_ ?_
 ·refine ⟨fun _ _ hb _ _ => Ops.ld_agg 0 ((hS3.rd 2 O).below hb) O O O (Az O), ?_, fun _ _ hb _ _ => Ops.ld_agg 0 ((hS3.rd 1 O).below hb) O O O (Az O), ?_, Dr O, Dr O, trivial⟩
  ·intro e1 w1 hb hp hun; refine Ops.call (l02Flags_c A n c rs xss _ ((hS3.later hb).oldRows hX) (by omega)) O O O ?_
   rintro _ w2 ⟨rfl, hst⟩
   refine Ops.n ?_
   exact After.dn hst.below (by exact O)
  intro e1 w1 hb hp hun
  refine Ops.call (l02Flags_c B m cB rs' yss _ ((hS3.later hb).oldRows hY) (by omega)) O O O ?_
  rintro _ w2 ⟨rfl, hst⟩
  refine Ops.n ?_
  exact After.dn hst.below (by exact O)
 intro u w4 hb4 _
 have hS4 := hS3.later hb4
 rw [hxN, hyM]
 refine Geo O (Ops.bld0 (by exact inferInstance) O (Ops.new1 hS4 O ?_))
 intro A7 w5 hS5
 refine Ops.st_agg 1 0 hS5 O O O O O O O ?_
 intro w6 hS6
 have hS6 : St w w6 ([Bx 24 1 A7 [.slice none 0 0], Bx 24 1 A4 [.slice none 0 0], Bx 24 1 A3 [.slice B m cB], Bx 24 1 A2 [.slice A n c]] ++ mat 32 2 none 0 0 [] []) := (hS6.nil _).perm (List.perm_append_comm (l₁ := [_]) (l₂ := [_, _, _, _]))
 refine Gdc O ?_
 refine Cd.loop (α := PrS) (fun s => [(2, .pointer A2), (3, .pointer A3), (4, .pointer A4), (5, .int .i64 (N : Int)), (6, .int .i64 (M : Int)), (7, .pointer A7), (8, .int .i64 (s.n : Int))]) (fun s w' => St w w' ([Bx 24 1 A7 [.slice s.B s.n s.c], Bx 24 1 A4 [.slice none 0 0], Bx 24 1 A3 [.slice B m cB], Bx 24 1 A2 [.slice A n c]] ++ mat 32 2 s.B s.n s.c s.rs s.xss) ∧ s.n ≤ n + m ∧ s.rs.length = s.n ∧ s.xss.length = s.n ∧ GM (N * M) s.xss) (fun s => n + m - s.n) ⟨0, 0, none, 0, 0, [], []⟩ ⟨O, O, O, O, O, O, O, trivial⟩ ⟨hS6, Nat.zero_le _, O, O, fun p hp => (nomatch hp)⟩ ?_
 rintro ⟨_, _, C, i, cC, rsC, zss⟩ e w7 ⟨hS7, hi, hrl, hzl, hz⟩
 dsimp only at hS7 hi hrl hzl hz ⊢
 refine Gbo O (Ops.fld (hS7.rd 3 O) O O O O inferInstance (Ops.ldf_s (hS7.rd 3 O) O O O O O (Ops.len O O (Ops.fld (hS7.rd 2 O) O O O O inferInstance (Ops.ldf_s (hS7.rd 2 O) O O O O O ?_)))))
 refine Ops.len O O (Ops.add O O O (by omega) (Gdc O ?_))
 refine Cd.cond_p _ O (fun h1 => ?_) (fun h1 => ?_)
 ·refine Gao O (Ops.bs0 hS7 O ?_)
  intro A9 w8 hS8
  refine Gdc O ?_
  refine Cd.loop (α := Nat × Option Addr × Nat × List Int) (fun s => [(2, .pointer A2), (3, .pointer A3), (4, .pointer A4), (5, .int .i64 (N : Int)), (6, .int .i64 (M : Int)), (7, .pointer A7), (8, .int .i64 (i : Int)), (9, .slice s.2.1 s.1 s.2.2.1), (10, .int .i64 (s.1 : Int))]) (fun s w' => St w w' (CkI 2 s.2.1 s.1 s.2.2.1 s.2.2.2 :: ([Bx 24 1 A7 [.slice C i cC], Bx 24 1 A4 [.slice none 0 0], Bx 24 1 A3 [.slice B m cB], Bx 24 1 A2 [.slice A n c]] ++ mat 32 2 C i cC rsC zss)) ∧ s.1 ≤ N * M ∧ s.2.2.2.length = s.1 ∧ ∀ x ∈ s.2.2.2, 0 ≤ x ∧ x < ((N * M : Nat) : Int)) (fun s => N * M - s.1) (0, A9, 0, []) ⟨O, O, O, O, O, O, O, O, O, trivial⟩ ⟨hS8, Nat.zero_le _, O, fun x hx => (nomatch hx)⟩ ?_
  rintro ⟨f, A9, c9, acc⟩ e w9 ⟨hS9, hf, hal, hacc⟩
  dsimp only at hS9 hf hal hacc ⊢
  have hNMe : (N : Int) * (M : Int) = ((N * M : Nat) : Int) := (Int.natCast_mul N M).symm
  refine Gbo O (Ops.mul O O O (by omega) ?_)
  rw [hNMe]
  refine Gdc O ?_
  refine Cd.cond_p _ O (fun h2 => ?_) (fun h2 => ?_)
  ·have hq0 : 0 ≤ (f : Int) / (M : Int) := Int.ediv_nonneg (by omega) (by omega)
   have hq1 : (f : Int) / (M : Int) < (N : Int) := Int.ediv_lt_of_lt_mul (by omega) (by omega)
   have hr0 := Int.emod_nonneg (f : Int) (b := (M : Int)) (by omega)
   have hr1 := Int.emod_lt_of_pos (f : Int) (b := (M : Int)) (by omega)
   have hX9 := hS9.oldRows hX
   have hY9 := hS9.oldRows hY
   refine Gao O (Ops.fld (hS9.rd 4 O) O O O O inferInstance (Ops.ldf_s (hS9.rd 4 O) O O O O O ?_))
   refine Ops.len O O (Gdc O ?_)
   refine Cd.cond_p _ O (fun h3 => ?_) (fun h3 => ?_)
   ·have hrow := hX9.at_ (i := (i : Int)) (by omega) (by omega)
    have hrg := hx.at_ (i := i) (by omega)
    have hrn : (rg rs (i : Int)).n = N := by rw [← hrow.1, hrg.1]
    have hv := hrg.gi hq0 hq1
    have hbd := beside_lt (N := (N : Int)) (M := (M : Int)) hv ⟨hr0, hr1⟩ hNMi
    generalize hV : gi (gl xss (i : Int)) ((f : Int) / (M : Int)) = v at hv hbd
    refine Cd.drawP [18] [yS (A9) (f) (c9), yP (ptrAt (A2) 0), yS (A) (n) (c), yI ((i : Int)), yP (ptrAt (A) ((i : Int)).toNat), yS ((rg (rs) ((i : Int))).a) ((rg (rs) ((i : Int))).n) ((rg (rs) ((i : Int))).c), yI ((f : Int)), yI ((M : Int)), yI ((f : Int) / (M : Int)), yP (ptrAt ((rg (rs) ((i : Int))).a) ((f : Int) / (M : Int)).toNat), yI (v), yI ((M : Int)), yI (v * (M : Int)), yI ((f : Int)), yI ((M : Int)), yI ((f : Int) % (M : Int)), yI ((v * (M : Int)) + ((f : Int) % (M : Int))), .pr (fun v' w' => ∃ A57, v' = .slice A57 1 1 ∧ St w w' (CkI 2 A57 1 1 [v * (M : Int) + (f : Int) % (M : Int)] :: CkI 2 A9 f c9 acc :: ([Bx 24 1 A7 [.slice C i cC], Bx 24 1 A4 [.slice none 0 0], Bx 24 1 A3 [.slice B m cB], Bx 24 1 A2 [.slice A n c]] ++ mat 32 2 C i cC rsC zss))), .pr (fun v' w' => ∃ A21 c21, v' = .slice A21 (f + 1) c21 ∧ St w w' (CkI 2 A21 (f + 1) c21 (acc ++ [v * (M : Int) + (f : Int) % (M : Int)]) :: ([Bx 24 1 A7 [.slice C i cC], Bx 24 1 A4 [.slice none 0 0], Bx 24 1 A3 [.slice B m cB], Bx 24 1 A2 [.slice A n c]] ++ mat 32 2 C i cC rsC zss))), .pr (fun v' w' => ∃ A21 c21, v' = .slice A21 (f + 1) c21 ∧ St w w' (CkI 2 A21 (f + 1) c21 (acc ++ [v * (M : Int) + (f : Int) % (M : Int)]) :: ([Bx 24 1 A7 [.slice C i cC], Bx 24 1 A4 [.slice none 0 0], Bx 24 1 A3 [.slice B m cB], Bx 24 1 A2 [.slice A n c]] ++ mat 32 2 C i cC rsC zss)))] (by kernel_rfl) (by kernel_rfl) (ly (ly (ly (ly (ly (ly (ly (ly (ly (ly (ly (ly (ly (ly (ly (ly (ly (List.forall_mem_cons.2 ⟨Ye.lasts_pr (fun v w w' h hb => by obtain ⟨A20, hv, h1⟩ := h; exact ⟨A20, hv, h1.later hb⟩), (List.forall_mem_cons.2 ⟨Ye.lasts_pr (fun v w w' h hb => by obtain ⟨A21, c21, hv, h1⟩ := h; exact ⟨A21, c21, hv, h1.later hb⟩), (List.forall_mem_cons.2 ⟨Ye.lasts_pr (fun v w w' h hb => by obtain ⟨A21, c21, hv, h1⟩ := h; exact ⟨A21, c21, hv, h1.later hb⟩), (fun _ h => by cases h)⟩)⟩)⟩)))))))))))))))))) ?_ ?_
    ·refine ⟨?_, cP fun _ _ hb _ _ _ => Ops.fld ((hS9.rd 4 O).below hb) O O O O inferInstance (AzP O O), cP fun _ _ hb _ _ _ => Ops.ldf_s ((hS9.rd 4 O).below hb) O O O O O (AzP O O), DrP O, cP fun _ _ hb _ _ _ => Ops.idx (hX9.top.later hb).2 O O O (by omega) (by omega) (AzP O O), cP fun _ _ hb _ _ _ => Ops.ld_sl (hX9.top.later hb) O (by omega) O O (AzP O O), DrP O, DrP O, ?_, cP fun _ _ hb _ _ _ => Ops.idx (hrow.later hb).2 O O O (by omega) (by omega) (AzP O O), ?_, DrP O, ?_, DrP O, DrP O, ?_, aP fun _ _ => Ops.add O O O (by omega) (AzP O O), ?_, ?_, ?_, trivial⟩
     ·intro e1 w1 cc hlo hhi hb0 hp hun hq; show Ops _ _ _ _ _ _ _
      refine Ops.ms O (by exact hun 19 _ O (by kernel_rfl)) O (Ops.n (p0_ O (by exact O)))
     ·intro e1 w1 cc hlo hhi hb0 hp hun hq; show Ops _ _ _ _ _ _ _
      refine Ops.quo O O O (by omega) (Ops.n (p0_ O (by exact O)))
     ·refine cP fun e1 w1 hb hp hun hq => ?_
      refine Ops.ld_int (hrow.later hb) O (by omega) O O (Ops.n ?_)
      exact p0_ O (by exact congrArg (Value.int .i64) hV)
     ·intro e1 w1 cc hlo hhi hb0 hp hun hq; show Ops _ _ _ _ _ _ _
      refine Ops.mul O O O (by omega) (Ops.n (p0_ O (by exact O)))
     ·intro e1 w1 cc hlo hhi hb0 hp hun hq; show Ops _ _ _ _ _ _ _
      refine Ops.rem O O O (by omega) (Ops.n (p0_ O (by exact O)))
     ·refine cP fun e1 w1 hb hp hun hq => ?_
      refine Ops.bs1I (St.refl _) O O O ?_
      intro A20 w20 hst20
      refine Ops.n ?_
      exact AfterP.dn O hst20.below ⟨A20, O, (hS9.later hb).call hst20⟩
     ·refine cPT fun e1 w1 hb hp hun hq => ?_
      obtain ⟨A20, hv', h1⟩ := (hp 17 _ _ (by kernel_rfl) rfl rfl (by kernel_rfl))
      refine Ops.appI 1 h1 O (h1.rdI 0 O) O (by exact hv') O (by omega) (by omega) O ?_
      intro A21 c21 w21 hT21
      refine Ops.n ?_
      exact AfterU.dn O ⟨A21, c21, O, hT21.tail⟩
     refine dP 1 fun e1 w1 hp hun hq => ?_
     have hph := hp 18 _ _ (by kernel_rfl) O O (by kernel_rfl)
     obtain ⟨A21, c21, hv', h1⟩ := (hp 18 _ _ (by kernel_rfl) rfl rfl (by kernel_rfl))
     refine Ops.ms O (by exact hv') O (Ops.n ?_)
     exact AfterP.dn O (Below.refl _ _) ⟨A21, c21, O, h1⟩
    intro u w10 _ hu _ _
    obtain ⟨A21, c21, hv9, hT⟩ := hu 19 _ rfl (by kernel_rfl)
    refine Geo O (Ops.add O O O (by omega) (Gdn O (tQ ?_)))
    refine ⟨(f + 1, A21, c21, acc ++ [v * (M : Int) + (f : Int) % (M : Int)]), by show N * M - (f + 1) < N * M - f; omega, ⟨O, O, O, O, O, O, O, hv9, O, trivial⟩, hT, by show f + 1 ≤ N * M; omega, by simp [hal], fun x hx' => ?_⟩
    rcases List.mem_append.1 hx' with h | h
    ·exact hacc x h
    rw [List.mem_singleton] at h; subst h; omega
   have hrow := hY9.at_ (i := (i : Int) - (n : Int)) (by omega) (by omega)
   obtain ⟨j, hj⟩ : ∃ j : Nat, (i : Int) - (n : Int) = j := ⟨i - n, by omega⟩
   have hrg := hy.at_ (i := j) (by omega)
   rw [← hj] at hrg
   have hrn : (rg rs' ((i : Int) - (n : Int))).n = M := by rw [← hrow.1, hrg.1]
   have hv := hrg.gi hr0 hr1
   have hbd := beside_lt (N := (N : Int)) (M := (M : Int)) (v := (f : Int) / (M : Int)) ⟨hq0, hq1⟩ hv hNMi
   generalize hV : gi (gl yss ((i : Int) - (n : Int))) ((f : Int) % (M : Int)) = v at hv hbd
   refine Cd.drawP [22] [yS (A9) (f) (c9), yI ((f : Int)), yI ((M : Int)), yI ((f : Int) / (M : Int)), yI ((M : Int)), yI ((f : Int) / (M : Int) * (M : Int)), yP (ptrAt (A3) 0), yS (B) (m) (cB), yI ((i : Int)), yP (ptrAt (A2) 0), yS (A) (n) (c), yI (((n : Nat) : Int)), yI (((i : Int)) - (((n : Nat) : Int))), yP (ptrAt (B) (((i : Int)) - (((n : Nat) : Int))).toNat), yS ((rg (rs') (((i : Int)) - (((n : Nat) : Int)))).a) ((rg (rs') (((i : Int)) - (((n : Nat) : Int)))).n) ((rg (rs') (((i : Int)) - (((n : Nat) : Int)))).c), yI ((f : Int)), yI ((M : Int)), yI ((f : Int) % (M : Int)), yP (ptrAt ((rg (rs') (((i : Int)) - (((n : Nat) : Int)))).a) ((f : Int) % (M : Int)).toNat), yI (v), yI (((f : Int) / (M : Int) * (M : Int)) + (v)), .pr (fun v' w' => ∃ A57, v' = .slice A57 1 1 ∧ St w w' (CkI 2 A57 1 1 [(f : Int) / (M : Int) * (M : Int) + v] :: CkI 2 A9 f c9 acc :: ([Bx 24 1 A7 [.slice C i cC], Bx 24 1 A4 [.slice none 0 0], Bx 24 1 A3 [.slice B m cB], Bx 24 1 A2 [.slice A n c]] ++ mat 32 2 C i cC rsC zss))), .pr (fun v' w' => ∃ A21 c21, v' = .slice A21 (f + 1) c21 ∧ St w w' (CkI 2 A21 (f + 1) c21 (acc ++ [(f : Int) / (M : Int) * (M : Int) + v]) :: ([Bx 24 1 A7 [.slice C i cC], Bx 24 1 A4 [.slice none 0 0], Bx 24 1 A3 [.slice B m cB], Bx 24 1 A2 [.slice A n c]] ++ mat 32 2 C i cC rsC zss))), .pr (fun v' w' => ∃ A21 c21, v' = .slice A21 (f + 1) c21 ∧ St w w' (CkI 2 A21 (f + 1) c21 (acc ++ [(f : Int) / (M : Int) * (M : Int) + v]) :: ([Bx 24 1 A7 [.slice C i cC], Bx 24 1 A4 [.slice none 0 0], Bx 24 1 A3 [.slice B m cB], Bx 24 1 A2 [.slice A n c]] ++ mat 32 2 C i cC rsC zss)))] (by kernel_rfl) (by kernel_rfl) (ly (ly (ly (ly (ly (ly (ly (ly (ly (ly (ly (ly (ly (ly (ly (ly (ly (ly (ly (ly (ly (List.forall_mem_cons.2 ⟨Ye.lasts_pr (fun v w w' h hb => by obtain ⟨A20, hv, h1⟩ := h; exact ⟨A20, hv, h1.later hb⟩), (List.forall_mem_cons.2 ⟨Ye.lasts_pr (fun v w w' h hb => by obtain ⟨A21, c21, hv, h1⟩ := h; exact ⟨A21, c21, hv, h1.later hb⟩), (List.forall_mem_cons.2 ⟨Ye.lasts_pr (fun v w w' h hb => by obtain ⟨A21, c21, hv, h1⟩ := h; exact ⟨A21, c21, hv, h1.later hb⟩), (fun _ h => by cases h)⟩)⟩)⟩)))))))))))))))))))))) ?_ ?_
   ·refine ⟨?_, DrP O, DrP O, ?_, DrP O, ?_, cP fun _ _ hb _ _ _ => Ops.fld ((hS9.rd 3 O).below hb) O O O O inferInstance (AzP O O), cP fun _ _ hb _ _ _ => Ops.ldf_s ((hS9.rd 3 O).below hb) O O O O O (AzP O O), DrP O, cP fun _ _ hb _ _ _ => Ops.fld ((hS9.rd 4 O).below hb) O O O O inferInstance (AzP O O), cP fun _ _ hb _ _ _ => Ops.ldf_s ((hS9.rd 4 O).below hb) O O O O O (AzP O O), aP fun _ _ => Ops.len O O (AzP O O), aP fun _ _ => Ops.sub O O O (by omega) (AzP O O), cP fun _ _ hb _ _ _ => Ops.idx (hY9.top.later hb).2 O O O (by omega) (by omega) (AzP O O), cP fun _ _ hb _ _ _ => Ops.ld_sl (hY9.top.later hb) O (by omega) O O (AzP O O), DrP O, DrP O, ?_, cP fun _ _ hb _ _ _ => Ops.idx (hrow.later hb).2 O O O (by omega) (by omega) (AzP O O), ?_, aP fun _ _ => Ops.add O O O (by omega) (AzP O O), ?_, ?_, ?_, trivial⟩
    ·intro e1 w1 cc hlo hhi hb0 hp hun hq; show Ops _ _ _ _ _ _ _
     refine Ops.ms O (by exact hun 23 _ O (by kernel_rfl)) O (Ops.n (p0_ O (by exact O)))
    ·intro e1 w1 cc hlo hhi hb0 hp hun hq; show Ops _ _ _ _ _ _ _
     refine Ops.quo O O O (by omega) (Ops.n (p0_ O (by exact O)))
    ·intro e1 w1 cc hlo hhi hb0 hp hun hq; show Ops _ _ _ _ _ _ _
     refine Ops.mul O O O (by omega) (Ops.n (p0_ O (by exact O)))
    ·intro e1 w1 cc hlo hhi hb0 hp hun hq; show Ops _ _ _ _ _ _ _
     refine Ops.rem O O O (by omega) (Ops.n (p0_ O (by exact O)))
    ·refine cP fun e1 w1 hb hp hun hq => ?_
     refine Ops.ld_int (hrow.later hb) O (by omega) O O (Ops.n ?_)
     exact p0_ O (by exact congrArg (Value.int .i64) hV)
    ·refine cP fun e1 w1 hb hp hun hq => ?_
     refine Ops.bs1I (St.refl _) O O O ?_
     intro A20 w20 hst20
     refine Ops.n ?_
     exact AfterP.dn O hst20.below ⟨A20, O, (hS9.later hb).call hst20⟩
    ·refine cPT fun e1 w1 hb hp hun hq => ?_
     obtain ⟨A20, hv', h1⟩ := (hp 21 _ _ (by kernel_rfl) rfl rfl (by kernel_rfl))
     refine Ops.appI 1 h1 O (h1.rdI 0 O) O (by exact hv') O (by omega) (by omega) O ?_
     intro A21 c21 w21 hT21
     refine Ops.n ?_
     exact AfterU.dn O ⟨A21, c21, O, hT21.tail⟩
    refine dP 1 fun e1 w1 hp hun hq => ?_
    have hph := hp 22 _ _ (by kernel_rfl) O O (by kernel_rfl)
    obtain ⟨A21, c21, hv', h1⟩ := (hp 22 _ _ (by kernel_rfl) rfl rfl (by kernel_rfl))
    refine Ops.ms O (by exact hv') O (Ops.n ?_)
    exact AfterP.dn O (Below.refl _ _) ⟨A21, c21, O, h1⟩
   intro u w10 _ hu _ _
   obtain ⟨A21, c21, hv9, hT⟩ := hu 23 _ rfl (by kernel_rfl)
   refine Geo O (Ops.add O O O (by omega) (Gdn O (tQ ?_)))
   refine ⟨(f + 1, A21, c21, acc ++ [(f : Int) / (M : Int) * (M : Int) + v]), by show N * M - (f + 1) < N * M - f; omega, ⟨O, O, O, O, O, O, O, hv9, O, trivial⟩, hT, by show f + 1 ≤ N * M; omega, by simp [hal], fun x hx' => ?_⟩
   rcases List.mem_append.1 hx' with h | h
   ·exact hacc x h
   rw [List.mem_singleton] at h; subst h; omega
  have hfe : f = N * M := by omega
  refine Gax O (thenQ_x (Gfo O ?_))
  refine Ops.fld (hS9.rd 1 O) O O O O inferInstance (Ops.ldf_s (hS9.rd 1 O) O O O O O (Gdo O (Ops.bs1R hS9 O O O ?_)))
  intro A85 w10 hS10
  refine Ops.appR 6 hS10 O (hS10.rdR 0 O) O O O (by omega) (by omega) O ?_
  intro A86 c86 w11 hS11
  have hS11 : St w w11 (CkI 2 A9 f c9 acc :: Bx 24 1 A7 [.slice C i cC] :: Bx 24 1 A4 [.slice none 0 0] :: Bx 24 1 A3 [.slice B m cB] :: Bx 24 1 A2 [.slice A n c] :: CkR 32 A86 (i + 1) c86 (rsC ++ [⟨A9, f, c9⟩]) :: rowsCk 2 rsC zss) := hS11.tail
  refine Ops.fld (hS11.rd 1 O) O O O O inferInstance (Ops.stf 1 hS11 O O O O O ?_)
  intro w12 hS12
  have hS12 : St w w12 (CkI 2 A9 f c9 acc :: Bx 24 1 A7 [.slice A86 (i + 1) c86] :: Bx 24 1 A4 [.slice none 0 0] :: Bx 24 1 A3 [.slice B m cB] :: Bx 24 1 A2 [.slice A n c] :: CkR 32 A86 (i + 1) c86 (rsC ++ [⟨A9, f, c9⟩]) :: rowsCk 2 rsC zss) := hS12
  refine Gdo O (Ops.add O O O (by omega) (Gdn O (tQ ?_)))
  refine ⟨⟨0, 0, A86, i + 1, c86, rsC ++ [⟨A9, f, c9⟩], zss ++ [acc]⟩, by show n + m - (i + 1) < n + m - i; omega, ⟨O, O, O, O, O, O, O, trivial⟩, ?_, by show i + 1 ≤ n + m; omega, by simp [hrl], by simp [hzl], fun p hp => ?_⟩
  ·show St w w12 ([_, _, _, _] ++ CkR 32 A86 (i + 1) c86 (rsC ++ [⟨A9, f, c9⟩]) :: rowsCk 2 (rsC ++ [⟨A9, f, c9⟩]) (zss ++ [acc]))
   rw [rowsCk_append (by omega)]
   refine hS12.perm ?_
   exact List.perm_append_comm (l₁ := [_]) (l₂ := _ :: _ :: _ :: _ :: CkR 32 A86 (i + 1) c86 (rsC ++ [⟨A9, f, c9⟩]) :: rowsCk 2 rsC zss)
  rcases List.mem_append.1 hp with h | h
  ·exact hz p h
  rw [List.mem_singleton] at h; subst h; exact ⟨by omega, hacc⟩
 have hie : i = n + m := by omega
 subst hie
 refine Gax O (thenQ_x (Gfo O ?_))
 refine Ops.ld_agg 0 (hS7.rd 0 O) O O O (Ops.st_agg 1 1 hS7 O O O O O O O ?_)
 intro w8 hS8
 refine Gdr O (retc_r O (hS8.rd 1 O) ?_)
 exact ⟨C, cC, rsC, zss, O, hrl, hzl, hz, (((hS8.sub ((List.Sublist.refl _).cons _)).sub ((List.Sublist.refl _).cons _)).sub ((List.Sublist.refl _).cons _)).sub ((List.Sublist.refl _).cons _)⟩
/-
 The draws of maniplexes, walked: maps.
-/
theorem bits_xor_lt {q e c : Nat} (h : q < 4 * e) (hc : c < 4) (he : e ≤ 1000000) : 0 ≤ bits .xor .i64 (q : Int) (c : Int) ∧ bits .xor .i64 (q : Int) (c : Int) < ((4 * e : Nat) : Int) := by
 have h1 : (q ^^^ c) / 4 = q / 4 := by
  have h2 : (q ^^^ c) / 2 ^ 2 = q / 2 ^ 2 ^^^ c / 2 ^ 2 := Nat.xor_div_two_pow
  have h3 : c / 2 ^ 2 = 0 := Nat.div_eq_of_lt (by simpa using hc)
  rw [h3, Nat.xor_zero] at h2
  exact h2
 have h4 : q ^^^ c < 4 * e := by omega
 have e1 : bits .xor .i64 (q : Int) (c : Int) = IntKind.i64.wrap ((BitVec.ofInt 64 (q : Int) ^^^ BitVec.ofInt 64 (c : Int)).toNat : Int) := O
 have e2 : (BitVec.ofInt 64 (q : Int) ^^^ BitVec.ofInt 64 (c : Int)).toNat = q ^^^ c := by
  rw [BitVec.toNat_xor, BitVec.ofInt_natCast, BitVec.ofInt_natCast, BitVec.toNat_ofNat, BitVec.toNat_ofNat, Nat.mod_eq_of_lt (by omega), Nat.mod_eq_of_lt (by omega)]
 rw [e1, e2, IntWalk.i64_in _ (by omega)]
 omega
section
variable {P : Program} {N : Nat} {ops : Array Oper} {K : Env → World → Prop} {rest : List Oper} {e : Env} {w0 w w' : World} {ks : List Ck} {d : Nat} {ty : TypeId} {pos : String} {af : Array Edge} {x y : Operand} {xt yt : TypeId} {i j : Int}
theorem Ops.xorI (hx : ev e x = .int .i64 i) (hy : ev e y = .int .i64 j) (hb : Nat.blt d N = true) (hK : Ops P N ops K rest (upd e d (.int .i64 (bits .xor .i64 i j))) w) :
  Ops P N ops K (⟨some d, .binOp .xor xt x y yt, ty, pos, af, none⟩ :: rest) e w :=
 .val (by simp only [execOp, hx, hy, eqGuard, binOp, intBits_xor]; simp) hb hK
theorem Ops.bs3R {t el : TypeId} {b : Nat} [Und P t (.slice el)] [Inf P el (.slice none 0 0) 1 b] {x0 x1 x2 : Operand} {s0 s1 s2 : SlV} (hS : St w0 w ks) (h0 : ev e x0 = s0.v) (h1 : ev e x1 = s1.v) (h2 : ev e x2 = s2.v) (hb : Nat.blt d N = true) (hK : ∀ A w', St w0 w' (CkR el A 3 3 [s0, s1, s2] :: ks) → Ops P N ops K rest (upd e d (.slice A 3 3)) w') : Ops P N ops K (⟨some d, .buildSlice t 3 #[(0, x0), (1, x1), (2, x2)], ty, pos, af, none⟩ :: rest) e w := by
 obtain ⟨inf, hi, hz0, hs, hby⟩ := Inf.get P el
 have e0 : (s0.v).cells = #[s0.v] := O
 have e1 : (s1.v).cells = #[s1.v] := O
 have e2 : (s2.v).cells = #[s2.v] := O
 have hz : (Value.slice none 0 0).cells = #[Value.slice none 0 0] := O
 refine .val (w' := w.alloc (.cells #[s0.v, s1.v, s2.v] el)) ?_ hb (hK _ _ (hS.alloc [s0.v, s1.v, s2.v] el (by simp [maxLen]) O))
 simp [execOp, Instr.buildSlice, run_underlying (Und.out (P := P) (t := t)), sizeOf, typeInfo, zeroValue, hi, hs, hz0, hz, Instr.fill, newRow, h0, e0, h1, e1, h2, e2, arr_range, List.range_succ]
end
theorem l02Map_c {w0 w : World} {ks : List Ck} (ix : Nat) {As : Option Addr} {k : Ck} (ed : Nat) (hS : St w0 w ks) (hk : ks[ix]? = some k) (hK : srcK w0 As k) (he : 1 ≤ ed ∧ ed ≤ 100000) :
  Ret Tryz.prog 236 [.pointer As, .int .i64 (ed : Int)] w (fun v w' => ∃ A c rs xss N k', v = .agg #[.slice A 3 c] ∧ rs.length = 3 ∧ xss.length = 3 ∧ GM N xss ∧ (1 ≤ N ∧ N ≤ 4 * ed) ∧ srcK w0 As k' ∧ St w0 w' (mat 32 2 A 3 c rs xss ++ ks.set ix k')) := by
 refine Ret.of_cd Tryz.func236 O Tryz.ntmps236 O (postc O O) (Gbo O (Ops.new1 hS O ?_))
 intro A4 w1 hS1
 refine Gdo O (Ops.mul O O O (by omega) (Gdo O ?_))
 refine Ops.bs0 hS1 O ?_
 intro A20 w2 hS2
 refine Ops.bs0 hS2 O ?_
 intro A21 w3 hS3
 have hn : (4 : Int) * (ed : Int) = ((4 * ed : Nat) : Int) := by omega
 rw [hn]
 have hS3 : St w0 w3 (CkI 2 A21 0 0 [] :: CkI 2 A20 0 0 [] :: Bx 24 1 A4 [.slice none 0 0] :: ks) := hS3
 refine Gdo O (Ops.call (l01Matching_c (ix + 3) (4 * ed) hS3 (by exact hk) hK (by omega)) O O O ?_)
 rintro _ w4 ⟨Am, cm, ps, k', rfl, hps, hK', hS4⟩
 have hS4 : St w0 w4 (CkI 2 Am (4 * ed) cm ps :: CkI 2 A21 0 0 [] :: CkI 2 A20 0 0 [] :: Bx 24 1 A4 [.slice none 0 0] :: ks.set ix k') := hS4
 generalize hN : 4 * ed = n at *
 refine Gdc O ?_
 refine Cd.loop (α := Nat × Option Addr × Nat × List Int × Option Addr × Nat × List Int) (fun s => [(4, .pointer A4), (5, .int .i64 (n : Int)), (6, .slice s.2.1 s.1 s.2.2.1), (7, .slice s.2.2.2.2.1 s.1 s.2.2.2.2.2.1), (8, .slice Am n cm), (9, .int .i64 (s.1 : Int))]) (fun s w' => St w0 w' (CkI 2 Am n cm ps :: CkI 2 s.2.2.2.2.1 s.1 s.2.2.2.2.2.1 s.2.2.2.2.2.2 :: CkI 2 s.2.1 s.1 s.2.2.1 s.2.2.2.1 :: Bx 24 1 A4 [.slice none 0 0] :: ks.set ix k') ∧ s.1 ≤ n ∧ s.2.2.2.1.length = s.1 ∧ s.2.2.2.2.2.2.length = s.1 ∧ (∀ x ∈ s.2.2.2.1, 0 ≤ x ∧ x < (n : Int)) ∧ (∀ x ∈ s.2.2.2.2.2.2, 0 ≤ x ∧ x < (n : Int))) (fun s => n - s.1) (0, A20, 0, [], A21, 0, []) ⟨O, O, O, O, O, O, trivial⟩ ⟨hS4, Nat.zero_le _, O, O, fun x hx => (nomatch hx), fun x hx => (nomatch hx)⟩ ?_
 rintro ⟨f, A6, c6, zs, A7, c7, ts⟩ e w5 ⟨hS5, hf, hzl, htl, hz, ht⟩
 dsimp only at hS5 hf hzl htl hz ht ⊢
 refine Gbc O ?_
 refine Cd.cond_p _ O (fun h1 => ?_) (fun h1 => ?_)
 ·have hx1 := bits_xor_lt (q := f) (e := ed) (c := 1) (by omega) (by decide) (by omega)
  have hx2 := bits_xor_lt (q := f) (e := ed) (c := 2) (by omega) (by decide) (by omega)
  rw [hN] at hx1 hx2
  refine Gao O (Ops.xorI (j := ((1 : Nat) : Int)) O O O ?_)
  generalize bits .xor .i64 (f : Int) ((1 : Nat) : Int) = b1 at hx1 ⊢
  refine Ops.bs1I hS5 O O O ?_
  intro A33 w6 hS6
  refine Ops.appI 3 hS6 O (hS6.rdI 0 O) O O O (by omega) (by omega) O ?_
  intro A34 c34 w7 hS7
  have hS7 : St w0 w7 (CkI 2 Am n cm ps :: CkI 2 A7 f c7 ts :: CkI 2 A34 (f + 1) c34 (zs ++ [b1]) :: Bx 24 1 A4 [.slice none 0 0] :: ks.set ix k') := hS7.tail
  refine Gdo O (Ops.xorI (j := ((2 : Nat) : Int)) O O O ?_)
  generalize bits .xor .i64 (f : Int) ((2 : Nat) : Int) = b2 at hx2 ⊢
  refine Ops.bs1I hS7 O O O ?_
  intro A38 w8 hS8
  refine Ops.appI 2 hS8 O (hS8.rdI 0 O) O O O (by omega) (by omega) O ?_
  intro A39 c39 w9 hS9
  refine Gdo O (Ops.add O O O (by omega) (Gdn O (tQ ?_)))
  refine ⟨(f + 1, A34, c34, zs ++ [b1], A39, c39, ts ++ [b2]), by show n - (f + 1) < n - f; omega, ⟨O, O, O, O, O, O, trivial⟩, hS9.tail, by show f + 1 ≤ n; omega, by simp [hzl], by simp [htl], fun x hx => ?_, fun x hx => ?_⟩
  ·rcases List.mem_append.1 hx with h | h
   ·exact hz x h
   rw [List.mem_singleton] at h; subst h; exact hx1
  rcases List.mem_append.1 hx with h | h
  ·exact ht x h
  rw [List.mem_singleton] at h; subst h; exact hx2
 have hfn : f = n := by omega
 subst hfn
 refine Gax O (thenQ_x (Gfo O ?_))
 refine Ops.bs3R (s0 := ⟨A6, f, c6⟩) (s1 := ⟨Am, f, cm⟩) (s2 := ⟨A7, f, c7⟩) hS5 O O O O ?_
 intro A10 w6 hS6
 have hS6 : St w0 w6 (mat 32 2 A10 3 3 [⟨A6, f, c6⟩, ⟨Am, f, cm⟩, ⟨A7, f, c7⟩] [zs, ps, ts] ++ (Bx 24 1 A4 [.slice none 0 0] :: ks.set ix k')) := hS6.perm (List.Perm.cons _ (((List.Perm.cons _ (List.Perm.swap _ _ _)).trans (List.Perm.swap _ _ _)).trans (List.Perm.cons _ (List.Perm.refl _))))
 have hG : GM f [zs, ps, ts] := fun q hq => by
  rcases List.mem_cons.1 hq with rfl | hq
  ·exact ⟨hzl, hz⟩
  rcases List.mem_cons.1 hq with rfl | hq
  ·exact hps
  rw [List.mem_singleton] at hq; subst hq; exact ⟨htl, ht⟩
 have hM6 : RowsI w6 A10 3 [⟨A6, f, c6⟩, ⟨Am, f, cm⟩, ⟨A7, f, c7⟩] [zs, ps, ts] := St.rowsI hS6 O
 obtain ⟨o1, o2, _⟩ := orbit_spec (N := f) (xss := [zs, ps, ts]) (pt := 0) hG.sys (Int.le_refl _) (by omega)
 have hol := o1.len
 have hol1 : 1 ≤ (orbit f [zs, ps, ts] 0).length := by
  have := o2.length_le
  simpa using this
 have horg := o1.range
 refine Gdo O ?_
 refine Ops.call (l01Orbit_c A10 3 3 _ _ f 0 _ hM6 (by decide) hG.sys (by omega) (Int.le_refl _) (by omega)) O O O ?_
 rintro _ w7 ⟨A11, c11, rfl, hst7⟩
 have hS7 := hS6.call hst7
 generalize hO : orbit f [zs, ps, ts] 0 = ord at *
 have hS7 : St w0 w7 (CkI 2 A11 ord.length c11 ord :: (mat 32 2 A10 3 3 [⟨A6, f, c6⟩, ⟨Am, f, cm⟩, ⟨A7, f, c7⟩] [zs, ps, ts] ++ (Bx 24 1 A4 [.slice none 0 0] :: ks.set ix k'))) := hS7
 refine Gdo O (Ops.mkI f hS7 O O (by omega) ?_)
 intro A12 w8 hS8
 refine Gdc O ?_
 refine Cd.loop (α := Nat × List Int) (fun s => [(4, .pointer A4), (5, .int .i64 (f : Int)), (10, .slice A10 3 3), (11, .slice A11 ord.length c11), (12, .slice A12 f f), (13, .int .i64 (s.1 : Int))]) (fun s w' => St w0 w' (CkI 2 A12 f f s.2 :: CkI 2 A11 ord.length c11 ord :: (mat 32 2 A10 3 3 [⟨A6, f, c6⟩, ⟨Am, f, cm⟩, ⟨A7, f, c7⟩] [zs, ps, ts] ++ (Bx 24 1 A4 [.slice none 0 0] :: ks.set ix k'))) ∧ s.1 ≤ ord.length ∧ s.2.length = f ∧ ∀ x ∈ s.2, 0 ≤ x ∧ x < (ord.length : Int)) (fun s => ord.length - s.1) (0, List.replicate f 0) ⟨rfl, rfl, rfl, rfl, rfl, rfl, trivial⟩ ⟨hS8, Nat.zero_le _, by simp, fun x hx => by obtain ⟨h0, rfl⟩ := List.mem_replicate.1 hx; omega⟩ ?_
 rintro ⟨i, num⟩ e w9 ⟨hS9, hi, hnl, hnr⟩
 dsimp only at hS9 hi hnl hnr ⊢
 refine Gbo O (Ops.len O O (Gdc O ?_))
 refine Cd.cond_p _ O (fun h2 => ?_) (fun h2 => ?_)
 ·have hR11 := hS9.rdI 1 O
  have hR12 := hS9.rdI 0 O
  have hor := horg (gi ord (i : Int)) (by rw [gi_mem (by omega)]; exact List.getElem_mem _)
  refine Gao O (Ops.idx hR11.2 O O O (by omega) (by omega) (Ops.ld_int hR11 O (by omega) O O (Gdo O (Ops.idx hR12.2 O O O (by omega) (by omega) (Ops.st_int 0 hS9 O O O (by omega) ?_)))))
  intro w10 hS10
  refine Gdo O (Ops.add O O O (by omega) (Gdn O (tQ ?_)))
  refine ⟨(i + 1, num.set (gi ord (i : Int)).toNat (i : Int)), by show ord.length - (i + 1) < ord.length - i; omega, ⟨O, O, O, O, O, O, trivial⟩, hS10, by show i + 1 ≤ ord.length; omega, by rw [List.length_set]; exact hnl, fun x hx => ?_⟩
  rcases List.mem_or_eq_of_mem_set hx with hx | rfl
  ·exact hnr x hx
  omega
 have hR11 := hS9.rdI 1 O
 have hR12 := hS9.rdI 0 O
 have hM9 : RowsI w9 A10 3 [⟨A6, f, c6⟩, ⟨Am, f, cm⟩, ⟨A7, f, c7⟩] [zs, ps, ts] := St.rowsI hS9.tail.tail O
 have hnum : ∀ x : Int, 0 ≤ x → x < f → 0 ≤ gi num x ∧ gi num x < (ord.length : Int) := fun x h0 h1 => by
  obtain ⟨q, rfl⟩ : ∃ q : Nat, x = q := ⟨x.toNat, by omega⟩
  rw [gi_mem (by omega)]
  exact hnr _ (List.getElem_mem _)
 refine Gax O (thenQ_x (Gfo O ?_))
 refine Ops.bld0 (by exact inferInstance) O (Ops.new1 (St.refl w9) O ?_)
 intro A14 w10 hT10
 refine Ops.st_agg 1 0 hT10 O O O O O O O ?_
 intro w11 hT11
 have hT11 : St w9 w11 ([Bx 24 1 A14 [.slice none 0 0]] ++ mat 32 2 none 0 0 [] []) := (hT11.nil _).perm (List.perm_append_comm (l₁ := [_]) (l₂ := [_]))
 refine Gdc O ?_
 refine Cd.loop (α := PrS) (fun s => [(4, .pointer A4), (5, .int .i64 (f : Int)), (10, .slice A10 3 3), (11, .slice A11 ord.length c11), (12, .slice A12 f f), (14, .pointer A14), (15, .int .i64 (s.n : Int))]) (fun s w' => St w9 w' ([Bx 24 1 A14 [.slice s.B s.n s.c]] ++ mat 32 2 s.B s.n s.c s.rs s.xss) ∧ s.n ≤ 3 ∧ s.rs.length = s.n ∧ s.xss.length = s.n ∧ GM ord.length s.xss) (fun s => 3 - s.n) ⟨0, 0, none, 0, 0, [], []⟩ ⟨O, O, O, O, O, O, O, trivial⟩ ⟨hT11, Nat.zero_le _, O, O, fun p hp => (nomatch hp)⟩ ?_
 rintro ⟨_, _, C, q, cC, rsC, zss⟩ e w12 ⟨hT12, hq, hrl, hzl2, hzz⟩
 dsimp only at hT12 hq hrl hzl2 hzz ⊢
 refine Gbc O ?_
 refine Cd.cond_p _ O (fun h3 => ?_) (fun h3 => ?_)
 ·refine Gao O (Ops.bs0 hT12 O ?_)
  intro A16 w13 hT13
  refine Gdc O ?_
  refine Cd.loop (α := Nat × Option Addr × Nat × List Int) (fun s => [(4, .pointer A4), (5, .int .i64 (f : Int)), (10, .slice A10 3 3), (11, .slice A11 ord.length c11), (12, .slice A12 f f), (14, .pointer A14), (15, .int .i64 (q : Int)), (16, .slice s.2.1 s.1 s.2.2.1), (17, .int .i64 (s.1 : Int))]) (fun s w' => St w9 w' (CkI 2 s.2.1 s.1 s.2.2.1 s.2.2.2 :: ([Bx 24 1 A14 [.slice C q cC]] ++ mat 32 2 C q cC rsC zss)) ∧ s.1 ≤ ord.length ∧ s.2.2.2.length = s.1 ∧ ∀ x ∈ s.2.2.2, 0 ≤ x ∧ x < (ord.length : Int)) (fun s => ord.length - s.1) (0, A16, 0, []) ⟨O, O, O, O, O, O, O, O, O, trivial⟩ ⟨hT13, Nat.zero_le _, O, fun x hx => (nomatch hx)⟩ ?_
  rintro ⟨j, A16, c16, acc⟩ e w14 ⟨hT14, hj, hal, hacc⟩
  dsimp only at hT14 hj hal hacc ⊢
  refine Gbo O (Ops.len O O (Gdc O ?_))
  refine Cd.cond_p _ O (fun h4 => ?_) (fun h4 => ?_)
  ·have hO14 := hT14.oldI hR11
   have hN14 := hT14.oldI hR12
   have hM14 := hT14.oldRows hM9
   have hrow := hM14.at_ (i := (q : Int)) (by omega) (by omega)
   have hrg := hG.at_ (i := q) (by show q < 3; omega)
   have hrn : (rg [⟨A6, f, c6⟩, ⟨Am, f, cm⟩, ⟨A7, f, c7⟩] (q : Int)).n = f := by rw [← hrow.1, hrg.1]
   have hor := horg (gi ord (j : Int)) (by rw [gi_mem (by omega)]; exact List.getElem_mem _)
   have hmv := hrg.gi hor.1 hor.2
   have hnv := hnum _ hmv.1 hmv.2
   generalize hV : gi (gl [zs, ps, ts] (q : Int)) (gi ord (j : Int)) = mv at hmv hnv
   refine Gac O ?_
   refine Cd.drawP [15] [yS (A16) (j) (c16), yS (A12) (f) (f), yS (A10) (3) (3), yI ((q : Int)), yP (ptrAt (A10) ((q : Int)).toNat), yS ((rg ([⟨A6, f, c6⟩, ⟨Am, f, cm⟩, ⟨A7, f, c7⟩]) ((q : Int))).a) ((rg ([⟨A6, f, c6⟩, ⟨Am, f, cm⟩, ⟨A7, f, c7⟩]) ((q : Int))).n) ((rg ([⟨A6, f, c6⟩, ⟨Am, f, cm⟩, ⟨A7, f, c7⟩]) ((q : Int))).c), yS (A11) (ord.length) (c11), yI ((j : Int)), yP (ptrAt (A11) ((j : Int)).toNat), yI (gi (ord) ((j : Int))), yP (ptrAt (rg [⟨A6, f, c6⟩, ⟨Am, f, cm⟩, ⟨A7, f, c7⟩] (q : Int)).a (gi ord (j : Int)).toNat), yI (mv), yP (ptrAt (A12) (mv).toNat), yI (gi (num) (mv)), .pr (fun v' w' => ∃ A57, v' = .slice A57 1 1 ∧ St w9 w' (CkI 2 A57 1 1 [gi num mv] :: CkI 2 A16 j c16 acc :: ([Bx 24 1 A14 [.slice C q cC]] ++ mat 32 2 C q cC rsC zss))), .pr (fun v' w' => ∃ A21 c21, v' = .slice A21 (j + 1) c21 ∧ St w9 w' (CkI 2 A21 (j + 1) c21 (acc ++ [gi num mv]) :: ([Bx 24 1 A14 [.slice C q cC]] ++ mat 32 2 C q cC rsC zss))), .pr (fun v' w' => ∃ A21 c21, v' = .slice A21 (j + 1) c21 ∧ St w9 w' (CkI 2 A21 (j + 1) c21 (acc ++ [gi num mv]) :: ([Bx 24 1 A14 [.slice C q cC]] ++ mat 32 2 C q cC rsC zss)))] (by kernel_rfl) (by kernel_rfl) (ly (ly (ly (ly (ly (ly (ly (ly (ly (ly (ly (ly (ly (ly (List.forall_mem_cons.2 ⟨Ye.lasts_pr (fun v w w' h hb => by obtain ⟨A20, hv, h1⟩ := h; exact ⟨A20, hv, h1.later hb⟩), (List.forall_mem_cons.2 ⟨Ye.lasts_pr (fun v w w' h hb => by obtain ⟨A21, c21, hv, h1⟩ := h; exact ⟨A21, c21, hv, h1.later hb⟩), (List.forall_mem_cons.2 ⟨Ye.lasts_pr (fun v w w' h hb => by obtain ⟨A21, c21, hv, h1⟩ := h; exact ⟨A21, c21, hv, h1.later hb⟩), (fun _ h => by cases h)⟩)⟩)⟩))))))))))))))) ?_ ?_
   ·refine ⟨?_, DrP O, DrP O, DrP O, cP fun _ _ hb _ _ _ => Ops.idx (hM14.top.later hb).2 O O O (by omega) (by omega) (AzP O O), cP fun _ _ hb _ _ _ => Ops.ld_sl (hM14.top.later hb) O (by omega) O O (AzP O O), DrP O, DrP O, cP fun _ _ hb _ _ _ => Ops.idx (hO14.later hb).2 O O O (by omega) (by omega) (AzP O O), cP fun _ _ hb _ _ _ => Ops.ld_int (hO14.later hb) O (by omega) O O (AzP O O), ?_, ?_, cP fun _ _ hb _ _ _ => Ops.idx (hN14.later hb).2 O O O (by omega) (by omega) (AzP O O), cP fun _ _ hb _ _ _ => Ops.ld_int (hN14.later hb) O (by omega) O O (AzP O O), ?_, ?_, ?_, trivial⟩
    ·intro e1 w1 cc hlo hhi hb0 hp hun hq; show Ops _ _ _ _ _ _ _
     refine Ops.ms O (by exact hun 16 _ O (by kernel_rfl)) O (Ops.n (p0_ O (by exact O)))
    ·refine cP fun e1 w1 hb hp hun hq => ?_
     refine Ops.idx (hrow.later hb).2 O O O (by omega) (by omega) (Ops.n (p0_ O (by exact O)))
    ·refine cP fun e1 w1 hb hp hun hq => ?_
     refine Ops.ld_int (hrow.later hb) O (by omega) O O (Ops.n ?_)
     exact p0_ O (by exact congrArg (Value.int .i64) hV)
    ·refine cP fun e1 w1 hb hp hun hq => ?_
     refine Ops.bs1I (St.refl _) O O O ?_
     intro A20 w20 hst20
     refine Ops.n ?_
     exact AfterP.dn O hst20.below ⟨A20, O, (hT14.later hb).call hst20⟩
    ·refine cPT fun e1 w1 hb hp hun hq => ?_
     obtain ⟨A20, hv', h1⟩ := (hp 14 _ _ (by kernel_rfl) rfl rfl (by kernel_rfl))
     refine Ops.appI 1 h1 O (h1.rdI 0 O) O (by exact hv') O (by omega) (by omega) O ?_
     intro A21 c21 w21 hT21
     refine Ops.n ?_
     exact AfterU.dn O ⟨A21, c21, O, hT21.tail⟩
    refine dP 1 fun e1 w1 hp hun hq => ?_
    have hph := hp 15 _ _ (by kernel_rfl) O O (by kernel_rfl)
    obtain ⟨A21, c21, hv', h1⟩ := (hp 15 _ _ (by kernel_rfl) rfl rfl (by kernel_rfl))
    refine Ops.ms O (by exact hv') O (Ops.n ?_)
    exact AfterP.dn O (Below.refl _ _) ⟨A21, c21, O, h1⟩
   intro u w15 _ hu _ _
   obtain ⟨A21, c21, hv16, hT⟩ := hu 16 _ rfl (by kernel_rfl)
   refine Geo O (Ops.add O O O (by omega) (Gdn O (tQ ?_)))
   refine ⟨(j + 1, A21, c21, acc ++ [gi num mv]), by show ord.length - (j + 1) < ord.length - j; omega, ⟨O, O, O, O, O, O, O, hv16, O, trivial⟩, hT, by show j + 1 ≤ ord.length; omega, by simp [hal], fun x hx' => ?_⟩
   rcases List.mem_append.1 hx' with h | h
   ·exact hacc x h
   rw [List.mem_singleton] at h; subst h; exact hnv
  have hje : j = ord.length := by omega
  refine Gax O (thenQ_x (Gfo O ?_))
  refine Ops.fld (hT14.rd 1 O) O O O O inferInstance (Ops.ldf_s (hT14.rd 1 O) O O O O O (Gdo O (Ops.bs1R hT14 O O O ?_)))
  intro A85 w15 hT15
  refine Ops.appR 3 hT15 O (hT15.rdR 0 O) O O O (by omega) (by omega) O ?_
  intro A86 c86 w16 hT16
  have hT16 : St w9 w16 (CkI 2 A16 j c16 acc :: Bx 24 1 A14 [.slice C q cC] :: CkR 32 A86 (q + 1) c86 (rsC ++ [⟨A16, j, c16⟩]) :: rowsCk 2 rsC zss) := hT16.tail
  refine Ops.fld (hT16.rd 1 O) O O O O inferInstance (Ops.stf 1 hT16 O O O O O ?_)
  intro w17 hT17
  have hT17 : St w9 w17 (CkI 2 A16 j c16 acc :: Bx 24 1 A14 [.slice A86 (q + 1) c86] :: CkR 32 A86 (q + 1) c86 (rsC ++ [⟨A16, j, c16⟩]) :: rowsCk 2 rsC zss) := hT17
  refine Gdo O (Ops.add O O O (by omega) (Gdn O (tQ ?_)))
  refine ⟨⟨0, 0, A86, q + 1, c86, rsC ++ [⟨A16, j, c16⟩], zss ++ [acc]⟩, by show 3 - (q + 1) < 3 - q; omega, ⟨O, O, O, O, O, O, O, trivial⟩, ?_, by show q + 1 ≤ 3; omega, by simp [hrl], by simp [hzl2], fun p hp => ?_⟩
  ·show St w9 w17 ([_] ++ CkR 32 A86 (q + 1) c86 (rsC ++ [⟨A16, j, c16⟩]) :: rowsCk 2 (rsC ++ [⟨A16, j, c16⟩]) (zss ++ [acc]))
   rw [rowsCk_append (by omega)]
   refine hT17.perm ?_
   exact List.perm_append_comm (l₁ := [_]) (l₂ := _ :: CkR 32 A86 (q + 1) c86 (rsC ++ [⟨A16, j, c16⟩]) :: rowsCk 2 rsC zss)
  rcases List.mem_append.1 hp with h | h
  ·exact hzz p h
  rw [List.mem_singleton] at h; subst h; exact ⟨by omega, hacc⟩
 have hq3 : q = 3 := by omega
 subst hq3
 have hF := hS9.call hT12
 have hF2 : St w0 w12 (Bx 24 1 A14 [.slice C 3 cC] :: (mat 32 2 C 3 cC rsC zss ++ (Bx 24 1 A4 [.slice none 0 0] :: ks.set ix k'))) :=
  hF.sub (List.Sublist.cons_cons _ (List.Sublist.append_left ((List.sublist_append_right _ _).cons _ |>.cons _) _))
 have hF3 : St w0 w12 (Bx 24 1 A14 [.slice C 3 cC] :: Bx 24 1 A4 [.slice none 0 0] :: (mat 32 2 C 3 cC rsC zss ++ ks.set ix k')) := hF2.perm (List.Perm.cons _ List.perm_middle)
 refine Gax O (thenQ_x (Gfo O ?_))
 refine Ops.ld_agg 0 (hF3.rd 0 O) O O O (Ops.st_agg 1 1 hF3 O O O O O O O ?_)
 intro w13 hF4
 refine Gdr O (retc_r O (hF4.rd 1 O) ?_)
 exact ⟨C, cC, rsC, zss, ord.length, k', O, hrl, hzl2, hzz, ⟨hol1, by omega⟩, hK', (hF4.sub ((List.Sublist.refl _).cons _)).sub ((List.Sublist.refl _).cons _)⟩
/-
 The draws of maniplexes, walked: any maniplex.
-/
theorem two_eq {a b a' b' : Value} (h : a = a') (h' : b = b') : [a, b] = [a', b'] := by rw [h, h']
theorem postQ_ext {Q : Post} {e : Env} {w : World} {F : List (Nat × Value)} (hM : Mt e F) (h : Q .normal (ext e F) w) : Q .normal e w := by rwa [ext_of_mt hM] at h
theorem srcNextX_c {w0 w : World} {ks : List Ck} (X : List Ck) (ix : Nat) {As : Option Addr} {k : Ck} (n : Int) (hS : St w0 w (X ++ ks)) (hk : ks[ix]? = some k) (hK : srcK w0 As k) :
  Ret Tryz.prog 135 [.pointer As, .int .i64 n] w (fun v w' => ∃ (r : Int) (k' : Ck), v = .int .i64 r ∧ (0 ≤ r ∧ (1 ≤ n → r < n) ∧ (n < 1 → r = 0)) ∧ srcK w0 As k' ∧ St w0 w' (X ++ ks.set ix k')) := by
 have e : (X ++ ks)[X.length + ix]? = some k := by
  rw [List.getElem?_append_right (by omega), Nat.add_sub_cancel_left]; exact hk
 have h := srcNext_c (X.length + ix) n hS e hK
 refine h.mono ?_
 rintro v w' ⟨r, k', h1, h2, h3, h4⟩
 rw [show (X ++ ks).set (X.length + ix) k' = X ++ ks.set ix k' from by rw [List.set_append, if_neg (by omega), Nat.add_sub_cancel_left]] at h4
 exact ⟨r, k', h1, h2, h3, h4⟩
def AnsD (w0 : World) (ks : List Ck) (ix : Nat) (As : Option Addr) (v : Value) (w' : World) : Prop :=
 ∃ (n N : Nat) (A : Option Addr) (c : Nat) (rs : List SlV) (xss : List (List Int)) (k' : Ck), v = .agg #[.slice A n c] ∧ (1 ≤ n ∧ n ≤ 5) ∧ (1 ≤ N ∧ N ≤ 20000) ∧ rs.length = n ∧ xss.length = n ∧ GM N xss ∧ srcK w0 As k' ∧ St w0 w' (mat 32 2 A n c rs xss ++ ks.set ix k')
structure AnS where
 n : Nat
 N : Nat
 A : Option Addr
 c : Nat
 rs : List SlV
 xss : List (List Int)
 k : Ck
abbrev anyL (A4 A5 A6 Ar Ae : Option Addr) (vs : List Value) (X : List Ck) : List Ck :=
 Bx 24 1 A6 vs :: Bx 24 1 A5 [.slice Ar 1 1] :: Bx 24 1 A4 [.slice none 0 0] :: (mat 32 2 Ar 1 1 [⟨Ae, 2, 2⟩] [[1, 0]] ++ X)
abbrev anyM (A4 A5 A6 Ar Ae : Option Addr) (vs : List Value) (ms X : List Ck) : List Ck :=
 Bx 24 1 A6 vs :: Bx 24 1 A5 [.slice Ar 1 1] :: Bx 24 1 A4 [.slice none 0 0] :: (ms ++ (mat 32 2 Ar 1 1 [⟨Ae, 2, 2⟩] [[1, 0]] ++ X))
theorem any_join {w0 w w' : World} {A4 A5 A6 Ar Ae : Option Addr} {vs : List Value} {ms X : List Ck} (hS : St w0 w (anyL A4 A5 A6 Ar Ae vs X)) (hT : St w w' ms) : St w0 w' (anyM A4 A5 A6 Ar Ae vs ms X) := (hS.call hT).perm ((List.perm_middle (l₁ := ms)).trans (List.Perm.cons _ ((List.perm_middle (l₁ := ms)).trans (List.Perm.cons _ (List.perm_middle (l₁ := ms))))))
theorem any_perm {w0 w' : World} {A4 A5 A6 Ar Ae : Option Addr} {vs : List Value} {ms X : List Ck} (hS : St w0 w' (ms ++ anyL A4 A5 A6 Ar Ae vs X)) : St w0 w' (anyM A4 A5 A6 Ar Ae vs ms X) :=
 hS.perm ((List.perm_middle (l₁ := ms)).trans (List.Perm.cons _ ((List.perm_middle (l₁ := ms)).trans (List.Perm.cons _ (List.perm_middle (l₁ := ms))))))
theorem any_drop {w0 w' : World} {A4 A5 A6 Ar Ae : Option Addr} {vs : List Value} {ms X : List Ck} (hS : St w0 w' (anyM A4 A5 A6 Ar Ae vs ms X)) : St w0 w' (anyL A4 A5 A6 Ar Ae vs X) :=
 hS.sub (List.Sublist.cons_cons _ (List.Sublist.cons_cons _ (List.Sublist.cons_cons _ (List.sublist_append_right _ _))))
theorem srcNextA_c {w0 w : World} {A4 A5 A6 Ar Ae : Option Addr} {vs : List Value} {ms ks : List Ck} (ix : Nat) {As : Option Addr} {k : Ck} (n : Int) (hS : St w0 w (anyM A4 A5 A6 Ar Ae vs ms ks)) (hk : ks[ix]? = some k) (hK : srcK w0 As k) :
  Ret Tryz.prog 135 [.pointer As, .int .i64 n] w (fun v w' => ∃ (r : Int) (k' : Ck), v = .int .i64 r ∧ (0 ≤ r ∧ (1 ≤ n → r < n) ∧ (n < 1 → r = 0)) ∧ srcK w0 As k' ∧ St w0 w' (anyM A4 A5 A6 Ar Ae vs ms (ks.set ix k'))) := by
 have e : ∀ X, anyM A4 A5 A6 Ar Ae vs ms X = anyM A4 A5 A6 Ar Ae vs ms [] ++ X := fun X => by simp [anyM]
 rw [e] at hS
 refine (srcNextX_c _ ix n hS hk hK).mono ?_
 rintro v w' ⟨r, k', h1, h2, h3, h4⟩
 rw [← e] at h4
 exact ⟨r, k', h1, h2, h3, h4⟩
theorem GM.edge : GM 2 [[1, 0]] := fun p hp => by
 rw [List.mem_singleton] at hp
 subst hp
 exact ⟨O, fun x hx => by
  rcases List.mem_cons.1 hx with rfl | hx
  ·decide
  rw [List.mem_singleton] at hx; subst hx; decide⟩
structure An4 (w0 : World) (ks : List Ck) (ix : Nat) (As A4 A5 A6 Ar Ae : Option Addr) (most p : Nat) (D : Int) (S : Nat → Bool) (e : Env) (w : World) : Prop where
 f0 : e 0 = .pointer As
 f1 : e 1 = .int .i64 (most : Int)
 f4 : e 4 = .pointer A4
 f5 : e 5 = .pointer A5
 f6 : e 6 = .pointer A6
 f7 : e 7 = .int .i64 (p : Int)
 p0 : S 0 = true → e 52 = .int .i64 (p : Int)
 p2 : S 2 = true → e 54 = .pointer As
 p3 : S 3 = true → e 55 = .int .i64 (most : Int)
 p4 : S 4 = true → e 56 = .int .i64 (p : Int)
 p5 : S 5 = true → e 57 = .int .i64 (4 * (p : Int))
 p6 : S 6 = true → e 58 = .int .i64 D
 p7 : S 7 = true → ∃ r : Int, e 59 = .int .i64 r ∧ 0 ≤ r ∧ r ≤ 250
 p8 : S 8 = true → ∃ q : Nat, e 60 = .int .i64 (q : Int) ∧ 1 ≤ q ∧ q ≤ 251
 mem : ∃ (b1 b2 b3 : List Ck) (kk : Ck) (vs : List Value), srcK w0 As kk ∧ (S 1 = true → ∃ A c rs xss, e 53 = .agg #[.slice A 2 c] ∧ rs.length = 2 ∧ xss.length = 2 ∧ GM (2 * p) xss ∧ b1 = mat 32 2 A 2 c rs xss) ∧ (S 9 = true → ∃ A c rs xss q, e 61 = .agg #[.slice A 2 c] ∧ (1 ≤ q ∧ q ≤ 251) ∧ rs.length = 2 ∧ xss.length = 2 ∧ GM (2 * q) xss ∧ b2 = mat 32 2 A 2 c rs xss) ∧ (S 11 = false → vs = [.slice Ar 1 1]) ∧ (S 10 = true → ∃ A c rs xss N, e 62 = .agg #[.slice A 4 c] ∧ (1 ≤ N ∧ N ≤ 20000) ∧ rs.length = 4 ∧ xss.length = 4 ∧ GM N xss ∧ b3 = mat 32 2 A 4 c rs xss ∧ (S 11 = true → vs = [.slice A 4 c])) ∧
  St w0 w (anyM A4 A5 A6 Ar Ae vs (b3 ++ (b2 ++ b1)) (ks.set ix kk))
theorem any_put {w0 w' : World} {A4 A5 A6 Ar Ae : Option Addr} {vs : List Value} {n m m' X : List Ck} (hS : St w0 w' (n ++ anyM A4 A5 A6 Ar Ae vs m X)) (hm : (n ++ m).Perm m') : St w0 w' (anyM A4 A5 A6 Ar Ae vs m' X) :=
 hS.perm ((List.perm_middle (l₁ := n)).trans (List.Perm.cons _ ((List.perm_middle (l₁ := n)).trans (List.Perm.cons _ ((List.perm_middle (l₁ := n)).trans (List.Perm.cons _ (by rw [← List.append_assoc]; exact hm.append_right _)))))))
theorem any_less {w0 w' : World} {A4 A5 A6 Ar Ae : Option Addr} {vs : List Value} {m m' X : List Ck} (hS : St w0 w' (anyM A4 A5 A6 Ar Ae vs m X)) (hm : m'.Sublist m) : St w0 w' (anyM A4 A5 A6 Ar Ae vs m' X) :=
 hS.sub (List.Sublist.cons_cons _ (List.Sublist.cons_cons _ (List.Sublist.cons_cons _ (hm.append (List.Sublist.refl _)))))
theorem l02Any_c {w0 w : World} {ks : List Ck} (ix : Nat) {As : Option Addr} {k : Ck} (most : Nat) (hS : St w0 w ks) (hk : ks[ix]? = some k) (hK : srcK w0 As k) (hm : 8 ≤ most ∧ most ≤ 1000) :
  Ret Tryz.prog 199 [.pointer As, .int .i64 (most : Int)] w (AnsD w0 ks ix As) := by
 refine Ret.of_cd Tryz.func199 O Tryz.ntmps199 O (postc O O) (Gbo O (Ops.new1 hS O ?_))
 intro A4 w1 hS1
 refine Gdo O ?_
 refine Ops.bsL [1, 0] hS1 O O (by decide) (by decide) O O ?_
 intro Ae w2 hS2
 refine Ops.bs1R hS2 O O O ?_
 intro Ar w3 hS3
 refine Ops.bld1 (by exact inferInstance) O O O O (Ops.new1 hS3 O ?_)
 intro A5 w4 hS4
 refine Ops.st_agg 1 0 hS4 O O O O O O O ?_
 intro w5 hS5
 refine Gdo O (Ops.ld_agg 0 (hS5.rd 0 O) O O O (Ops.new1 hS5 O ?_))
 intro A6 w6 hS6
 refine Ops.st_agg 1 0 hS6 O O O O O O O ?_
 intro w7 hS7
 have hS7 : St w0 w7 (anyL A4 A5 A6 Ar Ae [.slice Ar 1 1] ks) := hS7.perm (List.Perm.cons _ (List.Perm.cons _ ((List.perm_append_comm (l₁ := [_, _]) (l₂ := [_])).append_right ks)))
 refine Gdj 0 O ?_
 refine Cd.join (α := AnS) (fun s => [(0, .pointer As), (1, .int .i64 (most : Int)), (4, .pointer A4), (5, .pointer A5), (6, .pointer A6)]) (fun s w' => (1 ≤ s.n ∧ s.n ≤ 5) ∧ (1 ≤ s.N ∧ s.N ≤ 20000) ∧ s.rs.length = s.n ∧ s.xss.length = s.n ∧ GM s.N s.xss ∧ srcK w0 As s.k ∧ St w0 w' (anyM A4 A5 A6 Ar Ae [.slice s.A s.n s.c] (mat 32 2 s.A s.n s.c s.rs s.xss) (ks.set ix s.k))) ?_ ?_
 ·refine Gbo O (Ops.call (srcNext_c (ix + 5) 7 hS7 (by exact hk) hK) O O O ?_)
  rintro _ w8 ⟨r, k1, rfl, hr, hK1, hS8⟩
  have hS8 : St w0 w8 (anyL A4 A5 A6 Ar Ae [.slice Ar 1 1] (ks.set ix k1)) := hS8
  have hk1 := setK_get (k' := k1) hk
  refine Gdc O ?_
  refine Cd.cond_p _ O (fun h1 => ?_) (fun h1 => ?_)
  ·refine Gao O (Ops.quo O O O (by omega) (Ops.call (srcNext_c (ix + 5) _ hS8 (by exact hk1) hK1) O O O ?_))
   rintro _ w9 ⟨q, k2, rfl, hq, hK2, hS9⟩
   have hS9 : St w0 w9 (anyL A4 A5 A6 Ar Ae [.slice Ar 1 1] ((ks.set ix k1).set ix k2)) := hS9
   rw [List.set_set] at hS9
   have hk2 := setK_get (k' := k2) hk
   refine Ops.add O O O (by omega) ?_
   obtain ⟨p, hp⟩ : ∃ p : Nat, 1 + q = p := ⟨(1 + q).toNat, by omega⟩
   rw [hp]
   refine Ops.call (l02Polygon_c p _ (by omega)) O O O ?_
   rintro _ w10 ⟨A, c, rs, xss, rfl, hrl, hxl, hG, hT⟩
   have hS10 := any_join hS9 hT
   refine Ops.st_agg 1 0 hS10 O O O O O O O ?_
   intro w11 hS11
   refine Gdn O (tQ ?_)
   exact ⟨⟨2, 2 * p, A, c, rs, xss, k2⟩, ⟨O, O, O, O, O, trivial⟩, (by show 1 ≤ 2 ∧ 2 ≤ 5; decide), ⟨by show 1 ≤ 2 * p; omega, by show 2 * p ≤ 20000; omega⟩, hrl, hxl, hG, hK2, hS11⟩
  ·refine Gac O ?_
   refine Cd.cond_p _ O (fun h2 => ?_) (fun h2 => ?_)
   ·refine Gao O (Ops.ld_agg 0 (hS8.rd 1 O) O O O (Ops.st_agg 1 2 hS8 O O O O O O O ?_))
    intro w9 hS9
    refine Gdr O (thenQ_r (Qk_ret ?_))
    refine retc_r O (hS9.rd 2 O) ?_
    exact ⟨1, 2, Ar, 1, [⟨Ae, 2, 2⟩], [[1, 0]], k1, O, by decide, by decide, O, O, GM.edge, hK1, hS9.tail.tail.tail⟩
   ·refine Gac O ?_
    refine Cd.cond_p _ O (fun h3 => ?_) (fun h3 => ?_)
    ·refine Gao O (Ops.quo O O O (by omega) (Ops.call (srcNext_c (ix + 5) _ hS8 (by exact hk1) hK1) O O O ?_))
     rintro _ w9 ⟨q, k2, rfl, hq, hK2, hS9⟩
     have hS9 : St w0 w9 (anyL A4 A5 A6 Ar Ae [.slice Ar 1 1] ((ks.set ix k1).set ix k2)) := hS9
     rw [List.set_set] at hS9
     refine Ops.add O O O (by omega) ?_
     obtain ⟨p, hp⟩ : ∃ p : Nat, 1 + q = p := ⟨(1 + q).toNat, by omega⟩
     rw [hp]
     refine Ops.call (l02Polygon_c p _ (by omega)) O O O ?_
     rintro _ w10 ⟨A, c, rs, xss, rfl, hrl, hxl, hG, hT⟩
     have hS10 := any_join hS9 hT
     refine Ops.st_agg 1 0 hS10 O O O O O O O ?_
     intro w11 hS11
     have hS11 : St w0 w11 (anyM A4 A5 A6 Ar Ae [.slice A 2 c] (mat 32 2 A 2 c rs xss) (ks.set ix k2)) := hS11
     refine Gdo O (Ops.ld_agg 0 (hS11.rd 0 O) O O O (Ops.ld_agg 0 (hS11.rd 1 O) O O O ?_))
     refine Ops.call (l02Beside_c A 2 c rs xss (2 * p) Ar 1 1 [⟨Ae, 2, 2⟩] [[1, 0]] 2 w11 (St.rowsI hS11.tail.tail.tail (by omega)) (St.rowsI (any_drop hS11).tail.tail.tail O) (by decide) (by decide) hG GM.edge (by omega) (by omega) (by omega)) O O O ?_
     rintro _ w12 ⟨A', c', rs', xss', rfl, hrl', hxl', hG', hT'⟩
     have hS12 := any_join (any_drop hS11) hT'
     refine Ops.st_agg 1 0 hS12 O O O O O O O ?_
     intro w13 hS13
     refine Gdn O (tQ ?_)
     exact ⟨⟨3, 2 * p * 2, A', c', rs', xss', k2⟩, ⟨O, O, O, O, O, trivial⟩, (by show 1 ≤ 3 ∧ 3 ≤ 5; decide), ⟨by show 1 ≤ 2 * p * 2; omega, by show 2 * p * 2 ≤ 20000; omega⟩, hrl', hxl', hG', hK2, hS13⟩
    ·refine Gac O ?_
     refine Cd.cond_p _ O (fun h4 => ?_) (fun h4 => ?_)
     ·refine Gao O (Ops.call (srcNext_c (ix + 5) 4 hS8 (by exact hk1) hK1) O O O ?_)
      rintro _ w9 ⟨q, k2, rfl, hq, hK2, hS9⟩
      have hS9 : St w0 w9 (anyL A4 A5 A6 Ar Ae [.slice Ar 1 1] ((ks.set ix k1).set ix k2)) := hS9
      rw [List.set_set] at hS9
      refine Ops.add O O O (by omega) (Gdj 0 O ?_)
      refine Cd.join (α := Nat) (fun p => [(0, .pointer As), (1, .int .i64 (most : Int)), (4, .pointer A4), (5, .pointer A5), (6, .pointer A6), (7, .int .i64 (p : Int))]) (fun p w' => w' = w9 ∧ 1 ≤ p ∧ p ≤ 4) ?_ ?_
      ·refine Gbo O (Ops.mul O O O (by omega) (Gdc O ?_))
       refine Cd.cond_p _ O (fun h5 => ?_) (fun h5 => ?_)
       ·refine Gan O (tQ ?_)
        exact ⟨2, ⟨O, O, O, O, O, O, trivial⟩, O, by decide⟩
       ·refine Gan O (tQ ?_)
        exact ⟨(1 + q).toNat, ⟨O, O, O, O, O, congrArg (Value.int .i64) (by omega), trivial⟩, O, by omega⟩
      rintro p e w10 ⟨rfl, hp⟩
      obtain ⟨D, hD⟩ : ∃ D : Int, (most : Int) / (4 * (p : Int)) = D := ⟨_, rfl⟩
      have hDb : 0 ≤ D ∧ D ≤ 250 := by
       rcases (by omega : p = 1 ∨ p = 2 ∨ p = 3 ∨ p = 4) with rfl | rfl | rfl | rfl <;> omega
      refine Cd.drawS (by kernel_rfl) (by kernel_rfl) (fun S e1 w1 => An4 w0 ks ix As A4 A5 A6 Ar Ae most p D S e1 w1) (fun w4 hb => ⟨O, O, O, O, O, O, fun h => (nomatch h), fun h => (nomatch h), fun h => (nomatch h), fun h => (nomatch h), fun h => (nomatch h), fun h => (nomatch h), fun h => (nomatch h), fun h => (nomatch h), [], [], [], k2, [.slice Ar 1 1], hK2, fun h => (nomatch h), fun h => (nomatch h), fun _ => O, fun h => (nomatch h), hS9.later hb⟩) ?_ ?_
      ·intro S i o e1 w4 hq hSk hd hcl hI
       obtain ⟨f0, f1, f4, f5, f6, f7, p0, p2, p3, p4, p5, p6, p7, p8, B1, B2, B3, kk, vs, hkk, m1, m9, m11, m10, hT⟩ := hI
       match i, hq, hSk with
       | 0, hq, hSk =>
        obtain rfl := Option.some.inj hq
        refine Ops.mi O (by exact f7) O (Ops.n ?_)
        exact ⟨f0, f1, f4, f5, f6, f7, fun _ => O, p2, p3, p4, p5, p6, p7, p8, B1, B2, B3, kk, vs, hkk, m1, m9, m11, m10, hT⟩
       | 1, hq, hSk =>
        obtain rfl := Option.some.inj hq
        refine Ops.call (l02Polygon_c p w4 (by omega)) O (by exact congrArg (fun v => [v]) (p0 (deps_of hd 0 O))) O ?_
        rintro _ w5 ⟨A, c, rs, xss, rfl, hrl, hxl, hG, hT'⟩
        have hT5 := any_put (m' := B3 ++ (B2 ++ mat 32 2 A 2 c rs xss)) ((any_less hT (m' := B3 ++ (B2 ++ [])) ((List.Sublist.refl _).append ((List.Sublist.refl _).append (List.nil_sublist _)))).call hT') (by rw [List.append_nil, ← List.append_assoc B3 B2]; exact List.perm_append_comm)
        refine Ops.n ?_
        exact ⟨f0, f1, f4, f5, f6, f7, p0, p2, p3, p4, p5, p6, p7, p8, mat 32 2 A 2 c rs xss, B2, B3, kk, vs, hkk, fun _ => ⟨A, c, rs, xss, O, hrl, hxl, hG, O⟩, m9, m11, m10, hT5⟩
       | 2, hq, hSk =>
        obtain rfl := Option.some.inj hq
        refine Ops.mv_ptr O (by exact f0) O (Ops.n ?_)
        exact ⟨f0, f1, f4, f5, f6, f7, p0, fun _ => O, p3, p4, p5, p6, p7, p8, B1, B2, B3, kk, vs, hkk, m1, m9, m11, m10, hT⟩
       | 3, hq, hSk =>
        obtain rfl := Option.some.inj hq
        refine Ops.mi O (by exact f1) O (Ops.n ?_)
        exact ⟨f0, f1, f4, f5, f6, f7, p0, p2, fun _ => O, p4, p5, p6, p7, p8, B1, B2, B3, kk, vs, hkk, m1, m9, m11, m10, hT⟩
       | 4, hq, hSk =>
        obtain rfl := Option.some.inj hq
        refine Ops.mi O (by exact f7) O (Ops.n ?_)
        exact ⟨f0, f1, f4, f5, f6, f7, p0, p2, p3, fun _ => O, p5, p6, p7, p8, B1, B2, B3, kk, vs, hkk, m1, m9, m11, m10, hT⟩
       | 5, hq, hSk =>
        obtain rfl := Option.some.inj hq
        refine Ops.mul O (by exact p4 (deps_of hd 4 O)) O (by omega) (Ops.n ?_)
        exact ⟨f0, f1, f4, f5, f6, f7, p0, p2, p3, p4, fun _ => O, p6, p7, p8, B1, B2, B3, kk, vs, hkk, m1, m9, m11, m10, hT⟩
       | 6, hq, hSk =>
        obtain rfl := Option.some.inj hq
        refine Ops.quo (by exact p3 (deps_of hd 3 O)) (by exact p5 (deps_of hd 5 O)) O (by omega) (Ops.n ?_)
        exact ⟨f0, f1, f4, f5, f6, f7, p0, p2, p3, p4, p5, fun _ => congrArg (Value.int .i64) hD, p7, p8, B1, B2, B3, kk, vs, hkk, m1, m9, m11, m10, hT⟩
       | 7, hq, hSk =>
        obtain rfl := Option.some.inj hq
        have hkg := setK_get (k' := kk) hk
        refine Ops.call (srcNextA_c ix D hT hkg hkk) O (by exact two_eq (p2 (deps_of hd 2 O)) (p6 (deps_of hd 6 O))) O ?_
        rintro _ w5 ⟨r7, k7, rfl, hr7, hK7, hT7⟩
        rw [List.set_set] at hT7
        refine Ops.n ?_
        exact ⟨f0, f1, f4, f5, f6, f7, p0, p2, p3, p4, p5, p6, fun _ => ⟨r7, O, hr7.1, by omega⟩, p8, B1, B2, B3, k7, vs, hK7, m1, m9, m11, m10, hT7⟩
       | 8, hq, hSk =>
        obtain rfl := Option.some.inj hq
        obtain ⟨r7, h7, hr7⟩ := p7 (deps_of hd 7 rfl)
        refine Ops.add O (by exact h7) O (by omega) (Ops.n ?_)
        exact ⟨f0, f1, f4, f5, f6, f7, p0, p2, p3, p4, p5, p6, p7, fun _ => ⟨(1 + r7).toNat, congrArg (Value.int .i64) (by omega), by omega, by omega⟩, B1, B2, B3, kk, vs, hkk, m1, m9, m11, m10, hT⟩
       | 9, hq, hSk =>
        obtain rfl := Option.some.inj hq
        obtain ⟨q8, h8, hq8⟩ := p8 (deps_of hd 8 rfl)
        refine Ops.call (l02Polygon_c q8 w4 (by omega)) O (by exact congrArg (fun v => [v]) h8) O ?_
        rintro _ w5 ⟨A, c, rs, xss, rfl, hrl, hxl, hG, hT'⟩
        have hT5 := any_put (m' := B3 ++ (mat 32 2 A 2 c rs xss ++ B1)) ((any_less hT (m' := B3 ++ ([] ++ B1)) ((List.Sublist.refl _).append ((List.nil_sublist _).append (List.Sublist.refl _)))).call hT') (by rw [List.nil_append, ← List.append_assoc, ← List.append_assoc]; exact List.perm_append_comm.append_right _)
        refine Ops.n ?_
        exact ⟨f0, f1, f4, f5, f6, f7, p0, p2, p3, p4, p5, p6, p7, p8, B1, mat 32 2 A 2 c rs xss, B3, kk, vs, hkk, m1, fun _ => ⟨A, c, rs, xss, q8, O, hq8, hrl, hxl, hG, O⟩, m11, m10, hT5⟩
       | 10, hq, hSk =>
        obtain rfl := Option.some.inj hq
        obtain ⟨A1, c1, rs1, xss1, h53, hrl1, hxl1, hG1, rfl⟩ := m1 (deps_of hd 1 rfl)
        obtain ⟨A2, c2, rs2, xss2, q8, h61, hq8, hrl2, hxl2, hG2, rfl⟩ := m9 (deps_of hd 9 rfl)
        have n11 : S 11 = false := by
         cases h : S 11 with
         | false => rfl
         | true => rw [← hSk]; exact (deps_of (hcl 11 _ h rfl) 10 rfl).symm
        have hX1 : RowsI w4 A1 2 rs1 xss1 := St.rowsI ((any_less hT (m' := [] ++ ([] ++ mat 32 2 A1 2 c1 rs1 xss1)) ((List.nil_sublist _).append ((List.nil_sublist _).append (List.Sublist.refl _)))).tail.tail.tail) (by omega)
        have hX2 : RowsI w4 A2 2 rs2 xss2 := St.rowsI ((any_less hT (m' := mat 32 2 A2 2 c2 rs2 xss2) ((List.sublist_append_left _ _).trans (List.sublist_append_right _ _))).tail.tail.tail) (by omega)
        have hN : 2 * p * (2 * q8) ≤ 8 * 502 := Nat.mul_le_mul (by omega) (by omega)
        have hN1 : 1 ≤ 2 * p * (2 * q8) := Nat.mul_pos (by omega) (by omega)
        refine Ops.call (l02Beside_c A1 2 c1 rs1 xss1 (2 * p) A2 2 c2 rs2 xss2 (2 * q8) w4 hX1 hX2 (by decide) (by decide) hG1 hG2 (by omega) (by omega) (by omega)) O (by exact two_eq h53 h61) O ?_
        rintro _ w5 ⟨A, c, rs, xss, rfl, hrl, hxl, hG, hT'⟩
        have hT5 := any_put (m' := mat 32 2 A (2 + 2) c rs xss ++ (mat 32 2 A2 2 c2 rs2 xss2 ++ mat 32 2 A1 2 c1 rs1 xss1)) ((any_less hT (List.sublist_append_right _ _)).call hT') (List.Perm.refl _)
        refine Ops.n ?_
        exact ⟨f0, f1, f4, f5, f6, f7, p0, p2, p3, p4, p5, p6, p7, p8, mat 32 2 A1 2 c1 rs1 xss1, mat 32 2 A2 2 c2 rs2 xss2, mat 32 2 A (2 + 2) c rs xss, kk, vs, hkk, fun _ => ⟨A1, c1, rs1, xss1, h53, hrl1, hxl1, hG1, O⟩, fun _ => ⟨A2, c2, rs2, xss2, q8, h61, hq8, hrl2, hxl2, hG2, O⟩, m11, fun _ => ⟨A, c, rs, xss, 2 * p * (2 * q8), O, ⟨hN1, by omega⟩, hrl, hxl, hG, O, fun h => (nomatch n11.symm.trans h)⟩, hT5⟩
       | 11, hq, hSk =>
        obtain rfl := Option.some.inj hq
        obtain ⟨A, c, rs, xss, N, h62, hN, hrl, hxl, hG, rfl, _⟩ := m10 (deps_of hd 10 rfl)
        obtain rfl := m11 hSk
        refine Ops.st_agg 1 0 hT O (by exact f6) (by exact h62) O O O O ?_
        intro w5 hT5
        refine Ops.n ?_
        exact ⟨f0, f1, f4, f5, f6, f7, p0, p2, p3, p4, p5, p6, p7, p8, B1, B2, _, kk, [.slice A 4 c], hkk, m1, m9, fun h => (nomatch (show true = false from h)), fun _ => ⟨A, c, rs, xss, N, h62, hN, hrl, hxl, hG, O, fun _ => O⟩, hT5⟩
       | i + 12, hq, _ => exact (nomatch hq)
      ·intro S e1 w4 hall hI
       obtain ⟨f0, f1, f4, f5, f6, f7, p0, p2, p3, p4, p5, p6, p7, p8, B1, B2, B3, kk, vs, hkk, m1, m9, m11, m10, hT⟩ := hI
       obtain ⟨A, c, rs, xss, N, h62, hN, hrl, hxl, hG, rfl, hvs⟩ := m10 (hall 10 (by decide))
       obtain rfl := hvs (hall 11 (by decide))
       refine postQ_ext (F := [(0, .pointer As), (1, .int .i64 (most : Int)), (4, .pointer A4), (5, .pointer A5), (6, .pointer A6)]) ⟨f0, f1, f4, f5, f6, trivial⟩ ?_
       refine Gen O (tQ ?_)
       exact ⟨⟨4, N, A, c, rs, xss, kk⟩, ⟨O, O, O, O, O, trivial⟩, (by show 1 ≤ 4 ∧ 4 ≤ 5; decide), hN, hrl, hxl, hG, hkk, any_less hT (List.sublist_append_left _ _)⟩
     ·refine Gao O (Ops.quo O O O (by omega) (Ops.call (srcNext_c (ix + 5) _ hS8 (by exact hk1) hK1) O O O ?_))
      rintro _ w9 ⟨q, k2, rfl, hq, hK2, hS9⟩
      have hS9 : St w0 w9 (anyL A4 A5 A6 Ar Ae [.slice Ar 1 1] ((ks.set ix k1).set ix k2)) := hS9
      rw [List.set_set] at hS9
      have hk2 := setK_get (k' := k2) hk
      refine Ops.add O O O (by omega) ?_
      obtain ⟨p, hp⟩ : ∃ p : Nat, 1 + q = p := ⟨(1 + q).toNat, by omega⟩
      rw [hp]
      refine Ops.call (l02Map_c (ix + 5) p hS9 (by exact hk2) hK2 (by omega)) O O O ?_
      rintro _ w10 ⟨A, c, rs, xss, N, k3, rfl, hrl, hxl, hG, hN, hK3, hT⟩
      have hT : St w0 w10 (mat 32 2 A 3 c rs xss ++ anyL A4 A5 A6 Ar Ae [.slice Ar 1 1] ((ks.set ix k2).set ix k3)) := hT
      rw [List.set_set] at hT
      have hS10 := any_perm hT
      refine Ops.st_agg 1 0 hS10 O O O O O O O ?_
      intro w11 hS11
      refine Gdn O (tQ ?_)
      exact ⟨⟨3, N, A, c, rs, xss, k3⟩, ⟨O, O, O, O, O, trivial⟩, (by show 1 ≤ 3 ∧ 3 ≤ 5; decide), ⟨hN.1, by show N ≤ 20000; omega⟩, hrl, hxl, hG, hK3, hS11⟩
 ·intro s e w9 hI
  refine Gac O ?_
  refine Cd.loop (α := AnS) (fun s => [(0, .pointer As), (1, .int .i64 (most : Int)), (4, .pointer A4), (5, .pointer A5), (6, .pointer A6)]) (fun s w' => (1 ≤ s.n ∧ s.n ≤ 5) ∧ (1 ≤ s.N ∧ s.N ≤ 20000) ∧ s.rs.length = s.n ∧ s.xss.length = s.n ∧ GM s.N s.xss ∧ srcK w0 As s.k ∧ St w0 w' (anyM A4 A5 A6 Ar Ae [.slice s.A s.n s.c] (mat 32 2 s.A s.n s.c s.rs s.xss) (ks.set ix s.k))) (fun s => 5 - s.n) s ⟨O, O, O, O, O, trivial⟩ hI ?_
  clear hI s
  rintro ⟨n, N, A, c, rs, xss, k2⟩ e w10 ⟨hn, hN, hrl, hxl, hG, hK2, hS10⟩
  dsimp only at hn hN hrl hxl hG hK2 hS10 ⊢
  have hk2 := setK_get (k' := k2) hk
  refine Gbo O (Ops.fld (hS10.rd 0 O) O O O O inferInstance (Ops.ldf_s (hS10.rd 0 O) O O O O O ?_))
  refine Ops.len O O (Gdo O ?_)
  have hEnd : ∀ (k5 : Ck) (w11 : World), srcK w0 As k5 → St w0 w11 (mat 32 2 A n c rs xss ++ (mat 32 2 Ar 1 1 [⟨Ae, 2, 2⟩] [[1, 0]] ++ ks.set ix k5)) → AnsD w0 ks ix As (.agg #[.slice A n c]) w11 := fun k5 w11 hK5 h => ⟨n, N, A, c, rs, xss, k5, O, hn, hN, hrl, hxl, hG, hK5, h.sub ((List.Sublist.refl _).append (List.sublist_append_right _ _))⟩
  refine Ops.split_p 67 O (fun h1 => ?_) (fun h1 => ?_)
  ·refine Ops.g O O O (Ops.ld_agg 0 (hS10.rd 0 O) O O O (Ops.g O O O (Ops.call (l02Flags_c A n c rs xss w10 (St.rowsI hS10.tail.tail.tail (by omega)) (by omega)) O O O ?_)))
   rintro _ w11 ⟨rfl, hT⟩
   have hS11 := hS10.later hT.below
   rw [hG.first (by omega)]
   refine Ops.g O O O (Ops.mul O O O (by omega) (Ops.g O O O (Gdo O (Ops.g O O O (Gdo O ?_)))))
   refine Ops.split_p 74 O (fun h2 => ?_) (fun h2 => ?_)
   ·refine Ops.g O O O (Gdo O (Ops.g O O O ?_))
    refine Ops.call (srcNextA_c ix 3 hS11 hk2 hK2) O O O ?_
    rintro _ w12 ⟨r, k3, rfl, hr, hK3, hS12⟩
    rw [List.set_set] at hS12
    have hk3 := setK_get (k' := k3) hk
    refine Ops.g O O O (Gdc O ?_)
    refine Cd.cond_p _ O (fun h3 => ?_) (fun h3 => ?_)
    ·refine Gao O (Ops.call (srcNextA_c ix 2 hS12 hk3 hK3) O O O ?_)
     rintro _ w13 ⟨r', k4, rfl, hr', hK4, hS13⟩
     rw [List.set_set] at hS13
     refine Gdc O ?_
     refine Cd.cond_p _ O (fun h4 => ?_) (fun h4 => ?_)
     ·skip
      refine Gao O (Ops.ld_agg 0 (hS13.rd 0 O) O O O (Ops.ld_agg 0 (hS13.rd 1 O) O O O ?_))
      refine Ops.call (l02Beside_c A n c rs xss N Ar 1 1 [⟨Ae, 2, 2⟩] [[1, 0]] 2 w13 (St.rowsI hS13.tail.tail.tail (by omega)) (St.rowsI (any_drop hS13).tail.tail.tail O) (by omega) (by decide) hG GM.edge (by omega) (by omega) (by omega)) O O O ?_
      rintro _ w14 ⟨A', c', rs', xss', rfl, hrl', hxl', hG', hT'⟩
      have hS14 := any_join (any_drop hS13) hT'
      refine Ops.st_agg 1 0 hS14 O O O O O O O ?_
      intro w15 hS15
      refine Gdn O (tQ ?_)
      exact ⟨⟨n + 1, N * 2, A', c', rs', xss', k4⟩, by show 5 - (n + 1) < 5 - n; omega, ⟨O, O, O, O, O, trivial⟩, ⟨by show 1 ≤ n + 1; omega, by show n + 1 ≤ 5; omega⟩, ⟨by show 1 ≤ N * 2; omega, by show N * 2 ≤ 20000; omega⟩, hrl', hxl', hG', hK4, hS15⟩
     ·skip
      refine Gao O (Ops.ld_agg 0 (hS13.rd 1 O) O O O (Ops.ld_agg 0 (hS13.rd 0 O) O O O ?_))
      refine Ops.call (l02Beside_c Ar 1 1 [⟨Ae, 2, 2⟩] [[1, 0]] 2 A n c rs xss N w13 (St.rowsI (any_drop hS13).tail.tail.tail O) (St.rowsI hS13.tail.tail.tail (by omega)) (by decide) (by omega) GM.edge hG (by omega) (by omega) (by omega)) O O O ?_
      rintro _ w14 ⟨A', c', rs', xss', rfl, hrl', hxl', hG', hT'⟩
      have hS14 := any_join (any_drop hS13) hT'
      refine Ops.st_agg 1 0 hS14 O O O O O O O ?_
      intro w15 hS15
      refine Gdn O (tQ ?_)
      exact ⟨⟨1 + n, 2 * N, A', c', rs', xss', k4⟩, by show 5 - (1 + n) < 5 - n; omega, ⟨O, O, O, O, O, trivial⟩, ⟨by show 1 ≤ 1 + n; omega, by show 1 + n ≤ 5; omega⟩, ⟨by show 1 ≤ 2 * N; omega, by show 2 * N ≤ 20000; omega⟩, hrl', hxl', hG', hK4, hS15⟩
    ·refine Gax O (thenQ_x (Gfo O ?_))
     refine Ops.ld_agg 0 (hS12.rd 0 O) O O O (Ops.st_agg 1 2 hS12 O O O O O O O ?_)
     intro w20 hS20
     refine Gdr O (retc_r O (hS20.rd 2 O) ?_)
     exact hEnd k3 w20 ‹_› hS20.tail.tail.tail
   ·refine Ops.k O O O O O (Ops.k O O O O O (Ops.k O O O O O (Gdc O ?_)))
    refine Cd.cond_f O ?_
    refine Gax O (thenQ_x (Gfo O ?_))
    refine Ops.ld_agg 0 (hS11.rd 0 O) O O O (Ops.st_agg 1 2 hS11 O O O O O O O ?_)
    intro w20 hS20
    refine Gdr O (retc_r O (hS20.rd 2 O) ?_)
    exact hEnd k2 w20 ‹_› hS20.tail.tail.tail
  ·refine Ops.k O O O O O (Ops.k O O O O O (Ops.k O O O O O (Ops.k O O O O O (Ops.k O O O O O (Gdo O (Ops.k O O O O O (Ops.k O O O O O (Ops.k O O O O O (Gdc O ?_)))))))))
   refine Cd.cond_f O ?_
   refine Gax O (thenQ_x (Gfo O ?_))
   refine Ops.ld_agg 0 (hS10.rd 0 O) O O O (Ops.st_agg 1 2 hS10 O O O O O O O ?_)
   intro w20 hS20
   refine Gdr O (retc_r O (hS20.rd 2 O) ?_)
   exact hEnd k2 w20 ‹_› hS20.tail.tail.tail
/-
 The draws of maniplexes, walked: a maniplex drawn and perhaps renumbered.
-/
theorem scat_rg {N : Nat} {f g : Nat → Int} (hg : ∀ i, i < N → 0 ≤ g i ∧ g i < (N : Int)) : ∀ {m : Nat} {xs : List Int}, m ≤ N → Rg N xs → Rg N (scat xs f g m)
 | 0, _, _, h => h
 | m + 1, xs, hm, h => by
  have h1 := scat_rg (f := f) hg (m := m) (by omega) h
  have h2 := hg m (by omega)
  refine ⟨by simp [scat, h1.1], fun x hx => ?_⟩
  simp only [scat] at hx
  rcases List.mem_or_eq_of_mem_set hx with hx | rfl
  ·exact h1.2 x hx
  ·exact h2
theorem GM.ren {N : Nat} {p : List Int} {xss : List (List Int)} (h : GM N xss) (hp : Rg N p) : GM N (xss.map (renI N p)) := fun q hq => by
 obtain ⟨mv, hmv, rfl⟩ := List.mem_map.1 hq
 have h1 := h mv hmv
 refine scat_rg (fun i hi => ?_) (Nat.le_refl _) ⟨by simp, fun x hx => by obtain ⟨h0, rfl⟩ := List.mem_replicate.1 hx; omega⟩
 have h2 := h1.gi (i := (i : Int)) (by omega) (by omega)
 exact hp.gi h2.1 h2.2
structure Dw4 (w0 : World) (ks : List Ck) (ix : Nat) (As A4 A5 : Option Addr) (n N : Nat) (A : Option Addr) (c : Nat) (rs : List SlV) (xss : List (List Int)) (S : Nat → Bool) (e : Env) (w : World) : Prop where
 f0 : e 0 = .pointer As
 f4 : e 4 = .pointer A4
 f5 : e 5 = .pointer A5
 p0 : S 0 = true → e 12 = .agg #[.slice A n c]
 p1 : S 1 = true → e 13 = .pointer As
 p2 : S 2 = true → e 14 = .agg #[.slice A n c]
 p3 : S 3 = true → e 15 = .int .i64 (N : Int)
 mem : ∃ (b1 b2 : List Ck) (kk : Ck) (vs : List Value), srcK w0 As kk ∧ (S 4 = true → ∃ Ap cp ps, e 16 = .slice Ap N cp ∧ Rg N ps ∧ b1 = [CkI 2 Ap N cp ps]) ∧ (S 6 = false → vs = [.slice none 0 0]) ∧ (S 5 = true → ∃ A' c' rs' xss', e 17 = .agg #[.slice A' n c'] ∧ rs'.length = n ∧ xss'.length = n ∧ GM N xss' ∧ b2 = mat 32 2 A' n c' rs' xss' ∧ (S 6 = true → vs = [.slice A' n c'])) ∧
  St w0 w (Bx 24 1 A5 [.slice A n c] :: Bx 24 1 A4 vs :: (mat 32 2 A n c rs xss ++ (b2 ++ (b1 ++ ks.set ix kk))))
theorem l01DrawX_c {w0 w : World} {ks : List Ck} (X : List Ck) (ix : Nat) {As : Option Addr} {k : Ck} (n : Nat) (hS : St w0 w (X ++ ks)) (hk : ks[ix]? = some k) (hK : srcK w0 As k) (hn : n ≤ 1000000) :
  Ret Tryz.prog 183 [.pointer As, .int .i64 (n : Int)] w (fun v w' => ∃ A c xs k', v = .slice A n c ∧ Rg n xs ∧ srcK w0 As k' ∧ St w0 w' (CkI 2 A n c xs :: (X ++ ks.set ix k'))) := by
 have e : (X ++ ks)[X.length + ix]? = some k := by
  rw [List.getElem?_append_right (by omega), Nat.add_sub_cancel_left]; exact hk
 refine (l01Draw_c (X.length + ix) n hS e hK hn).mono ?_
 rintro v w' ⟨A, c, xs, k', h1, h2, h3, h4⟩
 rw [show (X ++ ks).set (X.length + ix) k' = X ++ ks.set ix k' from by rw [List.set_append, if_neg (by omega), Nat.add_sub_cancel_left]] at h4
 exact ⟨A, c, xs, k', h1, h2, h3, h4⟩
theorem l02Draw_c {w0 w : World} {ks : List Ck} (ix : Nat) {As : Option Addr} {k : Ck} (most : Nat) (hS : St w0 w ks) (hk : ks[ix]? = some k) (hK : srcK w0 As k) (hm : 8 ≤ most ∧ most ≤ 1000) :
  Ret Tryz.prog 134 [.pointer As, .int .i64 (most : Int)] w (AnsD w0 ks ix As) := by
 refine Ret.of_cd Tryz.func134 O Tryz.ntmps134 O (postc O O) (Gbo O (Ops.new1 hS O ?_))
 intro A4 w1 hS1
 refine Gdo O (Ops.call (l02Any_c (ix + 1) most hS1 (by exact hk) hK hm) O O O ?_)
 rintro _ w2 ⟨n, N, A, c, rs, xss, k1, rfl, hn, hN, hrl, hxl, hG, hK1, hS2⟩
 refine Ops.new1 hS2 O ?_
 intro A5 w3 hS3
 refine Ops.st_agg 1 0 hS3 O O O O O O O ?_
 intro w4 hS4
 have hS4 : St w0 w4 (Bx 24 1 A5 [.slice A n c] :: (mat 32 2 A n c rs xss ++ (Bx 24 1 A4 [.slice none 0 0] :: ks.set ix k1))) := hS4
 have hS4 : St w0 w4 (Bx 24 1 A5 [.slice A n c] :: Bx 24 1 A4 [.slice none 0 0] :: (mat 32 2 A n c rs xss ++ ks.set ix k1)) := hS4.perm (List.Perm.cons _ List.perm_middle)
 have hk1 := setK_get (k' := k1) hk
 refine Gdo O ?_
 have hN4 : ∀ (X : List Ck) (kk : Ck) (w5 : World) (vs : List Value) (q : Int), srcK w0 As kk → St w0 w5 (Bx 24 1 A5 [.slice A n c] :: Bx 24 1 A4 vs :: (mat 32 2 A n c rs xss ++ (X ++ ks.set ix kk))) → Ret Tryz.prog 135 [.pointer As, .int .i64 q] w5 (fun v w' => ∃ (r : Int) (k' : Ck), v = .int .i64 r ∧ (0 ≤ r ∧ (1 ≤ q → r < q) ∧ (q < 1 → r = 0)) ∧ srcK w0 As k' ∧ St w0 w' (Bx 24 1 A5 [.slice A n c] :: Bx 24 1 A4 vs :: (mat 32 2 A n c rs xss ++ (X ++ ks.set ix k')))) := by
  intro X kk w5 vs q hkk hT
  have hkg := setK_get (k' := kk) hk
  have e : ∀ Y, Bx 24 1 A5 [.slice A n c] :: Bx 24 1 A4 vs :: (mat 32 2 A n c rs xss ++ (X ++ Y)) = (Bx 24 1 A5 [.slice A n c] :: Bx 24 1 A4 vs :: (mat 32 2 A n c rs xss ++ X)) ++ Y := fun Y => by simp
  rw [e] at hT
  refine (srcNextX_c _ ix q hT hkg hkk).mono ?_
  rintro v w' ⟨r, k', h1, h2, h3, h4⟩
  rw [← e, List.set_set] at h4
  exact ⟨r, k', h1, h2, h3, h4⟩
 refine Ops.call (hN4 [] k1 w4 _ 4 hK1 hS4) O O O ?_
 rintro _ w5 ⟨r, k2, rfl, hr, hK2, hS5⟩
 have hS5 : St w0 w5 (Bx 24 1 A5 [.slice A n c] :: Bx 24 1 A4 [.slice none 0 0] :: (mat 32 2 A n c rs xss ++ ks.set ix k2)) := hS5
 have hk2 := setK_get (k' := k2) hk
 refine Gdc O ?_
 refine Cd.cond_p _ O (fun h1 => ?_) (fun h1 => ?_)
 ·refine Gac O ?_
  refine Cd.drawS (by kernel_rfl) (by kernel_rfl) (fun S e1 w1 => Dw4 w0 ks ix As A4 A5 n N A c rs xss S e1 w1) (fun w6 hb => ⟨O, O, O, fun h => (nomatch h), fun h => (nomatch h), fun h => (nomatch h), fun h => (nomatch h), [], [], k2, [.slice none 0 0], hK2, fun h => (nomatch h), fun _ => O, fun h => (nomatch h), hS5.later hb⟩) ?_ ?_
  ·intro S i o e1 w6 hq hSk hd hcl hI
   obtain ⟨f0, f4, f5, p0, p1, p2, p3, B1, B2, kk, vs, hkk, m4, m6, m5, hT⟩ := hI
   have hX : RowsI w6 A n rs xss := St.rowsI hT.tail.tail (by omega)
   match i, hq, hSk with
   | 0, hq, hSk =>
    obtain rfl := Option.some.inj hq
    refine Ops.ld_agg 0 (hT.rd 0 O) (by exact f5) O O (Ops.n ?_)
    exact ⟨f0, f4, f5, fun _ => O, p1, p2, p3, B1, B2, kk, vs, hkk, m4, m6, m5, hT⟩
   | 1, hq, hSk =>
    obtain rfl := Option.some.inj hq
    refine Ops.mv_ptr O (by exact f0) O (Ops.n ?_)
    exact ⟨f0, f4, f5, p0, fun _ => O, p2, p3, B1, B2, kk, vs, hkk, m4, m6, m5, hT⟩
   | 2, hq, hSk =>
    obtain rfl := Option.some.inj hq
    refine Ops.ld_agg 0 (hT.rd 0 O) (by exact f5) O O (Ops.n ?_)
    exact ⟨f0, f4, f5, p0, p1, fun _ => O, p3, B1, B2, kk, vs, hkk, m4, m6, m5, hT⟩
   | 3, hq, hSk =>
    obtain rfl := Option.some.inj hq
    refine Ops.call (l02Flags_c A n c rs xss w6 hX (by omega)) O (by exact congrArg (fun v => [v]) (p2 (deps_of hd 2 O))) O ?_
    rintro _ w7 ⟨rfl, hT'⟩
    have hT7 := hT.later hT'.below
    rw [hG.first (by omega)]
    refine Ops.n ?_
    exact ⟨f0, f4, f5, p0, p1, p2, fun _ => O, B1, B2, kk, vs, hkk, m4, m6, m5, hT7⟩
   | 4, hq, hSk =>
    obtain rfl := Option.some.inj hq
    have hkg := setK_get (k' := kk) hk
    have e : (Bx 24 1 A5 [.slice A n c] :: Bx 24 1 A4 vs :: (mat 32 2 A n c rs xss ++ (B2 ++ (B1 ++ ks.set ix kk)))) = (Bx 24 1 A5 [.slice A n c] :: Bx 24 1 A4 vs :: (mat 32 2 A n c rs xss ++ (B2 ++ B1))) ++ ks.set ix kk := by simp
    have hX0 := hT
    rw [e] at hX0
    refine Ops.call (l01DrawX_c _ ix N hX0 hkg hkk (by omega)) O (by exact two_eq (p1 (deps_of hd 1 O)) (p3 (deps_of hd 3 O))) O ?_
    rintro _ w7 ⟨Ap, cp, ps, k7, rfl, hps, hK7, hT7⟩
    rw [List.set_set] at hT7
    have hT8 : St w0 w7 (Bx 24 1 A5 [.slice A n c] :: Bx 24 1 A4 vs :: (mat 32 2 A n c rs xss ++ (B2 ++ ([CkI 2 Ap N cp ps] ++ ks.set ix k7)))) := by
     refine (hT7.sub (ks' := CkI 2 Ap N cp ps :: Bx 24 1 A5 [.slice A n c] :: Bx 24 1 A4 vs :: ((mat 32 2 A n c rs xss ++ B2) ++ ks.set ix k7)) ?_).perm ?_
     ·rw [← List.append_assoc (mat 32 2 A n c rs xss)]
      exact List.Sublist.cons_cons _ (List.Sublist.cons_cons _ (List.Sublist.cons_cons _ ((List.sublist_append_left _ _).append (List.Sublist.refl _))))
     ·rw [← List.append_assoc (mat 32 2 A n c rs xss)]
      exact (List.Perm.swap _ _ _).trans (List.Perm.cons _ ((List.Perm.swap _ _ _).trans (List.Perm.cons _ List.perm_middle.symm)))
    refine Ops.n ?_
    exact ⟨f0, f4, f5, p0, p1, p2, p3, [CkI 2 Ap N cp ps], B2, k7, vs, hK7, fun _ => ⟨Ap, cp, ps, O, hps, O⟩, m6, m5, hT8⟩
   | 5, hq, hSk =>
    obtain rfl := Option.some.inj hq
    obtain ⟨Ap, cp, ps, h16, hps, rfl⟩ := m4 (deps_of hd 4 rfl)
    have n6 : S 6 = false := by
     cases h : S 6 with
     | false => rfl
     | true => rw [← hSk]; exact (deps_of (hcl 6 _ h rfl) 5 rfl).symm
    have hP : RdI w6 Ap N ps := ((hT.sub ((((List.sublist_append_right _ _).trans (List.sublist_append_right _ _)).cons _).cons _) : St w0 w6 (CkI 2 Ap N cp ps :: ks.set ix kk))).rdI 0 O
    refine Ops.call (l02Renumber_c A n c rs xss N Ap cp ps w6 hX (by omega) hG.sys (by omega) hP (fun x h0 h1 => hps.gi h0 h1)) O (by exact two_eq (p0 (deps_of hd 0 O)) h16) O ?_
    rintro _ w7 ⟨A', c', rs', rfl, hrl', hT'⟩
    have hT8 : St w0 w7 (Bx 24 1 A5 [.slice A n c] :: Bx 24 1 A4 vs :: (mat 32 2 A n c rs xss ++ (mat 32 2 A' n c' rs' (xss.map (renI N ps)) ++ ([CkI 2 Ap N cp ps] ++ ks.set ix kk)))) := by
     refine ((hT.sub (ks' := Bx 24 1 A5 [.slice A n c] :: Bx 24 1 A4 vs :: (mat 32 2 A n c rs xss ++ ([CkI 2 Ap N cp ps] ++ ks.set ix kk))) ?_).call hT').perm ?_
     ·exact List.Sublist.cons_cons _ (List.Sublist.cons_cons _ ((List.Sublist.refl _).append (List.sublist_append_right _ _)))
     ·refine (List.perm_middle (l₁ := mat 32 2 A' n c' rs' (xss.map (renI N ps)))).trans (List.Perm.cons _ ((List.perm_middle (l₁ := mat 32 2 A' n c' rs' (xss.map (renI N ps)))).trans (List.Perm.cons _ ?_)))
      rw [← List.append_assoc (mat 32 2 A' n c' rs' (xss.map (renI N ps))) (mat 32 2 A n c rs xss), ← List.append_assoc (mat 32 2 A n c rs xss) (mat 32 2 A' n c' rs' (xss.map (renI N ps)))]
      exact List.perm_append_comm.append_right _
    refine Ops.n ?_
    exact ⟨f0, f4, f5, p0, p1, p2, p3, [CkI 2 Ap N cp ps], mat 32 2 A' n c' rs' (xss.map (renI N ps)), kk, vs, hkk, fun _ => ⟨Ap, cp, ps, h16, hps, O⟩, m6, fun _ => ⟨A', c', rs', _, O, hrl', by simp [hxl], hG.ren hps, O, fun h => (nomatch n6.symm.trans h)⟩, hT8⟩
   | 6, hq, hSk =>
    obtain rfl := Option.some.inj hq
    obtain ⟨A', c', rs', xss', h17, hrl', hxl', hG', rfl, _⟩ := m5 (deps_of hd 5 rfl)
    obtain rfl := m6 hSk
    refine Ops.st_agg 1 1 hT O (by exact f4) (by exact h17) O O O O ?_
    intro w7 hT7
    refine Ops.n ?_
    exact ⟨f0, f4, f5, p0, p1, p2, p3, B1, _, kk, [.slice A' n c'], hkk, m4, fun h => (nomatch (show true = false from h)), fun _ => ⟨A', c', rs', xss', h17, hrl', hxl', hG', O, fun _ => O⟩, hT7⟩
   | i + 7, hq, _ => exact (nomatch hq)
  ·intro S e1 w6 hall hI
   obtain ⟨f0, f4, f5, p0, p1, p2, p3, B1, B2, kk, vs, hkk, m4, m6, m5, hT⟩ := hI
   obtain ⟨A', c', rs', xss', h17, hrl', hxl', hG', rfl, hvs⟩ := m5 (hall 5 (by decide))
   obtain rfl := hvs (hall 6 (by decide))
   refine postQ_ext (F := [(4, .pointer A4)]) ⟨f4, trivial⟩ (Ger O (retc_r O (hT.rd 1 O) ?_))
   exact ⟨n, N, A', c', rs', xss', kk, O, hn, hN, hrl', hxl', hG', hkk, hT.tail.tail.sub (((List.Sublist.refl _).append (List.sublist_append_right _ _)).trans (List.sublist_append_right _ _))⟩
 ·refine Gao O (Ops.ld_agg 0 (hS5.rd 0 O) O O O (Ops.st_agg 1 1 hS5 O O O O O O O ?_))
  intro w6 hS6
  refine Gdr O (retc_r O (hS6.rd 1 O) ?_)
  exact ⟨n, N, A, c, rs, xss, k2, O, hn, hN, hrl, hxl, hG, hK2, hS6.tail.tail⟩
/-
 The reference's list of a rank and a number of flags, with the numbers of orbits. Conditions: the rank and the number are within their bounds.
-/
section
variable {P : Program} {N : Nat} {ops : Array Oper} {K : Env → World → Prop} {rest : List Oper} {e : Env} {w0 w w' : World} {ks : List Ck} {d : Nat} {ty : TypeId} {pos : String} {af : Array Edge}
end
theorem RdR.drop {w : World} {A : Option Addr} {n c l : Nat} {xs : List SlV} (h : RdR w A n xs) (hl : l ≤ n) (hc : n ≤ c) : RdR w (cutAt A c l) (n - l) (xs.drop l) := by
 have := h.cut (l := l) (h := n) (c := c) hl (Nat.le_refl _) hc
 rwa [List.take_of_length_le (by rw [List.length_drop, h.1]; omega)] at this
/-! matrices chosen and put in order -/
/-
 The draws of maniplexes, walked: a maniplex drawn and perhaps spoiled.
-/
def AnsS (w0 : World) (ks : List Ck) (ix : Nat) (As : Option Addr) (v : Value) (w' : World) : Prop :=
 ∃ (n : Nat) (A : Option Addr) (c : Nat) (rs : List SlV) (xss : List (List Int)) (X : List Ck) (k' : Ck), v = .agg #[.slice A n c] ∧ n ≤ 6 ∧ (n ≤ c ∧ c ≤ 9223372036854775807) ∧ (∀ p ∈ xss, p.length ≤ 20001 ∧ ∀ x ∈ p, -1 ≤ x ∧ x ≤ 20001) ∧ srcK w0 As k' ∧ (∀ (w'' : World) (Y : List Ck), St w0 w'' (X ++ Y) → RowsI w'' A n rs xss) ∧ St w0 w' (X ++ ks.set ix k')
theorem getD_drop1 {α : Type} (d : α) (xs : List α) (i : Nat) : (xs.drop 1).getD i d = xs.getD (i + 1) d := by
 cases xs with
 | nil => rfl
 | cons a r => rfl
theorem RowsI.drop1 {w : World} {A : Option Addr} {n c : Nat} {rs : List SlV} {xss : List (List Int)} (h : RowsI w A n rs xss) (hn : 1 ≤ n) (hc : n ≤ c) : RowsI w (cutAt A c 1) (n - 1) (rs.drop 1) (xss.drop 1) := by
 refine ⟨h.top.drop hn hc, by rw [List.length_drop, h.len], fun i hi => ?_, fun i hi => ?_⟩
 ·rw [getD_drop1, getD_drop1]; exact h.row (i + 1) (by omega)
 rw [getD_drop1]; exact h.cap (i + 1) (by omega)
structure Sp1 (w0 : World) (ks : List Ck) (ix : Nat) (As A4 A5 : Option Addr) (n N : Nat) (A : Option Addr) (c : Nat) (rs : List SlV) (xss : List (List Int)) (S : Nat → Bool) (e : Env) (w : World) : Prop where
 f0 : e 0 = .pointer As
 f4 : e 4 = .pointer A4
 f5 : e 5 = .pointer A5
 f6 : e 6 = .int .i64 (N : Int)
 p0 : S 0 = true → e 30 = .pointer (ptrAt A5 0)
 p1 : S 1 = true → e 31 = .slice A n c
 p2 : S 2 = true → e 32 = .pointer As
 p3 : S 3 = true → e 33 = .int .i64 (N : Int)
 p7 : S 7 = true → e 37 = .pointer (ptrAt A5 0)
 mem : ∃ (Am : Option Addr) (cm : Nat) (ps : List Int) (A35 A' : Option Addr) (c' : Nat) (b1 b2 : List Ck) (b3 kk : Ck) (vs : List Value), srcK w0 As kk ∧ (S 4 = true → e 34 = .slice Am N cm ∧ Rg N ps ∧ b1 = [CkI 2 Am N cm ps]) ∧ (S 5 = true → e 35 = .slice A35 1 1 ∧ b2 = [CkR 32 A35 1 1 [⟨Am, N, cm⟩]]) ∧ (S 6 = false → b3 = CkR 32 A n c rs) ∧ (S 6 = true → e 36 = .slice A' (n + 1) c' ∧ b3 = CkR 32 A' (n + 1) c' (rs ++ [⟨Am, N, cm⟩])) ∧ (S 8 = false → vs = [.slice A n c]) ∧ (S 8 = true → vs = [.slice A' (n + 1) c']) ∧
  St w0 w (Bx 24 1 A5 vs :: Bx 24 1 A4 [.slice none 0 0] :: b3 :: (rowsCk 2 rs xss ++ (b2 ++ (b1 ++ ks.set ix kk))))
theorem l01MatchingX_c {w0 w : World} {ks : List Ck} (X : List Ck) (ix : Nat) {As : Option Addr} {k : Ck} (n : Nat) (hS : St w0 w (X ++ ks)) (hk : ks[ix]? = some k) (hK : srcK w0 As k) (hn : n ≤ 1000000) :
  Ret Tryz.prog 162 [.pointer As, .int .i64 (n : Int)] w (fun v w' => ∃ A c xs k', v = .slice A n c ∧ Rg n xs ∧ srcK w0 As k' ∧ St w0 w' (CkI 2 A n c xs :: (X ++ ks.set ix k'))) := by
 have e : (X ++ ks)[X.length + ix]? = some k := by
  rw [List.getElem?_append_right (by omega), Nat.add_sub_cancel_left]; exact hk
 refine (l01Matching_c (X.length + ix) n hS e hK hn).mono ?_
 rintro v w' ⟨A, c, xs, k', h1, h2, h3, h4⟩
 rw [show (X ++ ks).set (X.length + ix) k' = X ++ ks.set ix k' from by rw [List.set_append, if_neg (by omega), Nat.add_sub_cancel_left]] at h4
 exact ⟨A, c, xs, k', h1, h2, h3, h4⟩
theorem notyet {S : Nat → Bool} {j k : Nat} (hSk : S k = false) (h : S j = true → S k = true) : S j = false := by
 cases hj : S j with
 | false => rfl
 | true => rw [← hSk]; exact (h hj).symm
structure Sp0 (w0 : World) (ks : List Ck) (ix : Nat) (As A4 A5 : Option Addr) (n N : Nat) (A : Option Addr) (c : Nat) (a0 : Option Addr) (c0 : Nat) (rs1 : List SlV) (xss1 : List (List Int)) (S : Nat → Bool) (e : Env) (w : World) : Prop where
 f0 : e 0 = .pointer As
 f4 : e 4 = .pointer A4
 f5 : e 5 = .pointer A5
 f6 : e 6 = .int .i64 (N : Int)
 p0 : S 0 = true → e 16 = .pointer (ptrAt A5 0)
 p1 : S 1 = true → e 17 = .slice A n c
 p2 : S 2 = true → e 18 = .pointer (ptrAt A 0)
 p3 : S 3 = true → e 19 = .slice a0 N c0
 p4 : S 4 = true → e 20 = .pointer As
 p5 : S 5 = true → e 21 = .int .i64 (N : Int)
 p6 : S 6 = true → ∃ r : Int, e 22 = .int .i64 r ∧ 0 ≤ r ∧ r < N
 p7 : S 7 = true → e 23 = .pointer As
 p8 : S 8 = true → e 24 = .int .i64 (N : Int)
 p10 : S 10 = true → ∃ x : Int, e 26 = .int .i64 x ∧ -1 ≤ x ∧ x ≤ 20001
 p11 : S 11 = true → ∃ r : Int, e 27 = .pointer (ptrAt a0 r.toNat) ∧ 0 ≤ r ∧ r < N
 mem : ∃ (y : List Int) (A25 : Option Addr) (b1 : List Ck) (kk : Ck), srcK w0 As kk ∧ (y.length = N ∧ ∀ x ∈ y, -1 ≤ x ∧ x ≤ 20001) ∧ (S 9 = true → e 25 = .slice A25 3 3 ∧ b1 = [CkI 2 A25 3 3 [-1, (N : Int), 0]]) ∧
  St w0 w (Bx 24 1 A5 [.slice A n c] :: Bx 24 1 A4 [.slice none 0 0] :: CkR 32 A n c (⟨a0, N, c0⟩ :: rs1) :: CkI 2 a0 N c0 y :: (rowsCk 2 rs1 xss1 ++ (b1 ++ ks.set ix kk)))
structure Sp3 (w0 : World) (ks : List Ck) (ix : Nat) (As A4 A5 : Option Addr) (n N : Nat) (A : Option Addr) (c : Nat) (a0 : Option Addr) (c0 : Nat) (rs1 : List SlV) (x0 : List Int) (xss1 : List (List Int)) (kk : Ck) (S : Nat → Bool) (e : Env) (w : World) : Prop where
 f4 : e 4 = .pointer A4
 f5 : e 5 = .pointer A5
 f6 : e 6 = .int .i64 (N : Int)
 p0 : S 0 = true → e 44 = .pointer (ptrAt A5 0)
 p1 : S 1 = true → e 45 = .slice A n c
 p2 : S 2 = true → e 46 = .pointer (ptrAt A5 0)
 p3 : S 3 = true → e 47 = .slice A n c
 p4 : S 4 = true → e 48 = .pointer (ptrAt A 0)
 p5 : S 5 = true → e 49 = .slice a0 N c0
 p6 : S 6 = true → e 50 = .int .i64 (N : Int)
 p9 : S 9 = true → e 53 = .pointer (ptrAt A 0)
 mem : ∃ (A51 A' : Option Addr) (c' : Nat) (b1 : List Ck) (b3 b4 : Ck), (S 7 = true → e 51 = .slice A51 1 1 ∧ b1 = [CkI 2 A51 1 1 [(N : Int)]]) ∧ (S 8 = false → b3 = CkI 2 a0 N c0 x0) ∧ (S 8 = true → e 52 = .slice A' (N + 1) c' ∧ b3 = CkI 2 A' (N + 1) c' (x0 ++ [(N : Int)])) ∧ (S 10 = false → b4 = CkR 32 A n c (⟨a0, N, c0⟩ :: rs1)) ∧ (S 10 = true → b4 = CkR 32 A n c (⟨A', N + 1, c'⟩ :: rs1)) ∧
  St w0 w (Bx 24 1 A5 [.slice A n c] :: Bx 24 1 A4 [.slice none 0 0] :: b4 :: b3 :: (rowsCk 2 rs1 xss1 ++ (b1 ++ ks.set ix kk)))
theorem l01PickX_c {w0 w : World} {ks : List Ck} (X : List Ck) (ix : Nat) {As : Option Addr} {k : Ck} (A : Option Addr) (n c : Nat) (xs : List Int) (hS : St w0 w (X ++ ks)) (hk : ks[ix]? = some k) (hK : srcK w0 As k) (hR : ∀ k' w', St w0 w' (X ++ ks.set ix k') → RdI w' A n xs) (hn : 0 < n ∧ n ≤ 1000000) :
  Ret Tryz.prog 137 [.pointer As, .slice A n c] w (fun v w' => ∃ (x : Int) (k' : Ck), v = .int .i64 x ∧ x ∈ xs ∧ srcK w0 As k' ∧ St w0 w' (X ++ ks.set ix k')) := by
 have e : (X ++ ks)[X.length + ix]? = some k := by
  rw [List.getElem?_append_right (by omega), Nat.add_sub_cancel_left]; exact hk
 have e2 : ∀ k', (X ++ ks).set (X.length + ix) k' = X ++ ks.set ix k' := fun k' => by rw [List.set_append, if_neg (by omega), Nat.add_sub_cancel_left]
 refine (l01Pick_c (X.length + ix) A n c xs hS e hK (fun k' w' h => hR k' w' (by rwa [e2] at h)) hn).mono ?_
 rintro v w' ⟨x, k', h1, h2, h3, h4⟩
 rw [e2] at h4
 exact ⟨x, k', h1, h2, h3, h4⟩
theorem l02Spoil_c {w0 w : World} {ks : List Ck} (ix : Nat) {As : Option Addr} {k : Ck} (most : Nat) (hS : St w0 w ks) (hk : ks[ix]? = some k) (hK : srcK w0 As k) (hm : 8 ≤ most ∧ most ≤ 1000) :
  Ret Tryz.prog 95 [.pointer As, .int .i64 (most : Int)] w (AnsS w0 ks ix As) := by
 refine Ret.of_cd Tryz.func95 O Tryz.ntmps95 O (postc O O) (Gbo O (Ops.new1 hS O ?_))
 intro A4 w1 hS1
 refine Gdo O (Ops.call (l02Draw_c (ix + 1) most hS1 (by exact hk) hK hm) O O O ?_)
 rintro _ w2 ⟨n, N, A, c, rs, xss, k1, rfl, hn, hN, hrl, hxl, hG, hK1, hS2⟩
 refine Ops.new1 hS2 O ?_
 intro A5 w3 hS3
 refine Ops.st_agg 1 0 hS3 O O O O O O O ?_
 intro w4 hS4
 have hS4 : St w0 w4 (Bx 24 1 A5 [.slice A n c] :: (mat 32 2 A n c rs xss ++ (Bx 24 1 A4 [.slice none 0 0] :: ks.set ix k1))) := hS4
 have hS4 : St w0 w4 (Bx 24 1 A5 [.slice A n c] :: Bx 24 1 A4 [.slice none 0 0] :: (mat 32 2 A n c rs xss ++ ks.set ix k1)) := hS4.perm (List.Perm.cons _ List.perm_middle)
 have hk1 := setK_get (k' := k1) hk
 refine Gdo O (Ops.ld_agg 0 (hS4.rd 0 O) O O O (Ops.call (l02Flags_c A n c rs xss w4 (St.rowsI hS4.tail.tail (by omega)) (by omega)) O O O ?_))
 rintro _ w5 ⟨rfl, hT⟩
 have hS5 := hS4.later hT.below
 rw [hG.first (by omega)]
 refine Gdo O (Ops.call (srcNextX_c (Bx 24 1 A5 [.slice A n c] :: Bx 24 1 A4 [.slice none 0 0] :: mat 32 2 A n c rs xss) ix 40 hS5 hk1 hK1) O O O ?_)
 rintro _ w6 ⟨r, k2, rfl, hr, hK2, hS6⟩
 rw [List.set_set] at hS6
 have hS6 : St w0 w6 (Bx 24 1 A5 [.slice A n c] :: Bx 24 1 A4 [.slice none 0 0] :: (mat 32 2 A n c rs xss ++ ks.set ix k2)) := hS6
 have hk2 := setK_get (k' := k2) hk
 have hcap : n ≤ c ∧ c ≤ 9223372036854775807 := hS6.cap 2 O
 have hsp : ∀ p ∈ xss, p.length ≤ 20001 ∧ ∀ x ∈ p, -1 ≤ x ∧ x ≤ 20001 := fun p hp => ⟨by have := (hG p hp).1; omega, fun x hx => by have := (hG p hp).2 x hx; omega⟩
 refine Gdc O ?_
 refine Cd.cond_p _ O (fun h1 => ?_) (fun h1 => ?_)
 ·obtain ⟨r0, rs1, rfl⟩ : ∃ r0 rs1, rs = r0 :: rs1 := by cases rs with | nil => exact absurd hrl (by simp; omega) | cons a b => exact ⟨a, b, rfl⟩
  obtain ⟨x0, xss1, rfl⟩ : ∃ x0 xss1, xss = x0 :: xss1 := by cases xss with | nil => exact absurd hxl (by simp; omega) | cons a b => exact ⟨a, b, rfl⟩
  obtain ⟨a0, n0, c0⟩ := r0
  have hx0 : x0.length = N := (hG x0 (List.mem_cons_self)).1
  have hr0 : x0.length = n0 := ((St.rowsI hS6.tail.tail hxl).at_ (i := 0) (by omega) (by omega)).1
  obtain rfl : n0 = N := by omega
  refine Cd.drawS (by kernel_rfl) (by kernel_rfl) (fun S e1 w1 => Sp0 w0 ks ix As A4 A5 n n0 A c a0 c0 rs1 xss1 S e1 w1) (fun w7 hb => ⟨O, O, O, O, fun h => (nomatch h), fun h => (nomatch h), fun h => (nomatch h), fun h => (nomatch h), fun h => (nomatch h), fun h => (nomatch h), fun h => (nomatch h), fun h => (nomatch h), fun h => (nomatch h), fun h => (nomatch h), fun h => (nomatch h), x0, none, [], k2, hK2, ⟨hx0, (hsp x0 List.mem_cons_self).2⟩, fun h => (nomatch h), hS6.later hb⟩) ?_ ?_
  ·intro S i o e1 w7 hq hSk hd hcl hI
   obtain ⟨f0, f4, f5, f6, p0, p1, p2, p3, p4, p5, p6, p7, p8, p10, p11, y, A25, b1, kk, hkk, hy, m9, hT⟩ := hI
   have hkg := setK_get (k' := kk) hk
   have eX : ∀ Y, (Bx 24 1 A5 [.slice A n c] :: Bx 24 1 A4 [.slice none 0 0] :: CkR 32 A n c (⟨a0, n0, c0⟩ :: rs1) :: CkI 2 a0 n0 c0 y :: (rowsCk 2 rs1 xss1 ++ (b1 ++ Y))) = (Bx 24 1 A5 [.slice A n c] :: Bx 24 1 A4 [.slice none 0 0] :: CkR 32 A n c (⟨a0, n0, c0⟩ :: rs1) :: CkI 2 a0 n0 c0 y :: (rowsCk 2 rs1 xss1 ++ b1)) ++ Y := fun Y => by simp
   have hX0 := hT
   rw [eX] at hX0
   match i, hq, hSk with
   | 0, hq, hSk =>
    obtain rfl := Option.some.inj hq
    refine Ops.fld (hT.rd 0 O) (by exact f5) O O O inferInstance (Ops.n ?_)
    exact ⟨f0, f4, f5, f6, fun _ => O, p1, p2, p3, p4, p5, p6, p7, p8, p10, p11, y, A25, b1, kk, hkk, hy, m9, hT⟩
   | 1, hq, hSk =>
    obtain rfl := Option.some.inj hq
    refine Ops.ldf_s (hT.rd 0 O) (by exact p0 (deps_of hd 0 O)) O O O O (Ops.n ?_)
    exact ⟨f0, f4, f5, f6, p0, fun _ => O, p2, p3, p4, p5, p6, p7, p8, p10, p11, y, A25, b1, kk, hkk, hy, m9, hT⟩
   | 2, hq, hSk =>
    obtain rfl := Option.some.inj hq
    refine Ops.idx (hT.rd 2 O) (by exact p1 (deps_of hd 1 O)) O O (by omega) (by show (0 : Int) < (n : Int); omega) ?_
    refine Ops.n ?_
    exact ⟨f0, f4, f5, f6, p0, p1, fun _ => O, p3, p4, p5, p6, p7, p8, p10, p11, y, A25, b1, kk, hkk, hy, m9, hT⟩
   | 3, hq, hSk =>
    obtain rfl := Option.some.inj hq
    refine Ops.ld_sl (i := 0) (hT.rdR 2 O) (by exact p2 (deps_of hd 2 O)) (by show 0 < n; omega) O O ?_
    refine Ops.n ?_
    exact ⟨f0, f4, f5, f6, p0, p1, p2, fun _ => O, p4, p5, p6, p7, p8, p10, p11, y, A25, b1, kk, hkk, hy, m9, hT⟩
   | 4, hq, hSk =>
    obtain rfl := Option.some.inj hq
    refine Ops.mv_ptr O (by exact f0) O (Ops.n ?_)
    exact ⟨f0, f4, f5, f6, p0, p1, p2, p3, fun _ => O, p5, p6, p7, p8, p10, p11, y, A25, b1, kk, hkk, hy, m9, hT⟩
   | 5, hq, hSk =>
    obtain rfl := Option.some.inj hq
    refine Ops.mi O (by exact f6) O (Ops.n ?_)
    exact ⟨f0, f4, f5, f6, p0, p1, p2, p3, p4, fun _ => O, p6, p7, p8, p10, p11, y, A25, b1, kk, hkk, hy, m9, hT⟩
   | 6, hq, hSk =>
    obtain rfl := Option.some.inj hq
    refine Ops.call (srcNextX_c _ ix (n0 : Int) hX0 hkg hkk) O (by exact two_eq (p4 (deps_of hd 4 O)) (p5 (deps_of hd 5 O))) O ?_
    rintro _ w8 ⟨r7, k7, rfl, hr7, hK7, hT7⟩
    rw [List.set_set, ← eX] at hT7
    refine Ops.n ?_
    exact ⟨f0, f4, f5, f6, p0, p1, p2, p3, p4, p5, fun _ => ⟨r7, O, hr7.1, hr7.2.1 (by omega)⟩, p7, p8, p10, p11, y, A25, b1, k7, hK7, hy, m9, hT7⟩
   | 7, hq, hSk =>
    obtain rfl := Option.some.inj hq
    refine Ops.mv_ptr O (by exact f0) O (Ops.n ?_)
    exact ⟨f0, f4, f5, f6, p0, p1, p2, p3, p4, p5, p6, fun _ => O, p8, p10, p11, y, A25, b1, kk, hkk, hy, m9, hT⟩
   | 8, hq, hSk =>
    obtain rfl := Option.some.inj hq
    refine Ops.mi O (by exact f6) O (Ops.n ?_)
    exact ⟨f0, f4, f5, f6, p0, p1, p2, p3, p4, p5, p6, p7, fun _ => O, p10, p11, y, A25, b1, kk, hkk, hy, m9, hT⟩
   | 9, hq, hSk =>
    obtain rfl := Option.some.inj hq
    refine Ops.bsL [-1, (n0 : Int), 0] (hT.sub (List.Sublist.cons_cons _ (List.Sublist.cons_cons _ (List.Sublist.cons_cons _ (List.Sublist.cons_cons _ ((List.Sublist.refl _).append (List.sublist_append_right _ _))))))) (by have h24 : e1 24 = .int .i64 (n0 : Int) := p8 (deps_of hd 8 O); simp [ev, h24, idxI]) O (by decide) (by decide) O O ?_
    intro A25 w8 hT8
    have hT9 : St w0 w8 (Bx 24 1 A5 [.slice A n c] :: Bx 24 1 A4 [.slice none 0 0] :: CkR 32 A n c (⟨a0, n0, c0⟩ :: rs1) :: CkI 2 a0 n0 c0 y :: (rowsCk 2 rs1 xss1 ++ ([CkI 2 A25 3 3 [-1, (n0 : Int), 0]] ++ ks.set ix kk))) := hT8.perm (List.perm_middle (l₁ := Bx 24 1 A5 [.slice A n c] :: Bx 24 1 A4 [.slice none 0 0] :: CkR 32 A n c (⟨a0, n0, c0⟩ :: rs1) :: CkI 2 a0 n0 c0 y :: rowsCk 2 rs1 xss1)).symm
    refine Ops.n ?_
    exact ⟨f0, f4, f5, f6, p0, p1, p2, p3, p4, p5, p6, p7, p8, p10, p11, y, A25, _, kk, hkk, hy, fun _ => ⟨O, O⟩, hT9⟩
   | 10, hq, hSk =>
    obtain rfl := Option.some.inj hq
    obtain ⟨h25, rfl⟩ := m9 (deps_of hd 9 rfl)
    refine Ops.call (l01PickX_c _ ix A25 3 3 [-1, (n0 : Int), 0] hX0 hkg hkk (fun k' w' h => by rw [← eX] at h; exact St.rdI (i := 0) (h.sub (((List.sublist_append_right _ _).cons _).cons _ |>.cons _ |>.cons _)) O) (by decide)) O (by exact two_eq (p7 (deps_of hd 7 O)) h25) O ?_
    rintro _ w8 ⟨x, k7, rfl, hx, hK7, hT7⟩
    rw [List.set_set, ← eX] at hT7
    have hxb : -1 ≤ x ∧ x ≤ 20001 := by
     simp only [List.mem_cons, List.not_mem_nil, or_false] at hx
     rcases hx with rfl | rfl | rfl <;> omega
    refine Ops.n ?_
    exact ⟨f0, f4, f5, f6, p0, p1, p2, p3, p4, p5, p6, p7, p8, fun _ => ⟨x, O, hxb⟩, p11, y, A25, _, k7, hK7, hy, fun _ => ⟨h25, O⟩, hT7⟩
   | 11, hq, hSk =>
    obtain rfl := Option.some.inj hq
    obtain ⟨r, h22, hr⟩ := p6 (deps_of hd 6 rfl)
    refine Ops.idx (hT.rd 3 O) (by exact p3 (deps_of hd 3 O)) (by exact h22) O (by omega) (by show r < (n0 : Int); omega) ?_
    refine Ops.n ?_
    exact ⟨f0, f4, f5, f6, p0, p1, p2, p3, p4, p5, p6, p7, p8, p10, fun _ => ⟨r, O, hr⟩, y, A25, b1, kk, hkk, hy, m9, hT⟩
   | 12, hq, hSk =>
    obtain rfl := Option.some.inj hq
    obtain ⟨r, h27, hr⟩ := p11 (deps_of hd 11 rfl)
    obtain ⟨x, h26, hx⟩ := p10 (deps_of hd 10 rfl)
    refine Ops.st_int 3 hT O (by exact h27) (by exact h26) (by omega) ?_
    intro w8 hT8
    refine Ops.n ?_
    exact ⟨f0, f4, f5, f6, p0, p1, p2, p3, p4, p5, p6, p7, p8, p10, p11, y.set r.toNat x, A25, b1, kk, hkk, ⟨by rw [List.length_set]; exact hy.1, fun z hz => (List.mem_or_eq_of_mem_set hz).elim (hy.2 z) (fun h => h ▸ hx)⟩, m9, hT8⟩
   | i + 13, hq, _ => exact (nomatch hq)
  ·intro S e1 w7 hall hI
   obtain ⟨f0, f4, f5, f6, p0, p1, p2, p3, p4, p5, p6, p7, p8, p10, p11, y, A25, b1, kk, hkk, hy, m9, hT⟩ := hI
   refine postQ_ext (F := [(4, .pointer A4), (5, .pointer A5)]) ⟨f4, f5, trivial⟩ (Geo O (Ops.ld_agg 0 (hT.rd 0 O) O O O (Ops.st_agg 1 1 hT O O O O O O O ?_)))
   intro w20 hS20
   refine Gdr O (retc_r O (hS20.rd 1 O) ?_)
   exact ⟨n, A, c, ⟨a0, n0, c0⟩ :: rs1, y :: xss1, mat 32 2 A n c (⟨a0, n0, c0⟩ :: rs1) (y :: xss1), kk, O, by omega, hcap, fun p hp => (List.mem_cons.1 hp).elim (fun h => h ▸ ⟨by omega, hy.2⟩) (fun h => hsp p (List.mem_cons_of_mem _ h)), hkk, fun w'' Y h => St.rowsI h (by simpa using hxl), hS20.tail.tail.sub (List.Sublist.cons_cons _ (List.Sublist.cons_cons _ ((List.Sublist.refl _).append (List.sublist_append_right _ _))))⟩
 ·refine Gac O ?_
  refine Cd.cond_p _ O (fun h2 => ?_) (fun h2 => ?_)
  ·skip
   refine Cd.drawS (by kernel_rfl) (by kernel_rfl) (fun S e1 w1 => Sp1 w0 ks ix As A4 A5 n N A c rs xss S e1 w1) (fun w7 hb => ⟨O, O, O, O, fun h => (nomatch h), fun h => (nomatch h), fun h => (nomatch h), fun h => (nomatch h), fun h => (nomatch h), none, 0, [], none, none, 0, [], [], CkR 32 A n c rs, k2, [.slice A n c], hK2, fun h => (nomatch h), fun h => (nomatch h), fun _ => O, fun h => (nomatch h), fun _ => O, fun h => (nomatch h), hS6.later hb⟩) ?_ ?_
   ·intro S i o e1 w7 hq hSk hd hcl hI
    obtain ⟨f0, f4, f5, f6, p0, p1, p2, p3, p7, Am, cm, ps, A35, A', c', b1, b2, b3, kk, vs, hkk, m4, m5, m6f, m6, m8f, m8, hT⟩ := hI
    match i, hq, hSk with
    | 0, hq, hSk =>
     obtain rfl := Option.some.inj hq
     refine Ops.fld (hT.rd 0 O) (by exact f5) O O O inferInstance (Ops.n ?_)
     exact ⟨f0, f4, f5, f6, fun _ => O, p1, p2, p3, p7, Am, cm, ps, A35, A', c', b1, b2, b3, kk, vs, hkk, m4, m5, m6f, m6, m8f, m8, hT⟩
    | 1, hq, hSk =>
     obtain rfl := Option.some.inj hq
     obtain rfl := m8f (notyet hSk fun h => deps_of (hcl 8 _ h rfl) 1 rfl)
     refine Ops.ldf_s (hT.rd 0 O) (by exact p0 (deps_of hd 0 O)) O O O O (Ops.n ?_)
     exact ⟨f0, f4, f5, f6, p0, fun _ => O, p2, p3, p7, Am, cm, ps, A35, A', c', b1, b2, b3, kk, _, hkk, m4, m5, m6f, m6, m8f, m8, hT⟩
    | 2, hq, hSk =>
     obtain rfl := Option.some.inj hq
     refine Ops.mv_ptr O (by exact f0) O (Ops.n ?_)
     exact ⟨f0, f4, f5, f6, p0, p1, fun _ => O, p3, p7, Am, cm, ps, A35, A', c', b1, b2, b3, kk, vs, hkk, m4, m5, m6f, m6, m8f, m8, hT⟩
    | 3, hq, hSk =>
     obtain rfl := Option.some.inj hq
     refine Ops.mi O (by exact f6) O (Ops.n ?_)
     exact ⟨f0, f4, f5, f6, p0, p1, p2, fun _ => O, p7, Am, cm, ps, A35, A', c', b1, b2, b3, kk, vs, hkk, m4, m5, m6f, m6, m8f, m8, hT⟩
    | 4, hq, hSk =>
     obtain rfl := Option.some.inj hq
     have hkg := setK_get (k' := kk) hk
     have n5 : S 5 = false := (notyet hSk fun h => deps_of (hcl 5 _ h O) 4 O)
     have n6 : S 6 = false := (notyet hSk fun h => deps_of (hcl 6 _ h O) 4 O)
     have hX0 : St w0 w7 ((Bx 24 1 A5 vs :: Bx 24 1 A4 [.slice none 0 0] :: b3 :: (rowsCk 2 rs xss ++ b2)) ++ ks.set ix kk) := hT.sub (List.Sublist.cons_cons _ (List.Sublist.cons_cons _ (List.Sublist.cons_cons _ (by show List.Sublist ((rowsCk 2 rs xss ++ b2) ++ ks.set ix kk) _; rw [List.append_assoc]; exact (List.Sublist.refl _).append ((List.Sublist.refl _).append (List.sublist_append_right _ _))))))
     refine Ops.call (l01MatchingX_c _ ix N hX0 hkg hkk (by omega)) O (by exact two_eq (p2 (deps_of hd 2 O)) (p3 (deps_of hd 3 O))) O ?_
     rintro _ w8 ⟨Am, cm, ps, k7, rfl, hps, hK7, hT7⟩
     rw [List.set_set] at hT7
     have hT8 : St w0 w8 (Bx 24 1 A5 vs :: Bx 24 1 A4 [.slice none 0 0] :: b3 :: (rowsCk 2 rs xss ++ (b2 ++ ([CkI 2 Am N cm ps] ++ ks.set ix k7)))) := by
      have e : (Bx 24 1 A5 vs :: Bx 24 1 A4 [.slice none 0 0] :: b3 :: (rowsCk 2 rs xss ++ (b2 ++ ([CkI 2 Am N cm ps] ++ ks.set ix k7)))) = (Bx 24 1 A5 vs :: Bx 24 1 A4 [.slice none 0 0] :: b3 :: (rowsCk 2 rs xss ++ b2)) ++ (CkI 2 Am N cm ps :: ks.set ix k7) := by simp
      rw [e]
      exact hT7.perm List.perm_middle.symm
     refine Ops.n ?_
     exact ⟨f0, f4, f5, f6, p0, p1, p2, p3, p7, Am, cm, ps, A35, A', c', [CkI 2 Am N cm ps], b2, b3, k7, vs, hK7, fun _ => ⟨O, hps, O⟩, fun h => (nomatch n5.symm.trans h), m6f, fun h => (nomatch n6.symm.trans h), m8f, m8, hT8⟩
    | 5, hq, hSk =>
     obtain rfl := Option.some.inj hq
     obtain ⟨h34, hps, rfl⟩ := m4 (deps_of hd 4 rfl)
     have n6 : S 6 = false := (notyet hSk fun h => deps_of (hcl 6 _ h O) 5 O)
     refine Ops.bs1R (hT.sub (ks' := Bx 24 1 A5 vs :: Bx 24 1 A4 [.slice none 0 0] :: b3 :: (rowsCk 2 rs xss ++ ([CkI 2 Am N cm ps] ++ ks.set ix kk))) (List.Sublist.cons_cons _ (List.Sublist.cons_cons _ (List.Sublist.cons_cons _ ((List.Sublist.refl _).append (List.sublist_append_right _ _)))))) (by exact h34) O O ?_
     intro A35 w8 hT8
     have hT8 : St w0 w8 (Bx 24 1 A5 vs :: Bx 24 1 A4 [.slice none 0 0] :: b3 :: (rowsCk 2 rs xss ++ ([CkR 32 A35 1 1 [⟨Am, N, cm⟩]] ++ ([CkI 2 Am N cm ps] ++ ks.set ix kk)))) := hT8.perm (List.perm_middle (l₁ := Bx 24 1 A5 vs :: Bx 24 1 A4 [.slice none 0 0] :: b3 :: rowsCk 2 rs xss)).symm
     refine Ops.n ?_
     exact ⟨f0, f4, f5, f6, p0, p1, p2, p3, p7, Am, cm, ps, A35, A', c', _, [CkR 32 A35 1 1 [⟨Am, N, cm⟩]], b3, kk, vs, hkk, fun _ => ⟨h34, hps, O⟩, fun _ => ⟨O, O⟩, m6f, fun h => (nomatch n6.symm.trans h), m8f, m8, hT8⟩
    | 6, hq, hSk =>
     obtain rfl := Option.some.inj hq
     obtain ⟨h35, rfl⟩ := m5 (deps_of hd 5 rfl)
     obtain rfl := m6f hSk
     have n8 : S 8 = false := (notyet hSk fun h => deps_of (hcl 8 _ h O) 6 O)
     have hR : RdR w7 A35 1 [⟨Am, N, cm⟩] := St.rdR (i := 0) (hT.sub (ks' := CkR 32 A35 1 1 [⟨Am, N, cm⟩] :: (b1 ++ ks.set ix kk)) (((List.sublist_append_right _ _).cons _).cons _ |>.cons _)) O
     refine Ops.appR 2 hT O hR (by exact p1 (deps_of hd 1 O)) (by exact h35) O (by omega) (by omega) O ?_
     intro A' c' w8 hT8
     refine Ops.n ?_
     exact ⟨f0, f4, f5, f6, p0, p1, p2, p3, p7, Am, cm, ps, A35, A', c', b1, _, CkR 32 A' (n + 1) c' (rs ++ [⟨Am, N, cm⟩]), kk, vs, hkk, m4, fun _ => ⟨h35, O⟩, fun h => (nomatch (show true = false from h)), fun _ => ⟨O, O⟩, m8f, fun h => (nomatch n8.symm.trans h), hT8⟩
    | 7, hq, hSk =>
     obtain rfl := Option.some.inj hq
     refine Ops.fld (hT.rd 0 O) (by exact f5) O O O inferInstance (Ops.n ?_)
     exact ⟨f0, f4, f5, f6, p0, p1, p2, p3, fun _ => O, Am, cm, ps, A35, A', c', b1, b2, b3, kk, vs, hkk, m4, m5, m6f, m6, m8f, m8, hT⟩
    | 8, hq, hSk =>
     obtain rfl := Option.some.inj hq
     obtain ⟨h36, rfl⟩ := m6 (deps_of hd 6 rfl)
     obtain rfl := m8f hSk
     refine Ops.stf 0 hT O (by exact p7 (deps_of hd 7 O)) (by exact h36) O O ?_
     intro w8 hT8
     refine Ops.n ?_
     exact ⟨f0, f4, f5, f6, p0, p1, p2, p3, p7, Am, cm, ps, A35, A', c', b1, b2, _, kk, [.slice A' (n + 1) c'], hkk, m4, m5, m6f, fun _ => ⟨h36, O⟩, fun h => (nomatch (show true = false from h)), fun _ => O, hT8⟩
    | i + 9, hq, _ => exact (nomatch hq)
   ·intro S e1 w7 hall hI
    obtain ⟨f0, f4, f5, f6, p0, p1, p2, p3, p7, Am, cm, ps, A35, A', c', b1, b2, b3, kk, vs, hkk, m4, m5, m6f, m6, m8f, m8, hT⟩ := hI
    obtain ⟨_, hps, rfl⟩ := m4 (hall 4 (by decide))
    obtain ⟨_, rfl⟩ := m6 (hall 6 (by decide))
    obtain rfl := m8 (hall 8 (by decide))
    have hcap' : n + 1 ≤ c' ∧ c' ≤ 9223372036854775807 := hT.cap 2 O
    have hT : St w0 w7 (Bx 24 1 A5 [.slice A' (n + 1) c'] :: Bx 24 1 A4 [.slice none 0 0] :: (mat 32 2 A' (n + 1) c' (rs ++ [⟨Am, N, cm⟩]) (xss ++ [ps]) ++ ks.set ix kk)) := by
     refine (hT.sub (ks' := Bx 24 1 A5 [.slice A' (n + 1) c'] :: Bx 24 1 A4 [.slice none 0 0] :: CkR 32 A' (n + 1) c' (rs ++ [⟨Am, N, cm⟩]) :: (rowsCk 2 rs xss ++ ([CkI 2 Am N cm ps] ++ ks.set ix kk))) (List.Sublist.cons_cons _ (List.Sublist.cons_cons _ (List.Sublist.cons_cons _ ((List.Sublist.refl _).append (List.sublist_append_right _ _)))))).perm ?_
     refine List.Perm.cons _ (List.Perm.cons _ ?_)
     show List.Perm _ (CkR 32 A' (n + 1) c' (rs ++ [⟨Am, N, cm⟩]) :: (rowsCk 2 (rs ++ [⟨Am, N, cm⟩]) (xss ++ [ps]) ++ ks.set ix kk))
     rw [rowsCk_append (by omega), ← List.append_assoc]
     exact List.Perm.refl _
    refine postQ_ext (F := [(4, .pointer A4), (5, .pointer A5)]) ⟨f4, f5, trivial⟩ (Geo O (Ops.ld_agg 0 (hT.rd 0 O) O O O (Ops.st_agg 1 1 hT O O O O O O O ?_)))
    intro w20 hS20
    refine Gdr O (retc_r O (hS20.rd 1 O) ?_)
    exact ⟨n + 1, A', c', _, xss ++ [ps], _, kk, rfl, by omega, hcap', fun p hp => (List.mem_append.1 hp).elim (hsp p) (fun h => by rw [List.mem_singleton] at h; subst h; exact ⟨by have := hps.1; omega, fun x hx => by have := hps.2 x hx; omega⟩), hkk, fun w'' Y h => St.rowsI h (by simp [hxl]), hS20.tail.tail⟩
  ·refine Gac O ?_
   refine Cd.cond_p _ O (fun h3 => ?_) (fun h3 => ?_)
   ·refine Gao O (Ops.bs0 hS6 O ?_)
    intro A40 w7 hS7
    refine Ops.fld (hS7.rd 1 O) O O O O inferInstance (Ops.stf 1 hS7 O O O O O ?_)
    intro w8 hS8
    have hS8 : St w0 w8 ([Bx 24 1 A5 [.slice A40 0 0], Bx 24 1 A4 [.slice none 0 0]] ++ (mat 32 2 A40 0 0 [] [] ++ ks.set ix k2)) := by
     refine (hS8.sub (ks' := mat 32 2 A40 0 0 [] [] ++ ([Bx 24 1 A5 [.slice A40 0 0], Bx 24 1 A4 [.slice none 0 0]] ++ ks.set ix k2)) ?_).perm ?_
     ·exact List.Sublist.cons_cons _ (List.Sublist.cons_cons _ (List.Sublist.cons_cons _ (List.sublist_append_right _ _)))
     ·exact (List.perm_middle (l₁ := [_, _])).symm
    refine Gdo O (Ops.ld_agg 0 (hS8.rd 0 O) O O O (Ops.st_agg 1 1 hS8 O O O O O O O ?_))
    intro w20 hS20
    refine Gdr O (retc_r O (hS20.rd 1 O) ?_)
    exact ⟨0, A40, 0, [], [], _, k2, O, by omega, by decide, fun p hp => (nomatch hp), hK2, fun w'' Y h => St.rowsI h O, hS20.tail.tail⟩
   ·refine Gac O ?_
    refine Cd.cond_p _ O (fun h4 => ?_) (fun h4 => ?_)
    ·obtain ⟨r0, rs1, rfl⟩ : ∃ r0 rs1, rs = r0 :: rs1 := by cases rs with | nil => exact absurd hrl (by simp; omega) | cons a b => exact ⟨a, b, rfl⟩
     obtain ⟨x0, xss1, rfl⟩ : ∃ x0 xss1, xss = x0 :: xss1 := by cases xss with | nil => exact absurd hxl (by simp; omega) | cons a b => exact ⟨a, b, rfl⟩
     obtain ⟨a0, n0, c0⟩ := r0
     have hx0 : x0.length = N := (hG x0 (List.mem_cons_self)).1
     have hr0 : x0.length = n0 := ((St.rowsI hS6.tail.tail hxl).at_ (i := 0) (by omega) (by omega)).1
     obtain rfl : n0 = N := by omega
     refine Cd.drawS (by kernel_rfl) (by kernel_rfl) (fun S e1 w1 => Sp3 w0 ks ix As A4 A5 n n0 A c a0 c0 rs1 x0 xss1 k2 S e1 w1) (fun w7 hb => ⟨O, O, O, fun h => (nomatch h), fun h => (nomatch h), fun h => (nomatch h), fun h => (nomatch h), fun h => (nomatch h), fun h => (nomatch h), fun h => (nomatch h), fun h => (nomatch h), none, none, 0, [], _, _, fun h => (nomatch h), fun _ => O, fun h => (nomatch h), fun _ => O, fun h => (nomatch h), hS6.later hb⟩) ?_ ?_
     ·intro S i o e1 w7 hq hSk hd hcl hI
      obtain ⟨f4, f5, f6, p0, p1, p2, p3, p4, p5, p6, p9, A51, A', c', b1, b3, b4, m7, m8f, m8, m10f, m10, hT⟩ := hI
      match i, hq, hSk with
      | 0, hq, hSk =>
       obtain rfl := Option.some.inj hq
       refine Ops.fld (hT.rd 0 O) (by exact f5) O O O inferInstance (Ops.n ?_)
       exact ⟨f4, f5, f6, fun _ => O, p1, p2, p3, p4, p5, p6, p9, A51, A', c', b1, b3, b4, m7, m8f, m8, m10f, m10, hT⟩
      | 1, hq, hSk =>
       obtain rfl := Option.some.inj hq
       refine Ops.ldf_s (hT.rd 0 O) (by exact p0 (deps_of hd 0 O)) O O O O (Ops.n ?_)
       exact ⟨f4, f5, f6, p0, fun _ => O, p2, p3, p4, p5, p6, p9, A51, A', c', b1, b3, b4, m7, m8f, m8, m10f, m10, hT⟩
      | 2, hq, hSk =>
       obtain rfl := Option.some.inj hq
       refine Ops.fld (hT.rd 0 O) (by exact f5) O O O inferInstance (Ops.n ?_)
       exact ⟨f4, f5, f6, p0, p1, fun _ => O, p3, p4, p5, p6, p9, A51, A', c', b1, b3, b4, m7, m8f, m8, m10f, m10, hT⟩
      | 3, hq, hSk =>
       obtain rfl := Option.some.inj hq
       refine Ops.ldf_s (hT.rd 0 O) (by exact p2 (deps_of hd 2 O)) O O O O (Ops.n ?_)
       exact ⟨f4, f5, f6, p0, p1, p2, fun _ => O, p4, p5, p6, p9, A51, A', c', b1, b3, b4, m7, m8f, m8, m10f, m10, hT⟩
      | 4, hq, hSk =>
       obtain rfl := Option.some.inj hq
       obtain rfl := m10f (notyet hSk fun h => deps_of (hcl 10 _ h rfl) 4 rfl)
       refine Ops.idx (hT.rd 2 O) (by exact p3 (deps_of hd 3 O)) O O (by omega) (by show (0 : Int) < (n : Int); omega) ?_
       refine Ops.n ?_
       exact ⟨f4, f5, f6, p0, p1, p2, p3, fun _ => O, p5, p6, p9, A51, A', c', b1, b3, _, m7, m8f, m8, m10f, m10, hT⟩
      | 5, hq, hSk =>
       obtain rfl := Option.some.inj hq
       obtain rfl := m10f (notyet hSk fun h => deps_of (hcl 10 _ h rfl) 5 rfl)
       refine Ops.ld_sl (i := 0) (hT.rdR 2 O) (by exact p4 (deps_of hd 4 O)) (by show 0 < n; omega) O O ?_
       refine Ops.n ?_
       exact ⟨f4, f5, f6, p0, p1, p2, p3, p4, fun _ => O, p6, p9, A51, A', c', b1, b3, _, m7, m8f, m8, m10f, m10, hT⟩
      | 6, hq, hSk =>
       obtain rfl := Option.some.inj hq
       refine Ops.mi O (by exact f6) O (Ops.n ?_)
       exact ⟨f4, f5, f6, p0, p1, p2, p3, p4, p5, fun _ => O, p9, A51, A', c', b1, b3, b4, m7, m8f, m8, m10f, m10, hT⟩
      | 7, hq, hSk =>
       obtain rfl := Option.some.inj hq
       refine Ops.bs1I (hT.sub (ks' := Bx 24 1 A5 [.slice A n c] :: Bx 24 1 A4 [.slice none 0 0] :: b4 :: b3 :: (rowsCk 2 rs1 xss1 ++ ks.set ix k2)) (List.Sublist.cons_cons _ (List.Sublist.cons_cons _ (List.Sublist.cons_cons _ (List.Sublist.cons_cons _ ((List.Sublist.refl _).append (List.sublist_append_right _ _))))))) (by exact p6 (deps_of hd 6 O)) O O ?_
       intro A51 w8 hT8
       have hT9 : St w0 w8 (Bx 24 1 A5 [.slice A n c] :: Bx 24 1 A4 [.slice none 0 0] :: b4 :: b3 :: (rowsCk 2 rs1 xss1 ++ ([CkI 2 A51 1 1 [(n0 : Int)]] ++ ks.set ix k2))) := hT8.perm (List.perm_middle (l₁ := Bx 24 1 A5 [.slice A n c] :: Bx 24 1 A4 [.slice none 0 0] :: b4 :: b3 :: rowsCk 2 rs1 xss1)).symm
       refine Ops.n ?_
       exact ⟨f4, f5, f6, p0, p1, p2, p3, p4, p5, p6, p9, A51, A', c', _, b3, b4, fun _ => ⟨O, O⟩, m8f, m8, m10f, m10, hT9⟩
      | 8, hq, hSk =>
       obtain rfl := Option.some.inj hq
       obtain ⟨h51, rfl⟩ := m7 (deps_of hd 7 rfl)
       obtain rfl := m8f hSk
       have n10 : S 10 = false := (notyet hSk fun h => deps_of (hcl 10 _ h O) 8 O)
       have hR : RdI w7 A51 1 [(n0 : Int)] := St.rdI (i := 0) (hT.sub (((List.sublist_append_right _ _).cons _).cons _ |>.cons _ |>.cons _)) O
       refine Ops.appI 3 hT O hR (by exact p5 (deps_of hd 5 O)) (by exact h51) O (by omega) (by omega) O ?_
       intro A' c' w8 hT8
       refine Ops.n ?_
       exact ⟨f4, f5, f6, p0, p1, p2, p3, p4, p5, p6, p9, A51, A', c', _, _, b4, fun _ => ⟨h51, O⟩, fun h => (nomatch (show true = false from h)), fun _ => ⟨O, O⟩, m10f, fun h => (nomatch n10.symm.trans h), hT8⟩
      | 9, hq, hSk =>
       obtain rfl := Option.some.inj hq
       obtain rfl := m10f (notyet hSk fun h => deps_of (hcl 10 _ h rfl) 9 rfl)
       refine Ops.idx (hT.rd 2 O) (by exact p1 (deps_of hd 1 O)) O O (by omega) (by show (0 : Int) < (n : Int); omega) ?_
       refine Ops.n ?_
       exact ⟨f4, f5, f6, p0, p1, p2, p3, p4, p5, p6, fun _ => O, A51, A', c', b1, b3, _, m7, m8f, m8, m10f, m10, hT⟩
      | 10, hq, hSk =>
       obtain rfl := Option.some.inj hq
       obtain ⟨h52, rfl⟩ := m8 (deps_of hd 8 rfl)
       obtain rfl := m10f hSk
       refine Ops.st_sl (i := 0) 2 hT O (by exact p9 (deps_of hd 9 O)) (by exact h52) (by show 0 < n; omega) ?_
       intro w8 hT8
       refine Ops.n ?_
       exact ⟨f4, f5, f6, p0, p1, p2, p3, p4, p5, p6, p9, A51, A', c', b1, _, _, m7, m8f, fun _ => ⟨h52, O⟩, fun h => (nomatch (show true = false from h)), fun _ => O, hT8⟩
      | i + 11, hq, _ => exact (nomatch hq)
     ·intro S e1 w7 hall hI
      obtain ⟨f4, f5, f6, p0, p1, p2, p3, p4, p5, p6, p9, A51, A', c', b1, b3, b4, m7, m8f, m8, m10f, m10, hT⟩ := hI
      obtain ⟨_, rfl⟩ := m8 (hall 8 (by decide))
      obtain rfl := m10 (hall 10 (by decide))
      refine postQ_ext (F := [(4, .pointer A4), (5, .pointer A5)]) ⟨f4, f5, trivial⟩ (Geo O (Ops.ld_agg 0 (hT.rd 0 O) O O O (Ops.st_agg 1 1 hT O O O O O O O ?_)))
      intro w20 hS20
      refine Gdr O (retc_r O (hS20.rd 1 O) ?_)
      exact ⟨n, A, c, ⟨A', n0 + 1, c'⟩ :: rs1, (x0 ++ [(n0 : Int)]) :: xss1, mat 32 2 A n c (⟨A', n0 + 1, c'⟩ :: rs1) ((x0 ++ [(n0 : Int)]) :: xss1), k2, O, by omega, hcap, fun p hp => (List.mem_cons.1 hp).elim (fun h => h ▸ ⟨by simp; omega, fun x hx => (List.mem_append.1 hx).elim ((hsp x0 List.mem_cons_self).2 x) (fun h => by rw [List.mem_singleton] at h; omega)⟩) (fun h => hsp p (List.mem_cons_of_mem _ h)), hK2, fun w'' Y h => St.rowsI h (by simpa using hxl), hS20.tail.tail.sub (List.Sublist.cons_cons _ (List.Sublist.cons_cons _ ((List.Sublist.refl _).append (List.sublist_append_right _ _))))⟩
    ·refine Gac O ?_
     refine Cd.cond_p _ O (fun h5 => ?_) (fun h5 => ?_)
     ·refine Gao O (Ops.fld (hS6.rd 0 O) O O O O inferInstance (Ops.ldf_s (hS6.rd 0 O) O O O O O (Ops.cut_l O O O (by omega) (Ops.fld (hS6.rd 0 O) O O O O inferInstance (Ops.stf 0 hS6 O O O O O ?_)))))
      intro w7 hS7
      refine Gdo O (Ops.ld_agg 0 (hS7.rd 0 O) O O O (Ops.st_agg 1 1 hS7 O O O O O O O ?_))
      intro w20 hS20
      refine Gdr O (retc_r O (hS20.rd 1 O) ?_)
      exact ⟨n - 1, cutAt A c 1, c - 1, rs.drop 1, xss.drop 1, _, k2, O, by omega, by omega, fun p hp => hsp p (List.mem_of_mem_drop hp), hK2, fun w'' Y h => (St.rowsI h hxl).drop1 (by omega) (by omega), hS20.tail.tail⟩
     ·skip
      refine Gao O (Ops.ld_agg 0 (hS6.rd 0 O) O O O (Ops.st_agg 1 1 hS6 O O O O O O O ?_))
      intro w20 hS20
      refine Gdr O (retc_r O (hS20.rd 1 O) ?_)
      exact ⟨n, A, c, rs, xss, _, k2, O, by omega, hcap, hsp, hK2, fun w'' Y h => St.rowsI h hxl, hS20.tail.tail⟩
/-
 Twins, least forms and the draw of the law of posets' flags, walked.
-/
theorem fpF_len (M : List (List Int)) : (fpF M).length = (gl M 0).length := by simp [fpF]
theorem fpF_at {M : List (List Int)} {f : Nat} (hf : f < (gl M 0).length) : gl (fpF M) (f : Int) = flY M.length M f := by
 rw [gl_mem (by rw [fpF_len]; exact hf)]
 simp [fpF, flY]
def AnsTw (M : List (List Int)) (w : World) (v : Value) (w' : World) : Prop :=
 St w w' [] ∧ ((∃ (A : Option Addr) (f g : Nat), f < g ∧ g < (gl M 0).length ∧ flY M.length M f = flY M.length M g ∧ v = .tuple #[.slice A 2 2, .int .i64 0]) ∨ ((∀ f g : Nat, f < g → g < (gl M 0).length → flY M.length M f ≠ flY M.length M g) ∧ v = .tuple #[.slice none 0 0, .int .i64 4]))
theorem TwinFlags_c (A : Option Addr) (n c : Nat) (rs : List SlV) (M : List (List Int)) (w : World) (hR : RowsI w A n rs M) (hn : n ≤ c) (hc : c ≤ 9223372036854775807) (hM : Mani M) :
  Ret Tryz.prog 40 [.agg #[.slice A n c]] w (AnsTw M w) := by
 have hl := hR.len
 have h1 := hM.1
 have h2 := hM.2.1
 have e0 : (rg rs 0).n = (gl M 0).length := (hR.rowLen (by omega) (by omega)).symm
 refine Ret.of_cd Tryz.func40 O Tryz.ntmps40 O (post2 O) (Gbo O (Ops.box1 (St.refl w) O O ?_))
 intro A1 w1 hS1
 refine Gdo O (Ops.ld_agg 0 (hS1.rd 0 O) O O O (Ops.call (isManiplex_c A n c rs M _ (hS1.oldRows hR) hn hc) O O O ?_))
 rintro _ w2 ⟨rfl, hst⟩
 have hS2 := hS1.later hst.below
 first | refine Ops.not_p rfl rfl ?_ | refine Ops.not rfl rfl ?_
 refine Gdc O ?_
 refine Cd.cond_pf O (fun h => h hM) ?_
 refine Gao O (Ops.call (allFaces_c A1 A n c rs M _ (Rd.one (hS2.rd 0 O)) (hS2.oldRows hR) hM) O O O ?_)
 rintro _ w3 ⟨AF, rsF, rfl, hrF, hst⟩
 have hF : RowsI w3 AF (gl M 0).length rsF (fpF M) := by
  rw [List.append_nil] at hst
  exact hst.rowsI1 (fpF_len M)
 have hS3 := hS2.later hst.below
 have hb3 : Rd w3 A1 1 (fun _ => .slice A n c) := Rd.one (hS3.rd 0 O)
 refine Gdo O (Ops.call (flags_c A1 A n c rs M _ _ hb3 O (hS3.oldRows hR) (by omega)) O O O ?_)
 rintro _ w3 ⟨rfl, rfl⟩
 rw [e0]
 refine Gdc O ?_
 refine Cd.loop (α := Nat) (fun f => [(1, .pointer A1), (4, .slice AF (gl M 0).length (gl M 0).length), (11, .int .i64 ((gl M 0).length : Int)), (12, .int .i64 (f : Int))]) (fun f w' => St w3 w' [] ∧ f ≤ (gl M 0).length ∧ ∀ a b : Nat, a < f → a < b → b < (gl M 0).length → flY M.length M a ≠ flY M.length M b) (fun f => (gl M 0).length - f) 0 ⟨O, O, O, O, trivial⟩ ⟨St.refl w3, Nat.zero_le _, fun a b h => absurd h (Nat.not_lt_zero _)⟩ ?_
 rintro f e w4 ⟨hT4, hf, hno⟩
 refine Gbc O ?_
 refine Cd.cond_p _ O (fun hf1 => ?_) (fun hf1 => ?_)
 ·refine Gao O (Ops.add O O O (by omega) (Gdc O ?_))
  refine Cd.loop (α := Nat) (fun g => [(1, .pointer A1), (4, .slice AF (gl M 0).length (gl M 0).length), (5, .int .i64 (f : Int)), (6, .int .i64 (g : Int)), (11, .int .i64 ((gl M 0).length : Int)), (12, .int .i64 (f : Int))]) (fun g w' => St w3 w' [] ∧ f < g ∧ g ≤ (gl M 0).length ∧ ∀ b : Nat, f < b → b < g → flY M.length M f ≠ flY M.length M b) (fun g => (gl M 0).length - g) (f + 1) ⟨O, O, O, O, O, O, trivial⟩ ⟨hT4, by omega, by omega, fun b h h' => by omega⟩ ?_
  rintro g e w5 ⟨hT5, hfg, hg, hno2⟩
  have hb5 := Rd.below hb3 hT5.below
  have hR5 := (hS3.oldRows hR).later hT5.below
  have hF5 := hF.later hT5.below
  refine Gbo O (Ops.call (flags_c A1 A n c rs M _ _ hb5 O hR5 (by omega)) O O O ?_)
  rintro _ w5 ⟨rfl, rfl⟩
  rw [e0]
  refine Gdc O ?_
  refine Cd.cond_p _ O (fun hg1 => ?_) (fun hg1 => ?_)
  ·have hfN : f < (gl M 0).length := by omega
   have hgN : g < (gl M 0).length := by omega
   have hrf := hF5.at_ (i := (f : Int)) (by omega) (by omega)
   have hrg := hF5.at_ (i := (g : Int)) (by omega) (by omega)
   have el : (rg rsF (f : Int)).n ≤ 9223372036854775807 := by
    rw [← hrf.1, fpF_at hfN]
    simp [flY]
    omega
   refine Gac O ?_
   refine Cd.draw [xS (AF) ((gl M 0).length) ((gl M 0).length), xI ((f : Int)), xP (ptrAt (AF) ((f : Int)).toNat), xS ((rg (rsF) ((f : Int))).a) ((rg (rsF) ((f : Int))).n) ((rg (rsF) ((f : Int))).c), xS (AF) ((gl M 0).length) ((gl M 0).length), xI ((g : Int)), xP (ptrAt (AF) ((g : Int)).toNat), xS ((rg (rsF) ((g : Int))).a) ((rg (rsF) ((g : Int))).n) ((rg (rsF) ((g : Int))).c), xB (decide (gl (fpF M) (f : Int) = gl (fpF M) (g : Int)))] (by kernel_rfl) (by kernel_rfl) O (exL O) ?_ ?_
   ·refine ⟨Dr O, Dr O, fun _ _ hb _ _ => Ops.idx (hF5.top.later hb).2 O O O (by omega) (by omega) (Az O), fun _ _ hb _ _ => Ops.ld_sl (hF5.top.later hb) O (by omega) O O (Az O), Dr O, Dr O, fun _ _ hb _ _ => Ops.idx (hF5.top.later hb).2 O O O (by omega) (by omega) (Az O), fun _ _ hb _ _ => Ops.ld_sl (hF5.top.later hb) O (by omega) O O (Az O), ?_, trivial⟩
    intro e1 w1 hb hp hun
    refine Ops.call (Equal_c _ _ _ (gl (fpF M) (f : Int)) _ _ _ (gl (fpF M) (g : Int)) _ (hrf.later hb) (hrg.later hb) el) O O O ?_
    rintro _ w2 ⟨rfl, hst⟩
    refine Ops.n ?_
    exact After.dn hst.below (by exact O)
   intro u w6 hb6 _
   have hT6 := hT5.later hb6
   refine Gec O ?_
   refine Cd.cond_p _ O (fun he => ?_) (fun he => ?_)
   ·rw [fpF_at hfN, fpF_at hgN] at he
    refine Gao O ?_
    refine Ops.bsL [(f : Int), (g : Int)] (St.refl w6) O O (by decide) (by decide) O O ?_
    intro A33 w7 hst7
    refine Gdr O (thenQ_r (Qk_ret (thenQ_r (Qk_ret ?_))))
    refine ret2_si O O ?_
    exact ⟨((hS3.call hT6).call hst7).none, .inl ⟨A33, f, g, hfg, hgN, he, O⟩⟩
   rw [fpF_at hfN, fpF_at hgN] at he
   refine Gao O (Ops.add O O O (by omega) (Gdn O (tQ ?_)))
   refine ⟨g + 1, by show (gl M 0).length - (g + 1) < (gl M 0).length - g; omega, ⟨O, O, O, O, O, O, trivial⟩, hT6, by omega, by omega, fun b h h' => ?_⟩
   by_cases e : b = g
   ·subst e; exact he
   exact hno2 b h (by omega)
  refine Gax O (thenQ_x (Gfo O (Ops.add O O O (by omega) (Gdn O (tQ ?_)))))
  refine ⟨f + 1, by show (gl M 0).length - (f + 1) < (gl M 0).length - f; omega, ⟨O, O, O, O, trivial⟩, hT5, by omega, fun a b h h' h'' => ?_⟩
  by_cases e : a = f
  ·subst e; exact hno2 b h' (by omega)
  exact hno a b (by omega) h' h''
 refine Gax O (thenQ_x (Gfr O ?_))
 refine ret2_si O O ?_
 exact ⟨(hS3.call hT4).none, .inr ⟨fun f' g h h' => hno f' g (by omega) h h', O⟩⟩
theorem least5_c (A : Option Addr) (n c : Nat) (rs : List SlV) (xss : List (List Int)) (B : Option Addr) (m d : Nat) (ts : List SlV) (yss : List (List Int)) (w : World) (hX : RowsI w A n rs xss) (hY : RowsI w B m ts yss) (hMx : Mani xss) (hMy : Mani yss) (hn : n ≤ c) (hc : c ≤ 9223372036854775807) (hm : m ≤ d) (hd : d ≤ 9223372036854775807) :
  Ret Tryz.prog 41 [.agg #[.slice A n c], .agg #[.slice B m d]] w (fun v w' => v = .bool (decide (leastL (gl xss 0).length xss = leastL (gl yss 0).length yss)) ∧ St w w' []) := by
 have h1 := hMx.1
 have h2 := hMy.1
 have hlx := leastL_len (gl xss 0).length xss
 have hly := leastL_len (gl yss 0).length yss
 have hrow : ∀ x ∈ leastL (gl xss 0).length xss, x.length ≤ 9223372036854775806 := fun x hx => by
  obtain ⟨f, hf, e⟩ := least_is hMx rfl
  rw [e] at hx
  have hI := (form_inv hMx O (f := (f : Int)) (by omega) (by omega)).2
  have q := (hI.2.2.1 x hx).1
  have := hI.2.1
  omega
 refine Ret.of_cd Tryz.func41 O Tryz.ntmps41 O (post1 O) (Gbo O (Ops.box1 (St.refl w) O O ?_))
 intro A2 w1 hS1
 refine Ops.box1 hS1 O O ?_
 intro A3 w2 hS2
 refine Gdo O (Ops.ld_agg 0 (hS2.rd 1 O) O O O (Ops.call (LeastForm_c A n c rs xss _ (hS2.oldRows hX) hMx hn hc) O O O ?_))
 rintro _ w3 ⟨Aa, ca, rsa, rfl, hra, hst⟩
 have hLa : RowsI w3 Aa (leastL (gl xss 0).length xss).length rsa (leastL (gl xss 0).length xss) := St.rowsI (ks := []) (by rw [List.append_nil]; exact hst) O
 have hS3 := hS2.later hst.below
 have hA3 := hS3.rd 0 O
 refine Gdo O (Ops.new1 (St.refl w3) O ?_)
 intro A5 w4 hT4
 refine Ops.st_agg 1 0 hT4 O O O O O O O ?_
 intro w5 hT5
 refine Gdo O (Ops.ld_agg 0 (Rd.below hA3 hT5.below) O O O (Ops.call (LeastForm_c B m d ts yss _ ((hS3.oldRows hY).later hT5.below) hMy hm hd) O O O ?_))
 rintro _ w6 ⟨Ab, cb, rsb, rfl, hrb, hst2⟩
 have hLb : RowsI w6 Ab (leastL (gl yss 0).length yss).length rsb (leastL (gl yss 0).length yss) := St.rowsI (ks := []) (by rw [List.append_nil]; exact hst2) O
 have hT6 := hT5.later hst2.below
 have hA5 := hT6.rd 0 O
 refine Gdo O (Ops.new1 (St.refl w6) O ?_)
 intro A7 w7 hU7
 refine Ops.st_agg 1 0 hU7 O O O O O O O ?_
 intro w8 hU8
 refine Gdo O ?_
 refine Ops.split_p 21 O (fun _ => ?_) (fun h => absurd O h)
 refine Ops.g O O O (Gdo O (Ops.g O O O (Gdo O ?_)))
 refine Ops.split_p 25 O (fun _ => ?_) (fun h => absurd O h)
 refine Ops.g O O O (Ops.ld_agg 0 (Rd.below hA5 hU8.below) O O O (Ops.g O O O (Ops.ld_agg 0 (hU8.rd 0 O) O O O (Ops.g O O O (Ops.call (like5_c Aa _ ca rsa (leastL (gl xss 0).length xss) Ab _ cb rsb (leastL (gl yss 0).length yss) _ ((hLa.later hT6.below).later hU8.below) (hLb.later hU8.below) (by omega) hrow) O O O ?_)))))
 rintro _ w9 ⟨rfl, hst9⟩
 refine Gdr O (ret1_b O ?_)
 exact ⟨O, (((hS3.call hT6).call hU8).later hst9.below).none⟩
theorem DrawIsPolytopal_c {w0 w : World} {ks : List Ck} (Ac : Option Addr) (nc cc : Nat) (bs : List Int) (hS : St w0 w ks) (hY : RdY w0 Ac nc bs) (hnc : nc ≤ 1000000) :
  Ret Tryz.prog 38 [.slice Ac nc cc] w (fun v w' => ∃ (n : Nat) (A : Option Addr) (c : Nat) (rs : List SlV) (xss : List (List Int)) (X : List Ck), v = .agg #[.slice A n c] ∧ n ≤ 6 ∧ (n ≤ c ∧ c ≤ 9223372036854775807) ∧ (∀ (w'' : World) (Y : List Ck), St w0 w'' (X ++ Y) → RowsI w'' A n rs xss) ∧ St w0 w' (X ++ ks)) := by
 refine Ret.of_cd Tryz.func38 O Tryz.ntmps38 O (postc O O) (Gbo O (Ops.new1 hS O ?_))
 intro A2 w1 hS1
 refine Gdo O (Ops.call (l01FromG_c Ac nc cc bs w1 (hY.below hS1.below) hnc) O O O ?_)
 rintro _ w2 ⟨As, k0, rfl, hK0, hT⟩
 have hK0 := hK0 w0 hY
 have hS2 : St w0 w2 (k0 :: Bx 24 1 A2 [.slice none 0 0] :: ks) := hS1.call hT
 refine Ops.call (l02Spoil_c 0 24 hS2 O hK0 (by decide)) O O O ?_
 rintro _ w3 ⟨n, A, c, rs, xss, X, k1, rfl, hn, hcap, hb, hK1, hX, hS3⟩
 have hS3 : St w0 w3 (X ++ (k1 :: Bx 24 1 A2 [.slice none 0 0] :: ks)) := hS3
 have hS4 : St w0 w3 (Bx 24 1 A2 [.slice none 0 0] :: (X ++ k1 :: ks)) := hS3.perm (by
  rw [show X ++ (k1 :: Bx 24 1 A2 [.slice none 0 0] :: ks) = (X ++ [k1]) ++ Bx 24 1 A2 [.slice none 0 0] :: ks by simp, show X ++ k1 :: ks = (X ++ [k1]) ++ ks by simp]
  exact List.perm_middle)
 refine Ops.st_agg 1 0 hS4 O O O O O O O ?_
 intro w4 hS5
 refine Gdr O (retc_r O (hS5.rd 0 O) ?_)
 exact ⟨n, A, c, rs, xss, X, O, hn, hcap, hX, hS5.tail.sub (List.Sublist.append_left (List.sublist_cons_self _ _) _)⟩
/-
 The program's IsPolytope. Conditions: the library's table of powers of ten holds what the program's text lays there.
-/
theorem implIsPolytope_c (n : Nat) (A D : Option Addr) (cA cD : Nat) (R : List Int) (rs : List SlV) (B : List (List Int)) (w : World) (hT : Tab w) (hR : RdI w A R.length R) (hB : RowsI w D B.length rs B) (hP : PosP n R B) (hf : (flgP n R B).length ≤ 400) :
  Ret Tryz.prog 24 [.agg #[.int .i64 n, .slice A R.length cA, .slice D B.length cD]] w (fun v w' => ∃ b : Bool, v = .tuple #[.bool b, .int .i64 0] ∧ (b = true ↔ PlyP n R B) ∧ St w w' []) := by
 have hn := hP.n1
 obtain ⟨e1, e2, e3⟩ := mx_few hf
 refine Ret.of_cd Tryz.func24 O Tryz.ntmps24 O (post2 O) (Gbo O (Ops.box3T (St.refl w) O O ?_))
 intro A1 w1 hS1
 refine Gdo O (Ops.ld_agg 2 (hS1.rd 0 O) O O O (Ops.call (flagsOf_c n A D cA cD R rs B _ (hS1.oldI hR) (hS1.oldRows hB) hP) O O O ?_))
 rintro _ w3 ⟨AF, cF, rsF, rfl, hrF, hst⟩
 rw [e2] at hst hrF ⊢
 rw [e1]
 have hF : RowsI w3 AF (flgP n R B).length rsF (flgP n R B) := hst.rowsI O
 have hS3 := hS1.later hst.below
 have hT3 := hT.later hS3.below
 refine Gdo O ?_
 refine Ops.split_p 13 O (fun _ => ?_) (fun h => absurd O h)
 refine Ops.g O O O (Ops.ld_agg 2 (hS3.rd 0 O) O O O ?_)
 refine Ops.g O O O (Gdo O (Ops.g O O O ?_))
 refine Ops.call (isPolytope_c n A D cA cD R rs B AF cF rsF _ hT3 (hS3.oldI hR) (hS3.oldRows hB) hP hF hf) O O O ?_
 rintro _ w4 ⟨b, rfl, hb, hst4⟩
 have hS4 := hS3.later hst4.below
 refine Gdr O (ret2_bi O O ?_)
 exact ⟨b, O, hb, hS4.none⟩
/-
 The program's FacePoset.
-/
theorem implFacePoset_c (A : Option Addr) (n c : Nat) (rs : List SlV) (M : List (List Int)) (w : World) (hR : RowsI w A n rs M) (hn : n ≤ c) (hc : c ≤ 9223372036854775807) (hM : Mani M) (hbig : offP M M.length ≤ 500) :
  Ret Tryz.prog 33 [.agg #[.slice A n c]] w (fun v w' => ∃ AR c AD d, ∃ rs : List SlV, v = .tuple #[.agg #[.int .i64 (M.length : Int), .slice AR (offP M M.length) c, .slice AD (offP M M.length) d], .int .i64 0] ∧ rs.length = offP M M.length ∧ St w w' (CkI 2 AR (offP M M.length) c (fpR M M.length) :: (mat 32 2 AD (offP M M.length) d rs (fpB M) ++ []))) := by
 refine Ret.of_cd Tryz.func33 O Tryz.ntmps33 O (postc2 O O) (Gbo O (Ops.box1 (St.refl w) O O ?_))
 intro A1 w1 hS1
 refine Ops.newP hS1 O ?_
 intro A2 w2 hS2
 refine Gdo O (Ops.ld_agg 0 (hS2.rd 1 O) O O O (Ops.call (isManiplex_c A n c rs M _ (hS2.oldRows hR) hn hc) O O O ?_))
 rintro _ w3 ⟨rfl, hst⟩
 have hS3 := hS2.later hst.below
 first | refine Ops.not_p rfl rfl ?_ | refine Ops.not rfl rfl ?_
 refine Gdc O ?_
 refine Cd.cond_pf O (fun h => h hM) ?_
 refine Gao O (Ops.ld_agg 0 (hS3.rd 1 O) O O O (Ops.call (facePoset_c A n c rs M _ (hS3.oldRows hR) hM) O O O ?_))
 rintro _ w4 (⟨hb, _⟩ | ⟨_, AR, cR, AD, cD, rsD, rfl, hrD, hst4⟩)
 ·omega
 have hS4 := (hS3.call hst4).perm List.perm_append_comm
 refine Gdo O (Ops.newP hS4 O ?_)
 intro A4 w5 hS5
 refine Ops.st_agg 3 0 hS5 O O O O O O O ?_
 intro w6 hS6
 refine Gdo O ?_
 first | refine Ops.not_p rfl rfl ?_ | refine Ops.not rfl rfl ?_
 refine Gdc O (Cd.cond_f O (Gao O (Ops.ld_agg 2 (hS6.rd 0 O) O O O (Ops.st_agg 3 1 hS6 O O O O O O O ?_))))
 intro w7 hS7
 refine Gdr O (retc2_r O (hS7.rd 1 O) O ?_)
 refine ⟨AR, cR, AD, cD, rsD, O, hrD, hS7.sub (show List.Sublist _ (_ :: _ :: _ :: _) from ((List.Sublist.refl _).cons _ |>.cons _ |>.cons _))⟩
/-
 The laws' number of flags.
-/
theorem flags5_c (A : Option Addr) (n c : Nat) (rs : List SlV) (M : List (List Int)) (w : World) (hR : RowsI w A n rs M) (hM : Mani M) :
  Ret Tryz.prog 37 [.agg #[.slice A n c]] w (fun v w' => v = .int .i64 ((gl M 0).length : Int) ∧ St w w' []) := by
 have h1 := hM.1
 have hl := hR.len
 have hr0 : (gl M 0).length = (rg rs 0).n := hR.rowLen (k := 0) (by omega) (by omega)
 refine Ret.of_cd Tryz.func37 O Tryz.ntmps37 O (post1 O) (Gbo O (Ops.box1 (St.refl w) O O ?_))
 intro A1 w1 hS1
 have hb := hS1.rd 0 O
 have hR1 := hS1.oldRows hR
 refine Gdo O (Ops.fld hb O O O O inferInstance (Ops.ldf_s (j := 0) hb (by exact congrArg Value.pointer O) O O O O ?_))
 refine Ops.len O O (Gdc O ?_)
 refine Cd.cond_pf O (by omega) (Gao O (Ops.fld hb O O O O inferInstance (Ops.ldf_s (j := 0) hb (by exact congrArg Value.pointer O) O O O O (Ops.idx hR1.top.2 O O O (by omega) (by omega) (Ops.ld_sl hR1.top O (by omega) O O ?_)))))
 refine Ops.len O O (Gdr O ?_)
 refine ret1_i O ?_
 exact ⟨by rw [hr0], hS1.none⟩
/-
 The law of posets' flags, walked. Conditions: the library's table of powers of ten holds what the program's text lays there.
-/
theorem FnPosetFlags_c (Ac : Option Addr) (nc cc : Nat) (bs : List Int) (w : World) (hT : Tab w) (hY : RdY w Ac nc bs) :
  Ret Tryz.prog 6 [.slice Ac nc cc] w (fun v w' => v = .bool true ∧ St w w' []) := by
 refine Ret.of_cd Tryz.func6 O Tryz.ntmps6 O (post1 O) (Gbo O (Ops.call (big_c Ac nc cc w) O O O ?_))
 rintro _ w1 ⟨rfl, hT1⟩
 refine Gdc O ?_
 refine Cd.cond_p _ O (fun h1 => ?_) (fun h1 => ?_)
 ·refine Gar O (ret1_b O ?_)
  exact ⟨O, hT1⟩
 refine Gao O (Ops.call (DrawIsPolytopal_c Ac nc cc bs (St.refl w1) (hY.below hT1.below) (by omega)) O O O ?_)
 rintro _ w2 ⟨n, A, c, rs, M, X, rfl, hn, hcap, hX, hS2⟩
 have hR := hX w2 [] hS2
 have hT := (hT.later hT1.below).later hS2.below
 have hW := (hT1.call hS2).none
 refine Ops.new1 (St.refl w2) O ?_
 intro A3 w3 hS3
 refine Ops.st_agg 1 0 hS3 O O O O O O O ?_
 intro w4 hS
 have hS : St w2 w4 [Bx 24 1 A3 [.slice A n c]] := hS
 have hR := hS.oldRows hR
 have hT := hT.later hS.below
 have hW : St w w4 [] := (hW.call hS).none
 have hB : Rd w4 A3 1 _ := hS.rd 0 O
 clear hS3 hS2 hX hS
 refine Gdo O (Ops.ld_agg 0 hB O O O (Ops.call (implIsPolytopal_c A n c rs M _ hT hR hcap.1 hcap.2) O O O ?_))
 rintro _ w5 ⟨b, rfl, hb, hst⟩
 have hb_ := hst.below
 have hR := hR.later hb_; have hT := hT.later hb_; have hW := hW.later hb_; have hB := Rd.below hB hb_
 clear hst
 refine Gdo O (Ops.ld_agg 0 hB O O O (Ops.call (specIsPolytopal_c A n c rs M _ hR (by omega)) O O O ?_))
 rintro _ w6 ⟨b2, rfl, hb2, hst⟩
 have hb_ := hst.below
 have hR := hR.later hb_; have hT := hT.later hb_; have hW := hW.later hb_; have hB := Rd.below hB hb_
 clear hst
 obtain rfl : b2 = b := Bool.eq_iff_iff.2 (hb2.trans hb.symm)
 clear hb2
 refine Gdo O ?_
 refine Ops.split_p 35 O (fun h => absurd O h) (fun _ => ?_)
 refine Ops.g O O O (Gdo O (Ops.g O O O (Gdo O (Ops.g O O O ?_))))
 refine Ops.neqB O O O (Gdc O ?_)
 refine Cd.cond_f (by rw [beq_self_eq_true]; rfl) ?_
 refine Gac O ?_
 refine Cd.cond_p _ O (fun h2 => ?_) (fun h2 => ?_)
 ·refine Gar O (ret1_b O ?_)
  exact ⟨O, hW⟩
 have h2 := Decidable.not_not.1 h2
 have hM : Mani M := Classical.byContradiction fun h => by
  rw [if_neg h] at h2
  omega
 rw [if_pos hM] at h2
 have hlim : ¬ (500 < offP M M.length ∨ 400 < (flM M).length) := fun h => by
  unfold ptC at h2
  rw [if_pos h] at h2
  omega
 have hoff : offP M M.length ≤ 500 := by omega
 have hfl : (flM M).length ≤ 400 := by omega
 have hfl' : (flgP M.length (fpR M M.length) (fpB M)).length ≤ 400 := hfl
 have hP := posP_of hM hoff
 have hM5 := hM.1
 have hxl := hR.len
 have hRl := fpR_len M M.length
 have hBl := fpB_len M
 obtain ⟨k1, k2, k3⟩ := mx_few hfl'
 have hbG : b2 = true ↔ GoodP M := hb.trans ⟨fun h => h.2, fun h => ⟨hM, h⟩⟩
 rw [if_pos hM, h2]
 clear hb
 refine Gao O (Ops.ld_agg 0 hB O O O (Ops.call (implFacePoset_c A n c rs M _ hR hcap.1 hcap.2 hM hoff) O O O ?_))
 rintro _ w7 ⟨AR, cR, AD, cD, rsD, rfl, hrD, hst⟩
 have hR7 : RdI w7 AR (fpR M M.length).length (fpR M M.length) := by rw [hRl]; exact hst.rdI 0 O
 have hB7 : RowsI w7 AD (fpB M).length rsD (fpB M) := by
  rw [hBl]
  have h9 := hst.sub (List.sublist_cons_self _ _)
  rw [List.append_nil] at h9
  exact h9.rowsI1 hBl
 have hb_ := hst.below
 have hR := hR.later hb_; have hT := hT.later hb_; have hW := hW.later hb_; have hB := Rd.below hB hb_
 clear hst
 refine Gdo O (Ops.newP (St.refl w7) O ?_)
 intro A8 w8 hU
 refine Ops.st_agg 3 0 hU O O O O O O O ?_
 intro w9 hU
 have hU : St w7 w9 [poB A8 (M.length : Int) AR (offP M M.length) cR AD (offP M M.length) cD] := hU
 have hPo : Rd w9 A8 3 _ := hU.rd 0 O
 have hb_ := hU.below
 have hR := hR.later hb_; have hT := hT.later hb_; have hW := hW.later hb_; have hB := Rd.below hB hb_; have hR7 := hR7.later hb_; have hB7 := hB7.later hb_
 clear hU
 refine Gdo O (Ops.ld_agg 2 hPo O O O ?_)
 refine Ops.call (implFlagsOf_c M.length AR AD cR cD (fpR M M.length) rsD (fpB M) _ hR7 hB7 hP) O (by rw [hRl, hBl]; rfl) O ?_
 rintro _ w10 ⟨AF, cF, rsF, rfl, hrF, hst⟩
 rw [k1, k2]
 have hb_ := hst.below
 have hR := hR.later hb_; have hT := hT.later hb_; have hW := hW.later hb_; have hB := Rd.below hB hb_; have hR7 := hR7.later hb_; have hB7 := hB7.later hb_; have hPo := Rd.below hPo hb_
 clear hst
 refine Gdo O (Ops.ld_agg 0 hB O O O (Ops.call (TwinFlags_c A n c rs M _ hR hcap.1 hcap.2 hM) O O O ?_))
 rintro _ w11 ⟨hst, htw⟩
 have hb_ := hst.below
 have hR := hR.later hb_; have hT := hT.later hb_; have hW := hW.later hb_; have hB := Rd.below hB hb_; have hR7 := hR7.later hb_; have hB7 := hB7.later hb_; have hPo := Rd.below hPo hb_
 clear hst
 by_cases hG : GoodP M
 ·
  obtain rfl : b2 = true := hbG.2 hG
  have hply : PlyP M.length (fpR M M.length) (fpB M) := hG.2.2
  have hN : (flM M).length = (gl M 0).length := hG.2.1
  have hPly := good_ply hM hG
  rcases htw with ⟨A', f, g, hfg, hg, he, rfl⟩ | ⟨hno, rfl⟩
  ·exact absurd (flY_inj hM hN (by omega) hg he) (by omega)
  refine Gdo O ?_
  refine Ops.split_p 59 O (fun h => absurd O h) (fun _ => ?_)
  refine Ops.g O O O (Gdo O (Ops.g O O O (Gdc O ?_)))
  refine Cd.cond_f O (Gao O ?_)
  refine Ops.split_p 65 O (fun h => absurd h (by decide)) (fun _ => ?_)
  refine Ops.k O O O O O (Ops.k O O O O O (Ops.k O O O O O (Ops.k O O O O O (Ops.skipu O O O O (Ops.k O O O O O (Gdc O ?_))))))
  refine Cd.cond_f O (Gao O (Ops.ld_agg 2 hPo O O O ?_))
  refine Ops.call (implManiplexOf_c M.length AR AD cR cD (fpR M M.length) rsD (fpB M) _ hT hR7 hB7 hP hfl') O (by rw [hRl, hBl]; rfl) O ?_
  rintro _ w12 hans
  obtain ⟨Am, cm, rsm, rfl, hrm, hst⟩ := (hans.resolve_right fun h => h.1 hply).2
  have hcm := (hst.cap 0 O)
  have hMm : RowsI w12 Am (mnP M.length (flgP M.length (fpR M M.length) (fpB M))).length rsm (mnP M.length (flgP M.length (fpR M M.length) (fpB M))) := St.rowsI (ks := []) (by rw [List.append_nil]; exact hst) O
  have hb_ := hst.below
  have hR := hR.later hb_; have hT := hT.later hb_; have hW := hW.later hb_; have hB := Rd.below hB hb_; have hR7 := hR7.later hb_; have hB7 := hB7.later hb_; have hPo := Rd.below hPo hb_
  clear hst
  refine Gdo O (Ops.new1 (St.refl w12) O ?_)
  intro A14 w13 hU
  refine Ops.st_agg 1 0 hU O O O O O O O ?_
  intro w14 hU
  have hK : Rd w14 A14 1 _ := hU.rd 0 O
  have hb_ := hU.below
  have hR := hR.later hb_; have hT := hT.later hb_; have hW := hW.later hb_; have hB := Rd.below hB hb_; have hR7 := hR7.later hb_; have hB7 := hB7.later hb_; have hPo := Rd.below hPo hb_; have hMm := hMm.later hb_
  clear hU
  refine Gdo O (Ops.ld_agg 2 hPo O O O ?_)
  refine Ops.call (implIsPolytope_c M.length AR AD cR cD (fpR M M.length) rsD (fpB M) _ hT hR7 hB7 hP hfl') O (by rw [hRl, hBl]; rfl) O ?_
  rintro _ w15 ⟨b3, rfl, hb3, hst⟩
  obtain rfl : b3 = true := hb3.2 hply
  have hb_ := hst.below
  have hR := hR.later hb_; have hW := hW.later hb_; have hB := Rd.below hB hb_; have hMm := hMm.later hb_; have hK := Rd.below hK hb_
  clear hst
  refine Gdo O ?_
  refine Ops.split_p 85 O (fun h => absurd O h) (fun _ => ?_)
  refine Ops.g O O O (Gdo O (Ops.g O O O (Gdo O (Ops.g O O O (Gdo O (Ops.g O O O ?_))))))
  refine Ops.neqB O O O (Gdo O ?_)
  refine Ops.split 91 O (fun h => absurd h (by decide)) (fun _ => ?_)
  refine Ops.g O O O (Gdo O (Ops.g O O O (Gdo O (Ops.g O O O (Gdo O ?_)))))
  refine Ops.split 94 O (fun _ => ?_) (fun h => absurd h (by decide))
  refine Ops.g O O O (Gdo O (Ops.g O O O (Ops.len O O (Ops.g O O O ?_))))
  refine Ops.ld_agg 0 hB O O O (Ops.g O O O (Ops.call (flags5_c A n c rs M _ hR hM) O O O ?_))
  rintro _ w16 ⟨rfl, hst⟩
  have hb_ := hst.below
  have hR := hR.later hb_; have hW := hW.later hb_; have hB := Rd.below hB hb_; have hMm := hMm.later hb_; have hK := Rd.below hK hb_
  clear hst
  refine Ops.g O O O (Gdo O (Ops.g O O O (Gdo O (Ops.g O O O ?_))))
  refine Ops.neqB O O O (Gdc O ?_)
  have hNe : decide (((flgP M.length (fpR M M.length) (fpB M)).length : Int) = ((gl M 0).length : Int)) = true := decide_eq_true (by show ((flM M).length : Int) = _; rw [hN])
  refine Cd.cond_f (by exact congrArg (fun b => Value.bool (!(true == b))) hNe) ?_
  refine Gao O ?_
  first | refine Ops.not_p rfl rfl ?_ | refine Ops.not rfl rfl ?_
  refine Gdo O ?_
  refine Ops.split 105 O (fun h => absurd h (by decide)) (fun _ => ?_)
  refine Ops.g O O O (Gdo O (Ops.g O O O (Gdo O (Ops.g O O O (Gdo O ?_)))))
  refine Ops.split_p 108 O (fun _ => ?_) (fun h => absurd O h)
  refine Ops.g O O O (Ops.ld_agg 0 hK O O O (Ops.g O O O (Ops.ld_agg 0 hB O O O (Ops.g O O O ?_))))
  refine Ops.call (least5_c Am _ cm rsm (mnP M.length (flgP M.length (fpR M M.length) (fpB M))) A n c rs M _ hMm hR hPly.mani hM hcm.1 (by have := hcm.2; simp only [maxLen] at this; omega) hcap.1 hcap.2) O O O ?_
  rintro _ w17 ⟨rfl, hst⟩
  refine Ops.g O O O (Gdr O ?_)
  refine ret1_b O ?_
  refine ⟨congrArg Value.bool (decide_eq_true ?_), hW.later hst.below⟩
  have := good_least hM hG
  have e1 : (gl (mnP M.length (flgP M.length (fpR M M.length) (fpB M))) 0).length = (gl M 0).length := by rw [hPly.nl]; exact hN
  rw [e1]
  exact this
 obtain rfl : b2 = false := Bool.eq_false_iff.2 fun h => hG (hbG.1 h)
 rcases htw with ⟨A', f, g, hfg, hg, he, rfl⟩ | ⟨hno, rfl⟩
 ·refine Gdo O ?_
  refine Ops.split_p 59 O (fun h => absurd O h) (fun _ => ?_)
  refine Ops.g O O O (Gdo O (Ops.g O O O (Gdc O ?_)))
  refine Cd.cond_f O (Gao O ?_)
  refine Ops.split_p 65 O (fun _ => ?_) (fun h => absurd O h)
  refine Ops.g O O O (Gdo O (Ops.g O O O (Ops.len O O (Ops.g O O O (Gdo O (Ops.g O O O (Gdo O ?_)))))))
  refine Ops.split_p 69 O (fun h => absurd O h) (fun _ => ?_)
  refine Ops.g O O O (Gdo O (Ops.g O O O (Gdc O ?_)))
  refine Cd.cond_f O (Gao O (Ops.ld_agg 2 hPo O O O ?_))
  refine Ops.call (implManiplexOf_c M.length AR AD cR cD (fpR M M.length) rsD (fpB M) _ hT hR7 hB7 hP hfl') O (by rw [hRl, hBl]; rfl) O ?_
  rintro _ w12 (⟨hply, Am, cm, rsm, rfl, hrm, hst⟩ | ⟨hbad, Am, cm, rsm, rfl, hrm, hst⟩)
  ·have hb_ := hst.below
   have hR := hR.later hb_; have hT := hT.later hb_; have hW := hW.later hb_; have hB := Rd.below hB hb_; have hR7 := hR7.later hb_; have hB7 := hB7.later hb_; have hPo := Rd.below hPo hb_
   clear hst
   refine Gdo O (Ops.new1 (St.refl w12) O ?_)
   intro A14 w13 hU
   refine Ops.st_agg 1 0 hU O O O O O O O ?_
   intro w14 hU
   have hb_ := hU.below
   have hR := hR.later hb_; have hT := hT.later hb_; have hW := hW.later hb_; have hB := Rd.below hB hb_; have hR7 := hR7.later hb_; have hB7 := hB7.later hb_; have hPo := Rd.below hPo hb_
   clear hU
   refine Gdo O (Ops.ld_agg 2 hPo O O O ?_)
   refine Ops.call (implIsPolytope_c M.length AR AD cR cD (fpR M M.length) rsD (fpB M) _ hT hR7 hB7 hP hfl') O (by rw [hRl, hBl]; rfl) O ?_
   rintro _ w15 ⟨b3, rfl, hb3, hst⟩
   obtain rfl : b3 = true := hb3.2 hply
   have hb_ := hst.below
   have hR := hR.later hb_; have hW := hW.later hb_; have hB := Rd.below hB hb_
   clear hst
   refine Gdo O ?_
   refine Ops.split_p 85 O (fun h => absurd O h) (fun _ => ?_)
   refine Ops.g O O O (Gdo O (Ops.g O O O (Gdo O (Ops.g O O O (Gdo O (Ops.g O O O ?_))))))
   refine Ops.neqB O O O (Gdo O ?_)
   refine Ops.split 91 O (fun h => absurd h (by decide)) (fun _ => ?_)
   refine Ops.g O O O (Gdo O (Ops.g O O O (Gdo O (Ops.g O O O (Gdo O ?_)))))
   refine Ops.split 94 O (fun _ => ?_) (fun h => absurd h (by decide))
   refine Ops.g O O O (Gdo O (Ops.g O O O (Ops.len O O (Ops.g O O O ?_))))
   refine Ops.ld_agg 0 hB O O O (Ops.g O O O (Ops.call (flags5_c A n c rs M _ hR hM) O O O ?_))
   rintro _ w16 ⟨rfl, hst⟩
   have hW := hW.later hst.below
   have hne : ¬ ((flgP M.length (fpR M M.length) (fpB M)).length : Int) = ((gl M 0).length : Int) := fun q => hG ⟨hoff, by show (flgP M.length (fpR M M.length) (fpB M)).length = _; omega, hply⟩
   refine Ops.g O O O (Gdo O (Ops.g O O O (Gdo O (Ops.g O O O ?_))))
   refine Ops.neqB O O O (Gdc O ?_)
   refine Cd.cond_f (by rw [decide_eq_false hne]; rfl) ?_
   refine Gao O ?_
   first | refine Ops.not_p rfl rfl ?_ | refine Ops.not rfl rfl ?_
   refine Gdo O ?_
   refine Ops.split 105 O (fun _ => ?_) (fun h => absurd h (by decide))
   refine Ops.k O O O O O (Ops.k O O O O O (Ops.k O O O O O (Ops.skipu O O O O (Ops.skipu O O O O (Ops.skipu O O O O (Ops.k O O O O O (Gdr O ?_)))))))
   refine ret1_b O ?_
   exact ⟨O, hW⟩
  have hb_ := hst.below
  have hR := hR.later hb_; have hT := hT.later hb_; have hW := hW.later hb_; have hB := Rd.below hB hb_; have hR7 := hR7.later hb_; have hB7 := hB7.later hb_; have hPo := Rd.below hPo hb_
  clear hst
  refine Gdo O (Ops.new1 (St.refl w12) O ?_)
  intro A14 w13 hU
  refine Ops.st_agg 1 0 hU O O O O O O O ?_
  intro w14 hU
  have hb_ := hU.below
  have hR := hR.later hb_; have hT := hT.later hb_; have hW := hW.later hb_; have hB := Rd.below hB hb_; have hR7 := hR7.later hb_; have hB7 := hB7.later hb_; have hPo := Rd.below hPo hb_
  clear hU
  refine Gdo O (Ops.ld_agg 2 hPo O O O ?_)
  refine Ops.call (implIsPolytope_c M.length AR AD cR cD (fpR M M.length) rsD (fpB M) _ hT hR7 hB7 hP hfl') O (by rw [hRl, hBl]; rfl) O ?_
  rintro _ w15 ⟨b3, rfl, hb3, hst⟩
  obtain rfl : b3 = false := Bool.eq_false_iff.2 fun h => hbad (hb3.1 h)
  have hb_ := hst.below
  have hR := hR.later hb_; have hW := hW.later hb_; have hB := Rd.below hB hb_
  clear hst
  refine Gdo O ?_
  refine Ops.split_p 85 O (fun h => absurd O h) (fun _ => ?_)
  refine Ops.g O O O (Gdo O (Ops.g O O O (Gdo O (Ops.g O O O (Gdo O (Ops.g O O O ?_))))))
  refine Ops.neqB O O O (Gdo O ?_)
  refine Ops.split 91 O (fun h => absurd h (by decide)) (fun _ => ?_)
  refine Ops.g O O O (Gdo O (Ops.g O O O (Gdo O (Ops.g O O O (Gdo O ?_)))))
  refine Ops.split 94 O (fun h => absurd h (by decide)) (fun _ => ?_)
  refine Ops.k O O O O O (Ops.k O O O O O (Ops.k O O O O O (Ops.k O O O O O (Ops.k O O O O O (Ops.g O O O (Gdo O (Ops.g O O O ?_)))))))
  refine Ops.neqB O O O (Gdc O (Cd.cond_f O (Gao O ?_)))
  first | refine Ops.not_p rfl rfl ?_ | refine Ops.not rfl rfl ?_
  refine Gdo O ?_
  refine Ops.split 105 O (fun _ => ?_) (fun h => absurd h (by decide))
  refine Ops.k O O O O O (Ops.k O O O O O (Ops.k O O O O O (Ops.skipu O O O O (Ops.skipu O O O O (Ops.skipu O O O O (Ops.k O O O O O (Gdr O ?_)))))))
  refine ret1_b O ?_
  exact ⟨O, hW⟩
 refine Gdo O ?_
 refine Ops.split_p 59 O (fun h => absurd O h) (fun _ => ?_)
 refine Ops.g O O O (Gdo O (Ops.g O O O (Gdc O ?_)))
 refine Cd.cond_f O (Gao O ?_)
 refine Ops.split_p 65 O (fun h => absurd h (by decide)) (fun _ => ?_)
 refine Ops.k O O O O O (Ops.k O O O O O (Ops.k O O O O O (Ops.k O O O O O (Ops.skipu O O O O (Ops.k O O O O O (Gdc O ?_))))))
 refine Cd.cond_f O (Gao O (Ops.ld_agg 2 hPo O O O ?_))
 refine Ops.call (implManiplexOf_c M.length AR AD cR cD (fpR M M.length) rsD (fpB M) _ hT hR7 hB7 hP hfl') O (by rw [hRl, hBl]; rfl) O ?_
 rintro _ w12 (⟨hply, Am, cm, rsm, rfl, hrm, hst⟩ | ⟨hbad, Am, cm, rsm, rfl, hrm, hst⟩)
 ·have hb_ := hst.below
  have hR := hR.later hb_; have hT := hT.later hb_; have hW := hW.later hb_; have hB := Rd.below hB hb_; have hR7 := hR7.later hb_; have hB7 := hB7.later hb_; have hPo := Rd.below hPo hb_
  clear hst
  refine Gdo O (Ops.new1 (St.refl w12) O ?_)
  intro A14 w13 hU
  refine Ops.st_agg 1 0 hU O O O O O O O ?_
  intro w14 hU
  have hb_ := hU.below
  have hR := hR.later hb_; have hT := hT.later hb_; have hW := hW.later hb_; have hB := Rd.below hB hb_; have hR7 := hR7.later hb_; have hB7 := hB7.later hb_; have hPo := Rd.below hPo hb_
  clear hU
  refine Gdo O (Ops.ld_agg 2 hPo O O O ?_)
  refine Ops.call (implIsPolytope_c M.length AR AD cR cD (fpR M M.length) rsD (fpB M) _ hT hR7 hB7 hP hfl') O (by rw [hRl, hBl]; rfl) O ?_
  rintro _ w15 ⟨b3, rfl, hb3, hst⟩
  obtain rfl : b3 = true := hb3.2 hply
  have hb_ := hst.below
  have hR := hR.later hb_; have hW := hW.later hb_; have hB := Rd.below hB hb_
  clear hst
  refine Gdo O ?_
  refine Ops.split_p 85 O (fun h => absurd O h) (fun _ => ?_)
  refine Ops.g O O O (Gdo O (Ops.g O O O (Gdo O (Ops.g O O O (Gdo O (Ops.g O O O ?_))))))
  refine Ops.neqB O O O (Gdo O ?_)
  refine Ops.split 91 O (fun h => absurd h (by decide)) (fun _ => ?_)
  refine Ops.g O O O (Gdo O (Ops.g O O O (Gdo O (Ops.g O O O (Gdo O ?_)))))
  refine Ops.split 94 O (fun _ => ?_) (fun h => absurd h (by decide))
  refine Ops.g O O O (Gdo O (Ops.g O O O (Ops.len O O (Ops.g O O O ?_))))
  refine Ops.ld_agg 0 hB O O O (Ops.g O O O (Ops.call (flags5_c A n c rs M _ hR hM) O O O ?_))
  rintro _ w16 ⟨rfl, hst⟩
  have hW := hW.later hst.below
  have hne : ¬ ((flgP M.length (fpR M M.length) (fpB M)).length : Int) = ((gl M 0).length : Int) := fun q => hG ⟨hoff, by show (flgP M.length (fpR M M.length) (fpB M)).length = _; omega, hply⟩
  refine Ops.g O O O (Gdo O (Ops.g O O O (Gdo O (Ops.g O O O ?_))))
  refine Ops.neqB O O O (Gdc O ?_)
  refine Cd.cond_f (by rw [decide_eq_false hne]; rfl) ?_
  refine Gao O ?_
  first | refine Ops.not_p rfl rfl ?_ | refine Ops.not rfl rfl ?_
  refine Gdo O ?_
  refine Ops.split 105 O (fun _ => ?_) (fun h => absurd h (by decide))
  refine Ops.k O O O O O (Ops.k O O O O O (Ops.k O O O O O (Ops.skipu O O O O (Ops.skipu O O O O (Ops.skipu O O O O (Ops.k O O O O O (Gdr O ?_)))))))
  refine ret1_b O ?_
  exact ⟨O, hW⟩
 have hb_ := hst.below
 have hR := hR.later hb_; have hT := hT.later hb_; have hW := hW.later hb_; have hB := Rd.below hB hb_; have hR7 := hR7.later hb_; have hB7 := hB7.later hb_; have hPo := Rd.below hPo hb_
 clear hst
 refine Gdo O (Ops.new1 (St.refl w12) O ?_)
 intro A14 w13 hU
 refine Ops.st_agg 1 0 hU O O O O O O O ?_
 intro w14 hU
 have hb_ := hU.below
 have hR := hR.later hb_; have hT := hT.later hb_; have hW := hW.later hb_; have hB := Rd.below hB hb_; have hR7 := hR7.later hb_; have hB7 := hB7.later hb_; have hPo := Rd.below hPo hb_
 clear hU
 refine Gdo O (Ops.ld_agg 2 hPo O O O ?_)
 refine Ops.call (implIsPolytope_c M.length AR AD cR cD (fpR M M.length) rsD (fpB M) _ hT hR7 hB7 hP hfl') O (by rw [hRl, hBl]; rfl) O ?_
 rintro _ w15 ⟨b3, rfl, hb3, hst⟩
 obtain rfl : b3 = false := Bool.eq_false_iff.2 fun h => hbad (hb3.1 h)
 have hb_ := hst.below
 have hR := hR.later hb_; have hW := hW.later hb_; have hB := Rd.below hB hb_
 clear hst
 refine Gdo O ?_
 refine Ops.split_p 85 O (fun h => absurd O h) (fun _ => ?_)
 refine Ops.g O O O (Gdo O (Ops.g O O O (Gdo O (Ops.g O O O (Gdo O (Ops.g O O O ?_))))))
 refine Ops.neqB O O O (Gdo O ?_)
 refine Ops.split 91 O (fun h => absurd h (by decide)) (fun _ => ?_)
 refine Ops.g O O O (Gdo O (Ops.g O O O (Gdo O (Ops.g O O O (Gdo O ?_)))))
 refine Ops.split 94 O (fun h => absurd h (by decide)) (fun _ => ?_)
 refine Ops.k O O O O O (Ops.k O O O O O (Ops.k O O O O O (Ops.k O O O O O (Ops.k O O O O O (Ops.g O O O (Gdo O (Ops.g O O O ?_)))))))
 refine Ops.neqB O O O (Gdc O (Cd.cond_f O (Gao O ?_)))
 first | refine Ops.not_p rfl rfl ?_ | refine Ops.not rfl rfl ?_
 refine Gdo O ?_
 refine Ops.split 105 O (fun _ => ?_) (fun h => absurd h (by decide))
 refine Ops.k O O O O O (Ops.k O O O O O (Ops.k O O O O O (Ops.skipu O O O O (Ops.skipu O O O O (Ops.skipu O O O O (Ops.k O O O O O (Gdr O ?_)))))))
 refine ret1_b O ?_
 exact ⟨O, hW⟩
end Go.Proofs.YtopgfgdgfjddpaaGreatDoor.Vc
/-
 A statement's frame: the arguments opened, and what a walk gives told in the statement's own words.
-/
namespace Go.Proofs.YtopgfgdgfjddpaaGreatDoor.Vc
open Go.RowKit Go.ChangeShapes Go.WideShapes
theorem laid : laidOutB Tryz.prog = true := by kernel_rfl
theorem own : ownKnob Tryz.prog.godebug = none := by kernel_rfl
section
variable {H : Type} {enc : TypeId × Value → H} {P : Program}
theorem trodAll_stays (hl : laidOutB P = true) {W W' : World} (hb : Below W.heap.size W W') {sp : Nat → Bool} : ∀ {ts : List TypeId} {vs : List Value} {ds : List (DataW H)} {ps : List MemPlace}, (ts.all fun t => P.readableRec t && Nat.blt t P.types.size) = true → (∀ p ∈ ps, p.block < W.heap.size) → (∀ p ∈ ps, sp p.block = true) →
  DataW.TrodAll enc P W 0 (fun _ => true) true ts vs ds ps → DataW.TrodAll enc P W' 0 sp true ts vs ds ps
 | [], [], [], _, _, _, _, h => h
 | t :: ts, v :: vs, d :: ds, ps, hr, hlt, hsp, h => by
  obtain ⟨p, q, h1, h2, rfl⟩ := h
  simp only [List.all_cons, Bool.and_eq_true] at hr
  exact ⟨p, q, WideElems.Trod_stays hl hr.1.1 (by simpa [Nat.blt_eq] using hr.1.2) h1 (fun x hx => hb.same (hlt x (by simp [hx]))) (fun x hx => hsp x (by simp [hx])), trodAll_stays hl hb hr.2 (fun x hx => hlt x (by simp [hx])) (fun x hx => hsp x (by simp [hx])) h2, O⟩
 | [], [], _ :: _, _, _, _, _, h => h.elim
 | [], _ :: _, _, _, _, _, _, h => by cases h
 | _ :: _, [], _, _, _, _, _, h => by cases h
 | _ :: _, _ :: _, [], _, _, _, _, h => by cases h
theorem post_law {f : Func} {s : ChangeSpec} {apart : Bool} {W W' : World} {args : Array Value} {ds gs : List (DataW H)} {before : List MemPlace} (hl : laidOutB P = true) {b : TypeId} (hu : P.underlying b = some .bool) (hres : f.resultTypes = #[b]) (hv : s.vars = [])
    (hr : (f.params.toList.all fun t => P.readableRec t && Nat.blt t P.types.size) = true) (hfn : (s.fn H (ds ++ gs)).results = [.lit (.bool true)] ∧ (s.fn H (ds ++ gs)).args = ds ∧ (s.fn H (ds ++ gs)).vars = [])
    (hW : DataW.Whole enc P f.params.toList s.vars apart W args.toList ds gs before) (hb : Below W.heap.size W W') : s.post enc P f apart true false false W args (.bool true) W' := by
  have hlt : ∀ x ∈ before, x.block < W.heap.size := fun x hx => hW.lt x hx
  have hW0 := hW
  obtain ⟨p, q, hA, hV, rfl, hz, hn⟩ := hW
  rw [hv] at hV
  obtain ⟨rfl, rfl⟩ := trodVars_none hV
  have hlp : ∀ x ∈ p, x.block < W.heap.size := fun x hx => hlt x (by simp [hx])
  have hA' : ∀ sp : Nat → Bool, (∀ x ∈ p, sp x.block = true) → DataW.TrodAll enc P W' 0 sp true f.params.toList args.toList (s.fn H (ds ++ [])).args p := fun sp hsp => by
    rw [hfn.2.1]
    exact trodAll_stays hl hb hr hlp hsp hA
  have hR' : ∀ (b0 : Nat) (sp : Nat → Bool) (hd : Bool), DataW.TrodAll enc P W' b0 sp hd f.resultTypes.toList ((Value.bool true).resultList f.resultTypes.size) (s.fn H (ds ++ [])).results [] := fun b0 sp hd => by
    rw [hfn.1, hres]
    exact trodAll_cons_mk (shut_bool hu _) trodAll_mk0
  have hV' : ∀ sp : Nat → Bool, DataW.TrodVars enc P W' sp s.vars (s.fn H (ds ++ [])).vars [] := fun sp => by
    rw [hfn.2.2, hv]; rfl
  refine ⟨ds, [], p ++ [], [], p, [], hW0, hR' _ _ _, hA' _ (fun x hx => by simpa using hlp x hx), hV' _, World.keptBut_mono (fun x hx => ⟨hx, by simpa using hx⟩) (hb.frame (· ∈ p ++ [])), fun _ => ⟨fun j t r h1 h2 => ?_, _, _, ([] ++ p) ++ [], ⟨[] ++ p, [], trodAll_append (hA' _ fun _ _ => O) (hR' _ _ _), hV' _, O, fun c off hc => ?_, fun ha => by simpa using hn ha⟩, fun x hx _ => by simpa using hx⟩⟩
  · rw [hres] at h1 h2
    cases j with
    | zero =>
      simp at h1
      subst h1
      simp [Value.resultList] at h2
      subst h2
      exact okWide_bool_mk hu _
    | succ j => simp at h1
  · have hin : MemPlace.cell c off ∈ p ++ [] := by simpa using hc
    rw [hb.frozen (hlt _ hin)]
    exact hz c off hin
end
/-
 Arguments opened: a struct of one matrix, a list of integers.
-/
section
variable {H : Type} {enc : TypeId × Value → H} {P : Program}
end
/-
 An argument that is a list of bytes, opened. Conditions: as stated.
-/
section
variable {H : Type} {enc : TypeId × Value → H} {P : Program}
theorem open_ybs {w : World} {r : Go.Reach} {b0 : Nat} {t e : TypeId} {v : Value} {d : DataW H} {p : List MemPlace} (ht : P.underlying t = some (.slice e)) (he : P.underlying e = some (.int .u8)) (ce : P.cellsOf e = 1) (hval : Value.okWide P w r b0 t v) (h : DataW.Trod enc P w 0 (fun _ => true) true t v d p) : ∃ A n c bs, v = .slice A n c ∧ RdY w A n bs ∧ n ≤ c ∧ c ≤ 9223372036854775807 := by
 obtain ⟨a, len, cap, rfl⟩ := okWide_slice ht hval
 obtain ⟨fuel, hf⟩ := h
 have hcs : (Value.slice a len cap).cells.toList = [Value.slice a len cap] := O
 rw [hcs] at hf
 rcases open_ints ht he ce hf with ⟨h1, _⟩ | ⟨b, n, c, zs, h1, _, hl, hm, hz, _, hc, hwz⟩
 ·simp only [List.cons.injEq, and_true] at h1
  exact ⟨none, 0, 0, [], h1, ⟨O, fun x hx => (nomatch hx), fun k hk => absurd hk (Nat.not_lt_zero _)⟩, Nat.le_refl _, by omega⟩
 simp only [List.cons.injEq, and_true] at h1
 rw [if_pos rfl] at hz
 refine ⟨some b, n, c, zs.take n, h1, ⟨?_, fun x hx => ?_, fun k hk => ?_⟩, hl, by simpa [maxLen] using hm⟩
 ·simp; omega
 ·have := hwz x (List.mem_of_mem_take hx)
  simpa [Lit.wf, IntKind.min, IntKind.max, IntKind.signed, IntKind.bits] using this
 refine ⟨b.add k, O, ?_⟩
 rw [hc k (by omega)]
 simp [List.getD_eq_getElem?_getD, List.getElem?_take, hk]
end
end Go.Proofs.YtopgfgdgfjddpaaGreatDoor.Vc
