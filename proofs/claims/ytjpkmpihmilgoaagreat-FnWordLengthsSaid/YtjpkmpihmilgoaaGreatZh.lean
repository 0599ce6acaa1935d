/-
  The texts Srf, K2, D6, K3, K4, Anx, K5, Di, Two, Cs8, Cs9, Uni, Dj, Dk, Dl, Wl3, Wl1, C9, C11, E1, E2, E3 in one. Conditions: as each part states them.
-/
import Derived.Test.YtjpkmpihmilgoaaGreatLayc
import Derived.Shelf.SlSortCmp.NoneTotal
import Derived.Test.YtjpkmpihmilgoaaGreatZc
import Derived.Test.YtjpkmpihmilgoaaGreatZg
import Derived.Test.YtjpkmpihmilgoaaGreatZf
import Derived.Test.YtjpkmpihmilgoaaGreatZa
import Derived.Test.YtjpkmpihmilgoaaGreatZd
import Derived.Test.YtjpkmpihmilgoaaGreatZb
import Derived.Test.YtjpkmpihmilgoaaGreatZe
/-
 The library's sort by a function, of a row of one's own whose elements are structs of one slice. Conditions: the function's contract, and that it is a strict weak order.
-/
namespace Go.Proofs.YtjpkmpihmilgoaaGreat.Vc
open Go.RowKit Go.Sort

/-- the place at a number -/
def sv (ss : List SlV) (j : Nat) : SlV := ss.getD j slNil
def encA (ss : List SlV) (n : Nat) (j : Fin n) : List Value := [(sv ss j).v]
end Go.Proofs.YtjpkmpihmilgoaaGreat.Vc
/-
 The program's list of a rank and a number of flags. Conditions: none.
-/
namespace Go.Proofs.YtjpkmpihmilgoaaGreat.Vc
open Go.RowKit

def matNo : MatV := ⟨slNil, [], []⟩
def mv (ms : List MatV) (j : Nat) : MatV := ms.getD j matNo
def lstI (rank flags : Int) : List Mx := if Small rank flags then listL rank.toNat flags.toNat else []
def lstK (rank flags : Int) : Int := if Small rank flags then 0 else 2

end Go.Proofs.YtjpkmpihmilgoaaGreat.Vc
/-
 The laws' marks over lists of lists, told exactly. Conditions: as each states them.
-/
namespace Go.Proofs.YtjpkmpihmilgoaaGreat.Vc
open Go.RowKit

def tot (xss : List (List Int)) : Int := ((xss.map List.length).sum : Nat)
def mkSS (k : Int) : List (List Int) → List (List Int)
 | [] => []
 | x :: xs => marks k x.length :: mkSS (k + x.length) xs
def mixM (k : Int) (xs : List (List Int)) (i : Nat) : List (List Int) := mkSS k (xs.take i) ++ xs.drop i
end Go.Proofs.YtjpkmpihmilgoaaGreat.Vc
/-
 Lists of maniplexes compared, marked and found marked; and the answers of CountManiplexes, AllManiplexes and ManiplexAt on both sides. Conditions: as each states them.
-/
namespace Go.Proofs.YtjpkmpihmilgoaaGreat.Vc
open Go.RowKit

/-- a list of matrices, read -/
structure MsR (w : World) (A : Option Addr) (ms : List MatV) : Prop where
 top : RdR w A ms.length (ms.map (·.top))
 row : ∀ m ∈ ms, RowsI w m.top.a m.top.n m.rs m.xss
/-! marks -/
def totM (ms : List MatV) : Int := ((ms.map fun m => (m.xss.map List.length).sum).sum : Nat)
theorem totM_cons (ms : List MatV) (m : MatV) : totM (m :: ms) = tot m.xss + totM ms := by simp [totM, tot]
def mkV (k : Int) : List MatV → List MatV
 | [] => []
 | m :: ms => { m with xss := mkSS k m.xss } :: mkV (k + tot m.xss) ms
/-- small matrices -/
def SmV (m : MatV) : Prop := m.rs.length = m.top.n ∧ m.xss.length = m.top.n ∧ m.top.n ≤ 4 ∧ ∀ x ∈ m.xss, x.length ≤ 12
end Go.Proofs.YtjpkmpihmilgoaaGreat.Vc
/-
 CountManiplexes and AllManiplexes on both sides, and the walks of their laws. Conditions: none.
-/
namespace Go.Proofs.YtjpkmpihmilgoaaGreat.Vc
open Go.RowKit

/-- an answer: a list of maniplexes, and a code -/
def AnsM (L : List Mx) (K : Int) (w : World) (v : Value) (w' : World) : Prop := ∃ A c, ∃ ms : List MatV, v = .tuple #[.slice A ms.length c, .int .i64 K] ∧ ms.map (·.xss) = L ∧ (∀ m ∈ ms, m.ok) ∧
      St w w' (CkR 32 A ms.length c (ms.map (·.top)) :: matsCk 34 2 ms)
/-! counts -/
def cnK (rank flags : Int) : Int := ((lstI rank flags).length : Nat)
/-! the lists -/
end Go.Proofs.YtjpkmpihmilgoaaGreat.Vc
/-
 An answer: a maniplex and a code. Conditions: none.
-/
namespace Go.Proofs.YtjpkmpihmilgoaaGreat.Vc
open Go.RowKit

/-- an answer: a maniplex, or none, and a code -/
def AnsX (L : List (List Int)) (K : Int) (w : World) (v : Value) (w' : World) : Prop := ∃ A c, ∃ rs : List SlV, v = .tuple #[.agg #[.slice A L.length c], .int .i64 K] ∧ rs.length = L.length ∧ St w w' (mat 34 2 A L.length c rs L)
end Go.Proofs.YtjpkmpihmilgoaaGreat.Vc
/-
 ManiplexAt on both sides, and the walk of its law. Conditions: none.
-/
namespace Go.Proofs.YtjpkmpihmilgoaaGreat.Vc
open Go.RowKit

/-! marks on one maniplex, exact -/
/-! the answers -/
def atK (rank flags i : Int) : Int := if ¬ Small rank flags ∨ i < 0 then 2 else if ((lstI rank flags).length : Int) ≤ i then 4 else 0
def atL (rank flags i : Int) : Mx := if i < 0 then [] else (lstI rank flags).getD i.toNat []
end Go.Proofs.YtjpkmpihmilgoaaGreat.Vc
/-
 The draws of maniplexes, walked: the map of a rotation. Conditions: as each states them.
-/
namespace Go.Proofs.YtjpkmpihmilgoaaGreat.Vc
open Go.RowKit

/-- an answer: a code and rows of numbers in memory of its own -/
def AnsQ (w : World) (v : Value) (w' : World) : Prop :=
 ∃ (n : Nat) (A : Option Addr) (c : Nat) (rs : List SlV) (xss : List (List Int)) (code : Int), v = .tuple #[.agg #[.slice A n c], .int .i64 code] ∧ n ≤ 6 ∧ rs.length = n ∧ xss.length = n ∧ (∀ p ∈ xss, p.length ≤ 20001 ∧ ∀ x ∈ p, -1 ≤ x ∧ x ≤ 20001) ∧ St w w' (mat 34 2 A n c rs xss)

def Qb (M : Nat) (y : List Int) : Prop := y.length = M ∧ ∀ x ∈ y, -1 ≤ x ∧ x ≤ 20001
theorem Qb.set {M : Nat} {y : List Int} {i : Nat} {v : Int} (h : Qb M y) (hv : -1 ≤ v ∧ v ≤ 20001) : Qb M (y.set i v) :=
 ⟨by rw [List.length_set]; exact h.1, fun z hz => (List.mem_or_eq_of_mem_set hz).elim (h.2 z) (fun e => e ▸ hv)⟩
theorem Qb.zero {M : Nat} : Qb M (List.replicate M 0) := ⟨by simp, fun x hx => by obtain ⟨_, rfl⟩ := List.mem_replicate.1 hx; decide⟩

/-- how far the open statement is -/
structure Mr4 (w0 : World) (n M : Nat) (A : Option Addr) (c : Nat) (A2 : Option Addr) (S : Nat → Bool) (e : Env) (w : World) : Prop where
  f0 : e 0 = .slice A n c
  f2 : e 2 = .pointer A2
  f4 : e 4 = .int .i64 (n : Int)
  p0 : S 0 = true → e 15 = .int .i64 (n : Int)
  p1 : S 1 = true → e 16 = .int .i64 (M : Int)
  p3 : S 3 = true → e 18 = .int .i64 (n : Int)
  p4 : S 4 = true → e 19 = .int .i64 (M : Int)
  p6 : S 6 = true → e 21 = .int .i64 (n : Int)
  p7 : S 7 = true → e 22 = .int .i64 (M : Int)
  mem : ∃ (B0 B1 B2 A24 A5 : Option Addr) (b0 b1 b2 b3 b5 : List Ck) (vs : List Value),
    (S 2 = true → e 17 = .slice B0 M M ∧ b0 = [CkI 2 B0 M M (List.replicate M 0)]) ∧
    (S 5 = true → e 20 = .slice B1 M M ∧ b1 = [CkI 2 B1 M M (List.replicate M 0)]) ∧
    (S 8 = true → e 23 = .slice B2 M M ∧ b2 = [CkI 2 B2 M M (List.replicate M 0)]) ∧
    (S 9 = true → e 24 = .slice A24 3 3 ∧ b3 = [CkR 34 A24 3 3 [⟨B0, M, M⟩, ⟨B1, M, M⟩, ⟨B2, M, M⟩]]) ∧
    (S 10 = true → e 25 = .agg #[.slice A24 3 3]) ∧
    (S 11 = true → e 5 = .pointer A5 ∧ b5 = [Bx 32 1 A5 vs]) ∧
    (S 12 = false → vs = [.slice none 0 0]) ∧
    (S 12 = true → vs = [.slice A24 3 3]) ∧
    St w0 w (b3 ++ (b0 ++ (b1 ++ (b2 ++ (b5 ++ [Bx 32 1 A2 [.slice none 0 0]])))))

theorem MapOfRotation_c (A : Option Addr) (n c : Nat) (p : List Int) (w : World) (hR : RdI w A n p) (hn : n ≤ 9223372036854775807) :
  Ret Tryz.prog 163 [.slice A n c] w (AnsQ w) := by
 refine Ret.of_cd Tryz.func163 rfl Tryz.ntmps163 rfl (postc2 rfl rfl) ?_
 refine Cd.seq ?_
 refine Cd.region ?_
 refine Ops.new1 (St.refl w) rfl ?_
 intro A2 w1 hS1
 refine Ops.mv_int rfl rfl rfl ?_
 refine Ops.nil ?_
 refine thenQ_n ?_
 refine Cd.seq ?_
 refine Cd.seq ?_
 refine Cd.region ?_
 refine Ops.mv_sl rfl rfl rfl ?_
 refine Ops.call (IsRotation_c A n c p w1 (hS1.oldI hR) hn) rfl rfl rfl ?_
 rintro _ w2 ⟨⟨b, rfl, hb⟩, hT⟩
 have hS2 := hS1.later hT.below
 first | refine Ops.not_p rfl rfl ?_ | refine Ops.not rfl rfl ?_
 refine Ops.nil ?_
 refine thenQ_n ?_
 refine Cd.cond_p (b = false) (congrArg Value.bool (by cases b <;> rfl)) (fun h1 => ?_) (fun h1 => ?_)
 ·refine Cd.seq ?_
  refine Cd.region ?_
  refine Ops.bld0 (by exact inferInstance) rfl ?_
  skip
  refine Ops.st_agg 1 0 hS2 rfl rfl rfl rfl rfl rfl rfl ?_
  intro w3 hS3
  refine Ops.mv_int rfl rfl rfl ?_
  refine Ops.nil ?_
  refine thenQ_n ?_
  refine Cd.ret ?_
  refine thenQ_r ?_
  skip
  refine retc2_r rfl (hS3.rd 0 rfl) rfl ?_
  exact ⟨0, none, 0, [], [], 1, rfl, by decide, rfl, rfl, fun p hp => (nomatch hp), hS3.none.nil _⟩
 ·have hb2 : b = true := by cases b <;> simp at h1 ⊢
  obtain ⟨hn2, hpl, hpr, _⟩ := hb hb2
  have hpn := hR.1
  refine Cd.skip ?_
  refine thenQ_n ?_
  refine Cd.seq ?_
  refine Cd.region ?_
  refine Ops.mv_sl rfl rfl rfl ?_
  refine Ops.len rfl rfl ?_
  refine Ops.mv_int rfl rfl rfl ?_
  refine Ops.nil ?_
  refine thenQ_n ?_
  refine Cd.seq ?_
  obtain ⟨M, hM⟩ : ∃ M : Nat, M = 2 * n := ⟨_, rfl⟩
  refine Cd.drawS (by kernel_rfl) (by kernel_rfl) (fun S e1 w1 => Mr4 w n M A c A2 S e1 w1) (fun w4 hb => ⟨rfl, rfl, rfl, fun h => (nomatch h), fun h => (nomatch h), fun h => (nomatch h), fun h => (nomatch h), fun h => (nomatch h), fun h => (nomatch h), none, none, none, none, none, [], [], [], [], [], [.slice none 0 0], fun h => (nomatch h), fun h => (nomatch h), fun h => (nomatch h), fun h => (nomatch h), fun h => (nomatch h), fun h => (nomatch h), fun _ => rfl, fun h => (nomatch h), hS2.later hb⟩) ?_ ?_
  ·intro S i o e1 w4 hq hSk hd hcl hI
   obtain ⟨f0, f2, f4, p0, p1, p3, p4, p6, p7, B0, B1, B2, A24, A5, b0, b1, b2, b3, b5, vs, m2, m5, m8, m9, m10, m11, m12f, m12, hT⟩ := hI
   match i, hq, hSk with
   | 0, hq, hSk =>
    obtain rfl := Option.some.inj hq
    refine Ops.mv_int rfl (by exact f4) rfl ?_
    refine Ops.nil ?_
    exact ⟨f0, f2, f4, fun _ => rfl, p1, p3, p4, p6, p7, B0, B1, B2, A24, A5, b0, b1, b2, b3, b5, vs, m2, m5, m8, m9, m10, m11, m12f, m12, hT⟩
   | 1, hq, hSk =>
    obtain rfl := Option.some.inj hq
    refine Ops.mul rfl (by exact p0 (deps_of hd 0 rfl)) rfl (by omega) ?_
    refine Ops.nil ?_
    exact ⟨f0, f2, f4, p0, fun _ => congrArg (Value.int .i64) (by omega), p3, p4, p6, p7, B0, B1, B2, A24, A5, b0, b1, b2, b3, b5, vs, m2, m5, m8, m9, m10, m11, m12f, m12, hT⟩
   | 2, hq, hSk =>
    obtain rfl := Option.some.inj hq
    have n9 : S 9 = false := (notyet hSk fun h => deps_of (hcl 9 _ h rfl) 2 rfl)
    refine Ops.mkI M (hT.sub (ks' := b3 ++ (b1 ++ (b2 ++ (b5 ++ [Bx 32 1 A2 [.slice none 0 0]])))) ((List.Sublist.refl _).append (List.sublist_append_right _ _))) (by exact p1 (deps_of hd 1 rfl)) rfl (by omega) ?_
    intro A' w5 hT5
    have hT6 : St w w5 (b3 ++ ([CkI 2 A' M M (List.replicate M 0)] ++ (b1 ++ (b2 ++ (b5 ++ [Bx 32 1 A2 [.slice none 0 0]]))))) := by
     refine hT5.perm ?_
     have := (List.perm_middle (a := CkI 2 A' M M (List.replicate M 0)) (l₁ := b3) (l₂ := b1 ++ (b2 ++ ((b5 ++ [Bx 32 1 A2 [.slice none 0 0]]))))).symm
     simpa only [List.append_assoc, List.singleton_append, List.cons_append, List.nil_append] using this
    refine Ops.nil ?_
    exact ⟨f0, f2, f4, p0, p1, p3, p4, p6, p7, A', B1, B2, A24, A5, _, b1, b2, b3, b5, vs, fun _ => ⟨rfl, rfl⟩, m5, m8, fun h => (nomatch n9.symm.trans h), m10, m11, m12f, m12, hT6⟩
   | 3, hq, hSk =>
    obtain rfl := Option.some.inj hq
    refine Ops.mv_int rfl (by exact f4) rfl ?_
    refine Ops.nil ?_
    exact ⟨f0, f2, f4, p0, p1, fun _ => rfl, p4, p6, p7, B0, B1, B2, A24, A5, b0, b1, b2, b3, b5, vs, m2, m5, m8, m9, m10, m11, m12f, m12, hT⟩
   | 4, hq, hSk =>
    obtain rfl := Option.some.inj hq
    refine Ops.mul rfl (by exact p3 (deps_of hd 3 rfl)) rfl (by omega) ?_
    refine Ops.nil ?_
    exact ⟨f0, f2, f4, p0, p1, p3, fun _ => congrArg (Value.int .i64) (by omega), p6, p7, B0, B1, B2, A24, A5, b0, b1, b2, b3, b5, vs, m2, m5, m8, m9, m10, m11, m12f, m12, hT⟩
   | 5, hq, hSk =>
    obtain rfl := Option.some.inj hq
    have n9 : S 9 = false := (notyet hSk fun h => deps_of (hcl 9 _ h rfl) 5 rfl)
    refine Ops.mkI M (hT.sub (ks' := b3 ++ (b0 ++ (b2 ++ (b5 ++ [Bx 32 1 A2 [.slice none 0 0]])))) ((List.Sublist.refl _).append ((List.Sublist.refl _).append (List.sublist_append_right _ _)))) (by exact p4 (deps_of hd 4 rfl)) rfl (by omega) ?_
    intro A' w5 hT5
    have hT6 : St w w5 (b3 ++ (b0 ++ ([CkI 2 A' M M (List.replicate M 0)] ++ (b2 ++ (b5 ++ [Bx 32 1 A2 [.slice none 0 0]]))))) := by
     refine hT5.perm ?_
     have := (List.perm_middle (a := CkI 2 A' M M (List.replicate M 0)) (l₁ := b3 ++ b0) (l₂ := b2 ++ ((b5 ++ [Bx 32 1 A2 [.slice none 0 0]])))).symm
     simpa only [List.append_assoc, List.singleton_append, List.cons_append, List.nil_append] using this
    refine Ops.nil ?_
    exact ⟨f0, f2, f4, p0, p1, p3, p4, p6, p7, B0, A', B2, A24, A5, b0, _, b2, b3, b5, vs, m2, fun _ => ⟨rfl, rfl⟩, m8, fun h => (nomatch n9.symm.trans h), m10, m11, m12f, m12, hT6⟩
   | 6, hq, hSk =>
    obtain rfl := Option.some.inj hq
    refine Ops.mv_int rfl (by exact f4) rfl ?_
    refine Ops.nil ?_
    exact ⟨f0, f2, f4, p0, p1, p3, p4, fun _ => rfl, p7, B0, B1, B2, A24, A5, b0, b1, b2, b3, b5, vs, m2, m5, m8, m9, m10, m11, m12f, m12, hT⟩
   | 7, hq, hSk =>
    obtain rfl := Option.some.inj hq
    refine Ops.mul rfl (by exact p6 (deps_of hd 6 rfl)) rfl (by omega) ?_
    refine Ops.nil ?_
    exact ⟨f0, f2, f4, p0, p1, p3, p4, p6, fun _ => congrArg (Value.int .i64) (by omega), B0, B1, B2, A24, A5, b0, b1, b2, b3, b5, vs, m2, m5, m8, m9, m10, m11, m12f, m12, hT⟩
   | 8, hq, hSk =>
    obtain rfl := Option.some.inj hq
    have n9 : S 9 = false := (notyet hSk fun h => deps_of (hcl 9 _ h rfl) 8 rfl)
    refine Ops.mkI M (hT.sub (ks' := b3 ++ (b0 ++ (b1 ++ (b5 ++ [Bx 32 1 A2 [.slice none 0 0]])))) ((List.Sublist.refl _).append ((List.Sublist.refl _).append ((List.Sublist.refl _).append (List.sublist_append_right _ _))))) (by exact p7 (deps_of hd 7 rfl)) rfl (by omega) ?_
    intro A' w5 hT5
    have hT6 : St w w5 (b3 ++ (b0 ++ (b1 ++ ([CkI 2 A' M M (List.replicate M 0)] ++ (b5 ++ [Bx 32 1 A2 [.slice none 0 0]]))))) := by
     refine hT5.perm ?_
     have := (List.perm_middle (a := CkI 2 A' M M (List.replicate M 0)) (l₁ := b3 ++ b0 ++ b1) (l₂ := (b5 ++ [Bx 32 1 A2 [.slice none 0 0]]))).symm
     simpa only [List.append_assoc, List.singleton_append, List.cons_append, List.nil_append] using this
    refine Ops.nil ?_
    exact ⟨f0, f2, f4, p0, p1, p3, p4, p6, p7, B0, B1, A', A24, A5, b0, b1, _, b3, b5, vs, m2, m5, fun _ => ⟨rfl, rfl⟩, fun h => (nomatch n9.symm.trans h), m10, m11, m12f, m12, hT6⟩
   | 9, hq, hSk =>
    obtain rfl := Option.some.inj hq
    obtain ⟨h17, rfl⟩ := m2 (deps_of hd 2 rfl)
    obtain ⟨h20, rfl⟩ := m5 (deps_of hd 5 rfl)
    obtain ⟨h23, rfl⟩ := m8 (deps_of hd 8 rfl)
    have n10 : S 10 = false := (notyet hSk fun h => deps_of (hcl 10 _ h rfl) 9 rfl)
    have n12 : S 12 = false := (notyet hSk fun h => deps_of (hcl 12 _ h rfl) 9 rfl)
    refine Ops.bs3R (s0 := ⟨B0, M, M⟩) (s1 := ⟨B1, M, M⟩) (s2 := ⟨B2, M, M⟩) (hT.sub (List.sublist_append_right _ _)) (by exact h17) (by exact h20) (by exact h23) rfl ?_
    intro A24 w5 hT5
    refine Ops.nil ?_
    exact ⟨f0, f2, f4, p0, p1, p3, p4, p6, p7, B0, B1, B2, A24, A5, _, _, _, [CkR 34 A24 3 3 [⟨B0, M, M⟩, ⟨B1, M, M⟩, ⟨B2, M, M⟩]], b5, vs, fun _ => ⟨h17, rfl⟩, fun _ => ⟨h20, rfl⟩, fun _ => ⟨h23, rfl⟩, fun _ => ⟨rfl, rfl⟩, fun h => (nomatch n10.symm.trans h), m11, m12f, fun h => (nomatch n12.symm.trans h), hT5⟩
   | 10, hq, hSk =>
    obtain rfl := Option.some.inj hq
    obtain ⟨h24, hb3⟩ := m9 (deps_of hd 9 rfl)
    refine Ops.bld1 (by exact inferInstance) rfl (by exact h24) rfl rfl ?_
    refine Ops.nil ?_
    exact ⟨f0, f2, f4, p0, p1, p3, p4, p6, p7, B0, B1, B2, A24, A5, b0, b1, b2, b3, b5, vs, m2, m5, m8, m9, fun _ => rfl, m11, m12f, m12, hT⟩
   | 11, hq, hSk =>
    obtain rfl := Option.some.inj hq
    have n12 : S 12 = false := (notyet hSk fun h => deps_of (hcl 12 _ h rfl) 11 rfl)
    obtain rfl := m12f n12
    refine Ops.new1 (hT.sub (ks' := (b3 ++ (b0 ++ (b1 ++ b2))) ++ [Bx 32 1 A2 [.slice none 0 0]]) (by simp only [List.append_assoc]; exact (List.Sublist.refl _).append ((List.Sublist.refl _).append ((List.Sublist.refl _).append ((List.Sublist.refl _).append (List.sublist_append_right _ _)))))) rfl ?_
    intro A' w5 hT5
    have hT6 : St w w5 (b3 ++ (b0 ++ (b1 ++ (b2 ++ ([Bx 32 1 A' [.slice none 0 0]] ++ [Bx 32 1 A2 [.slice none 0 0]]))))) := by
     have := hT5.perm (List.perm_middle (l₁ := b3 ++ (b0 ++ (b1 ++ b2)))).symm
     simpa only [List.append_assoc, List.singleton_append] using this
    refine Ops.nil ?_
    exact ⟨f0, f2, f4, p0, p1, p3, p4, p6, p7, B0, B1, B2, A24, A', b0, b1, b2, b3, _, _, m2, m5, m8, m9, m10, fun _ => ⟨rfl, rfl⟩, fun _ => rfl, fun h => (nomatch n12.symm.trans h), hT6⟩
   | 12, hq, hSk =>
    obtain rfl := Option.some.inj hq
    obtain ⟨h5, rfl⟩ := m11 (deps_of hd 11 rfl)
    obtain ⟨h17, rfl⟩ := m2 (deps_of hd 2 rfl)
    obtain ⟨h20, rfl⟩ := m5 (deps_of hd 5 rfl)
    obtain ⟨h23, rfl⟩ := m8 (deps_of hd 8 rfl)
    obtain ⟨h24, rfl⟩ := m9 (deps_of hd 9 rfl)
    obtain rfl := m12f hSk
    refine Ops.st_agg 1 4 hT rfl (by exact h5) (by exact m10 (deps_of hd 10 rfl)) rfl rfl rfl rfl ?_
    intro w5 hT5
    refine Ops.nil ?_
    exact ⟨f0, f2, f4, p0, p1, p3, p4, p6, p7, B0, B1, B2, A24, A5, _, _, _, _, _, [.slice A24 3 3], fun _ => ⟨h17, rfl⟩, fun _ => ⟨h20, rfl⟩, fun _ => ⟨h23, rfl⟩, fun _ => ⟨h24, rfl⟩, m10, fun _ => ⟨h5, rfl⟩, fun h => (nomatch (show true = false from h)), fun _ => rfl, hT5⟩
   | i + 13, hq, _ => exact (nomatch hq)
  ·intro S e1 w4 hall hI
   obtain ⟨f0, f2, f4, p0, p1, p3, p4, p6, p7, B0, B1, B2, A24, A5, b0, b1, b2, b3, b5, vs, m2, m5, m8, m9, m10, m11, m12f, m12, hT⟩ := hI
   obtain ⟨h5, rfl⟩ := m11 (hall 11 (by decide))
   obtain ⟨_, rfl⟩ := m2 (hall 2 (by decide))
   obtain ⟨_, rfl⟩ := m5 (hall 5 (by decide))
   obtain ⟨_, rfl⟩ := m8 (hall 8 (by decide))
   obtain ⟨_, rfl⟩ := m9 (hall 9 (by decide))
   obtain rfl := m12 (hall 12 (by decide))
   refine thenQ_ext (F := [(0, .slice A n c), (2, .pointer A2), (4, .int .i64 (n : Int)), (5, .pointer A5)]) ⟨f0, f2, f4, h5, trivial⟩ ?_
   have hT : St w w4 (mat 34 2 A24 3 3 [⟨B0, M, M⟩, ⟨B1, M, M⟩, ⟨B2, M, M⟩] [(List.replicate M 0), (List.replicate M 0), (List.replicate M 0)] ++ [Bx 32 1 A5 [.slice A24 3 3], Bx 32 1 A2 [.slice none 0 0]]) := hT
   refine thenQ_n ?_
   refine Cd.seq ?_
   refine Cd.seq ?_
   refine Cd.region ?_
   refine Ops.mv_int rfl rfl rfl ?_
   refine Ops.nil ?_
   refine thenQ_n ?_
   refine Cd.block ?_
   refine Cd.loop (α := Nat × List Int × List Int × List Int) (fun s => [(0, .slice A n c), (2, .pointer A2), (4, .int .i64 (n : Int)), (5, .pointer A5), (6, .int .i64 (s.1 : Int))]) (fun s w' => St w w' (mat 34 2 A24 3 3 [⟨B0, M, M⟩, ⟨B1, M, M⟩, ⟨B2, M, M⟩] [s.2.1, s.2.2.1, s.2.2.2] ++ [Bx 32 1 A5 [.slice A24 3 3], Bx 32 1 A2 [.slice none 0 0]]) ∧ s.1 ≤ n ∧ Qb M s.2.1 ∧ Qb M s.2.2.1 ∧ Qb M s.2.2.2) (fun s => n - s.1) (0, (List.replicate M 0), (List.replicate M 0), (List.replicate M 0)) ⟨rfl, rfl, rfl, rfl, rfl, trivial⟩ ⟨hT, Nat.zero_le _, Qb.zero, Qb.zero, Qb.zero⟩ ?_
   rintro ⟨f, y0, y1, y2⟩ e w5 ⟨hT5, hf, q0, q1, q2⟩
   dsimp only at hT5 hf q0 q1 q2 ⊢
   refine Cd.seq ?_
   refine Cd.seq ?_
   refine Cd.region ?_
   refine Ops.mv_int rfl rfl rfl ?_
   refine Ops.mv_int rfl rfl rfl ?_
   refine Ops.lss rfl rfl rfl ?_
   refine Ops.nil ?_
   refine thenQ_n ?_
   refine Cd.cond_p _ rfl (fun h2 => ?_) (fun h2 => ?_)
   ·have hP5 := hT5.oldI hR
    have hv : 0 ≤ gi p (f : Int) ∧ gi p (f : Int) < (n : Int) := by
     rw [gi_mem (by omega)]
     have := hpr _ (List.getElem_mem (l := p) (n := f) (by omega))
     omega
    generalize hV : gi p (f : Int) = v at hv
    refine Cd.skip ?_
    refine thenQ_n ?_
    refine Cd.seq ?_
    refine Cd.block ?_
    refine Cd.seq ?_
    refine Cd.draw [.ex (.int .i64 ((f : Int))), .ex (.int .i64 (((f : Int)) + ((1 : Int)))), .ex (.int .i64 ((f : Int))), .ex (.int .i64 ((f : Int) % 2)), .ex (.int .i64 (((2 : Int)) * ((f : Int) % 2))), .ex (.int .i64 ((((f : Int)) + ((1 : Int))) - (((2 : Int)) * ((f : Int) % 2)))), .ex (.slice (A) (n) (c)), .ex (.int .i64 ((f : Int))), .ex (.pointer (ptrAt (A) ((f : Int)).toNat)), .ex (.int .i64 (gi (p) ((f : Int)))), .ex (.int .i64 ((((f : Int)) + ((1 : Int))) - (((2 : Int)) * ((f : Int) % 2)))), .ex (.int .i64 (gi (p) ((f : Int))))] (by kernel_rfl) (by kernel_rfl) rfl (List.forall_mem_cons.2 ⟨Yd.lasts_ex _, (List.forall_mem_cons.2 ⟨Yd.lasts_ex _, (List.forall_mem_cons.2 ⟨Yd.lasts_ex _, (List.forall_mem_cons.2 ⟨Yd.lasts_ex _, (List.forall_mem_cons.2 ⟨Yd.lasts_ex _, (List.forall_mem_cons.2 ⟨Yd.lasts_ex _, (List.forall_mem_cons.2 ⟨Yd.lasts_ex _, (List.forall_mem_cons.2 ⟨Yd.lasts_ex _, (List.forall_mem_cons.2 ⟨Yd.lasts_ex _, (List.forall_mem_cons.2 ⟨Yd.lasts_ex _, (List.forall_mem_cons.2 ⟨Yd.lasts_ex _, (List.forall_mem_cons.2 ⟨Yd.lasts_ex _, (fun _ h => by cases h)⟩)⟩)⟩)⟩)⟩)⟩)⟩)⟩)⟩)⟩)⟩)⟩) ⟨?_, ?_, ?_, ?_, ?_, ?_, ?_, ?_, ?_, ?_, ?_, ?_, trivial⟩ ?_
    ·intro e1 w1 hb hp hun
     refine Ops.mv_int rfl rfl rfl ?_
     refine Ops.nil ?_
     exact After.dn (Below.refl _ _) (by exact rfl)
    ·intro e1 w1 hb hp hun
     refine Ops.add rfl rfl rfl (by omega) ?_
     refine Ops.nil ?_
     exact After.dn (Below.refl _ _) (by exact rfl)
    ·intro e1 w1 hb hp hun
     refine Ops.mv_int rfl rfl rfl ?_
     refine Ops.nil ?_
     exact After.dn (Below.refl _ _) (by exact rfl)
    ·intro e1 w1 hb hp hun
     refine Ops.rem rfl rfl rfl (by omega) ?_
     refine Ops.nil ?_
     exact After.dn (Below.refl _ _) (by exact rfl)
    ·intro e1 w1 hb hp hun
     refine Ops.mul rfl rfl rfl (by omega) ?_
     refine Ops.nil ?_
     exact After.dn (Below.refl _ _) (by exact rfl)
    ·intro e1 w1 hb hp hun
     refine Ops.sub rfl rfl rfl (by omega) ?_
     refine Ops.nil ?_
     exact After.dn (Below.refl _ _) (by exact rfl)
    ·intro e1 w1 hb hp hun
     refine Ops.mv_sl rfl rfl rfl ?_
     refine Ops.nil ?_
     exact After.dn (Below.refl _ _) (by exact rfl)
    ·intro e1 w1 hb hp hun
     refine Ops.mv_int rfl rfl rfl ?_
     refine Ops.nil ?_
     exact After.dn (Below.refl _ _) (by exact rfl)
    ·intro e1 w1 hb hp hun
     refine Ops.idx (hP5.later hb).2 rfl rfl rfl (by omega) (by omega) ?_
     refine Ops.nil ?_
     exact After.dn (Below.refl _ _) (by exact rfl)
    ·intro e1 w1 hb hp hun
     refine Ops.ld_int (hP5.later hb) rfl (by omega) rfl rfl ?_
     refine Ops.nil ?_
     exact After.dn (Below.refl _ _) (by exact rfl)
    ·intro e1 w1 hb hp hun
     refine Ops.mv_int rfl rfl rfl ?_
     refine Ops.nil ?_
     exact After.dn (Below.refl _ _) (by exact rfl)
    ·intro e1 w1 hb hp hun
     refine Ops.mv_int rfl rfl rfl ?_
     refine Ops.nil ?_
     exact After.dn (Below.refl _ _) (by exact rfl)
    intro u w6 hb6 _
    rw [hV]
    have hU0 := hT5.later hb6
    refine thenQ_n ?_
    refine Cd.seq ?_
    refine Cd.region ?_
    refine Ops.fld (hU0.rd 4 rfl) rfl rfl rfl rfl inferInstance ?_
    refine Ops.ldf_s (hU0.rd 4 rfl) rfl rfl rfl rfl rfl ?_
    skip
    refine Ops.idx (hU0.rd 0 rfl) rfl rfl rfl (by omega) (by show (0 : Int) < (3 : Int); decide) ?_
    refine Ops.ld_sl (i := 0) (hU0.rdR 0 rfl) rfl (by show 0 < 3; decide) rfl rfl ?_
    refine Ops.mv_int rfl rfl rfl ?_
    refine Ops.mul rfl rfl rfl (by omega) ?_
    refine Ops.mv_int rfl rfl rfl ?_
    refine Ops.mul rfl rfl rfl (by omega) ?_
    refine Ops.add rfl rfl rfl (by omega) ?_
    refine Ops.idx (hU0.rd 1 rfl) rfl rfl rfl (by omega) (by show 2 * (f : Int) < (M : Int); omega) ?_
    refine Ops.st_int (i := 2 * (f : Int)) 1 hU0 rfl rfl rfl (by show (2 * (f : Int)).toNat < M; omega) ?_
    intro x0 hU1
    have hU1 : St w x0 (mat 34 2 A24 3 3 [⟨B0, M, M⟩, ⟨B1, M, M⟩, ⟨B2, M, M⟩] [(y0.set (2 * (f : Int)).toNat (2 * ((f : Int) + 1 - 2 * ((f : Int) % 2)) + 1)), y1, y2] ++ [Bx 32 1 A5 [.slice A24 3 3], Bx 32 1 A2 [.slice none 0 0]]) := hU1
    refine Ops.nil ?_
    refine thenQ_n ?_
    refine Cd.seq ?_
    refine Cd.region ?_
    refine Ops.fld (hU1.rd 4 rfl) rfl rfl rfl rfl inferInstance ?_
    refine Ops.ldf_s (hU1.rd 4 rfl) rfl rfl rfl rfl rfl ?_
    skip
    refine Ops.idx (hU1.rd 0 rfl) rfl rfl rfl (by omega) (by show (0 : Int) < (3 : Int); decide) ?_
    refine Ops.ld_sl (i := 0) (hU1.rdR 0 rfl) rfl (by show 0 < 3; decide) rfl rfl ?_
    refine Ops.mv_int rfl rfl rfl ?_
    refine Ops.mul rfl rfl rfl (by omega) ?_
    refine Ops.add rfl rfl rfl (by omega) ?_
    refine Ops.mv_int rfl rfl rfl ?_
    refine Ops.mul rfl rfl rfl (by omega) ?_
    refine Ops.idx (hU1.rd 1 rfl) rfl rfl rfl (by omega) (by show 2 * (f : Int) + 1 < (M : Int); omega) ?_
    refine Ops.st_int (i := 2 * (f : Int) + 1) 1 hU1 rfl rfl rfl (by show (2 * (f : Int) + 1).toNat < M; omega) ?_
    intro x1 hU2
    have hU2 : St w x1 (mat 34 2 A24 3 3 [⟨B0, M, M⟩, ⟨B1, M, M⟩, ⟨B2, M, M⟩] [((y0.set (2 * (f : Int)).toNat (2 * ((f : Int) + 1 - 2 * ((f : Int) % 2)) + 1)).set (2 * (f : Int) + 1).toNat (2 * ((f : Int) + 1 - 2 * ((f : Int) % 2)))), y1, y2] ++ [Bx 32 1 A5 [.slice A24 3 3], Bx 32 1 A2 [.slice none 0 0]]) := hU2
    refine Ops.nil ?_
    refine thenQ_n ?_
    refine Cd.seq ?_
    refine Cd.region ?_
    refine Ops.fld (hU2.rd 4 rfl) rfl rfl rfl rfl inferInstance ?_
    refine Ops.ldf_s (hU2.rd 4 rfl) rfl rfl rfl rfl rfl ?_
    skip
    refine Ops.idx (hU2.rd 0 rfl) rfl rfl rfl (by omega) (by show (1 : Int) < (3 : Int); decide) ?_
    refine Ops.ld_sl (i := 1) (hU2.rdR 0 rfl) rfl (by show 1 < 3; decide) rfl rfl ?_
    refine Ops.mv_int rfl rfl rfl ?_
    refine Ops.mul rfl rfl rfl (by omega) ?_
    refine Ops.mv_int rfl rfl rfl ?_
    refine Ops.mul rfl rfl rfl (by omega) ?_
    refine Ops.add rfl rfl rfl (by omega) ?_
    refine Ops.idx (hU2.rd 2 rfl) rfl rfl rfl (by omega) (by show 2 * (f : Int) < (M : Int); omega) ?_
    refine Ops.st_int (i := 2 * (f : Int)) 2 hU2 rfl rfl rfl (by show (2 * (f : Int)).toNat < M; omega) ?_
    intro x2 hU3
    have hU3 : St w x2 (mat 34 2 A24 3 3 [⟨B0, M, M⟩, ⟨B1, M, M⟩, ⟨B2, M, M⟩] [((y0.set (2 * (f : Int)).toNat (2 * ((f : Int) + 1 - 2 * ((f : Int) % 2)) + 1)).set (2 * (f : Int) + 1).toNat (2 * ((f : Int) + 1 - 2 * ((f : Int) % 2)))), (y1.set (2 * (f : Int)).toNat (2 * v + 1)), y2] ++ [Bx 32 1 A5 [.slice A24 3 3], Bx 32 1 A2 [.slice none 0 0]]) := hU3
    refine Ops.nil ?_
    refine thenQ_n ?_
    refine Cd.seq ?_
    refine Cd.region ?_
    refine Ops.fld (hU3.rd 4 rfl) rfl rfl rfl rfl inferInstance ?_
    refine Ops.ldf_s (hU3.rd 4 rfl) rfl rfl rfl rfl rfl ?_
    skip
    refine Ops.idx (hU3.rd 0 rfl) rfl rfl rfl (by omega) (by show (1 : Int) < (3 : Int); decide) ?_
    refine Ops.ld_sl (i := 1) (hU3.rdR 0 rfl) rfl (by show 1 < 3; decide) rfl rfl ?_
    refine Ops.mv_int rfl rfl rfl ?_
    refine Ops.mul rfl rfl rfl (by omega) ?_
    refine Ops.add rfl rfl rfl (by omega) ?_
    refine Ops.mv_int rfl rfl rfl ?_
    refine Ops.mul rfl rfl rfl (by omega) ?_
    refine Ops.idx (hU3.rd 2 rfl) rfl rfl rfl (by omega) (by show 2 * v + 1 < (M : Int); omega) ?_
    refine Ops.st_int (i := 2 * v + 1) 2 hU3 rfl rfl rfl (by show (2 * v + 1).toNat < M; omega) ?_
    intro x3 hU4
    have hU4 : St w x3 (mat 34 2 A24 3 3 [⟨B0, M, M⟩, ⟨B1, M, M⟩, ⟨B2, M, M⟩] [((y0.set (2 * (f : Int)).toNat (2 * ((f : Int) + 1 - 2 * ((f : Int) % 2)) + 1)).set (2 * (f : Int) + 1).toNat (2 * ((f : Int) + 1 - 2 * ((f : Int) % 2)))), ((y1.set (2 * (f : Int)).toNat (2 * v + 1)).set (2 * v + 1).toNat (2 * (f : Int))), y2] ++ [Bx 32 1 A5 [.slice A24 3 3], Bx 32 1 A2 [.slice none 0 0]]) := hU4
    refine Ops.nil ?_
    refine thenQ_n ?_
    refine Cd.seq ?_
    refine Cd.region ?_
    refine Ops.fld (hU4.rd 4 rfl) rfl rfl rfl rfl inferInstance ?_
    refine Ops.ldf_s (hU4.rd 4 rfl) rfl rfl rfl rfl rfl ?_
    skip
    refine Ops.idx (hU4.rd 0 rfl) rfl rfl rfl (by omega) (by show (2 : Int) < (3 : Int); decide) ?_
    refine Ops.ld_sl (i := 2) (hU4.rdR 0 rfl) rfl (by show 2 < 3; decide) rfl rfl ?_
    refine Ops.mv_int rfl rfl rfl ?_
    refine Ops.mul rfl rfl rfl (by omega) ?_
    refine Ops.mv_int rfl rfl rfl ?_
    refine Ops.mul rfl rfl rfl (by omega) ?_
    refine Ops.add rfl rfl rfl (by omega) ?_
    refine Ops.idx (hU4.rd 3 rfl) rfl rfl rfl (by omega) (by show 2 * (f : Int) < (M : Int); omega) ?_
    refine Ops.st_int (i := 2 * (f : Int)) 3 hU4 rfl rfl rfl (by show (2 * (f : Int)).toNat < M; omega) ?_
    intro x4 hU5
    have hU5 : St w x4 (mat 34 2 A24 3 3 [⟨B0, M, M⟩, ⟨B1, M, M⟩, ⟨B2, M, M⟩] [((y0.set (2 * (f : Int)).toNat (2 * ((f : Int) + 1 - 2 * ((f : Int) % 2)) + 1)).set (2 * (f : Int) + 1).toNat (2 * ((f : Int) + 1 - 2 * ((f : Int) % 2)))), ((y1.set (2 * (f : Int)).toNat (2 * v + 1)).set (2 * v + 1).toNat (2 * (f : Int))), (y2.set (2 * (f : Int)).toNat (2 * (f : Int) + 1))] ++ [Bx 32 1 A5 [.slice A24 3 3], Bx 32 1 A2 [.slice none 0 0]]) := hU5
    refine Ops.nil ?_
    refine thenQ_n ?_
    refine Cd.region ?_
    refine Ops.fld (hU5.rd 4 rfl) rfl rfl rfl rfl inferInstance ?_
    refine Ops.ldf_s (hU5.rd 4 rfl) rfl rfl rfl rfl rfl ?_
    skip
    refine Ops.idx (hU5.rd 0 rfl) rfl rfl rfl (by omega) (by show (2 : Int) < (3 : Int); decide) ?_
    refine Ops.ld_sl (i := 2) (hU5.rdR 0 rfl) rfl (by show 2 < 3; decide) rfl rfl ?_
    refine Ops.mv_int rfl rfl rfl ?_
    refine Ops.mul rfl rfl rfl (by omega) ?_
    refine Ops.add rfl rfl rfl (by omega) ?_
    refine Ops.mv_int rfl rfl rfl ?_
    refine Ops.mul rfl rfl rfl (by omega) ?_
    refine Ops.idx (hU5.rd 3 rfl) rfl rfl rfl (by omega) (by show 2 * (f : Int) + 1 < (M : Int); omega) ?_
    refine Ops.st_int (i := 2 * (f : Int) + 1) 3 hU5 rfl rfl rfl (by show (2 * (f : Int) + 1).toNat < M; omega) ?_
    intro x5 hU6
    have hU6 : St w x5 (mat 34 2 A24 3 3 [⟨B0, M, M⟩, ⟨B1, M, M⟩, ⟨B2, M, M⟩] [((y0.set (2 * (f : Int)).toNat (2 * ((f : Int) + 1 - 2 * ((f : Int) % 2)) + 1)).set (2 * (f : Int) + 1).toNat (2 * ((f : Int) + 1 - 2 * ((f : Int) % 2)))), ((y1.set (2 * (f : Int)).toNat (2 * v + 1)).set (2 * v + 1).toNat (2 * (f : Int))), ((y2.set (2 * (f : Int)).toNat (2 * (f : Int) + 1)).set (2 * (f : Int) + 1).toNat (2 * (f : Int)))] ++ [Bx 32 1 A5 [.slice A24 3 3], Bx 32 1 A2 [.slice none 0 0]]) := hU6
    refine Ops.nil ?_
    refine blockQ_n ?_
    refine thenQ_n ?_
    refine Cd.region ?_
    refine Ops.mv_int rfl rfl rfl ?_
    refine Ops.add rfl rfl rfl (by omega) ?_
    refine Ops.mv_int rfl rfl rfl ?_
    refine Ops.nil ?_
    refine thenQ_n ?_
    exact ⟨(f + 1, ((y0.set (2 * (f : Int)).toNat (2 * ((f : Int) + 1 - 2 * ((f : Int) % 2)) + 1)).set (2 * (f : Int) + 1).toNat (2 * ((f : Int) + 1 - 2 * ((f : Int) % 2)))), ((y1.set (2 * (f : Int)).toNat (2 * v + 1)).set (2 * v + 1).toNat (2 * (f : Int))), ((y2.set (2 * (f : Int)).toNat (2 * (f : Int) + 1)).set (2 * (f : Int) + 1).toNat (2 * (f : Int)))), by show n - (f + 1) < n - f; omega, ⟨rfl, rfl, rfl, rfl, rfl, trivial⟩, hU6, by show f + 1 ≤ n; omega, (q0.set (by omega)).set (by omega), (q1.set (by omega)).set (by omega), (q2.set (by omega)).set (by omega)⟩
   ·have hrows : RowsI w5 A24 3 [⟨B0, M, M⟩, ⟨B1, M, M⟩, ⟨B2, M, M⟩] [y0, y1, y2] := St.rowsI hT5 rfl
    refine Cd.exit ?_
    refine thenQ_x ?_
    refine thenQ_x ?_
    refine blockQ_x ?_
    refine thenQ_n ?_
    refine Cd.seq ?_
    refine Cd.seq ?_
    refine Cd.region ?_
    refine Ops.ld_agg 0 (hT5.rd 4 rfl) rfl rfl rfl ?_
    skip
    refine Ops.call (l14Is_c A24 3 3 _ [y0, y1, y2] w5 hrows (by decide)) rfl rfl rfl ?_
    rintro _ w6 ⟨rfl, hT'⟩
    have hT6 := hT5.later hT'.below
    first | refine Ops.not_p rfl rfl ?_ | refine Ops.not rfl rfl ?_
    refine Ops.nil ?_
    refine thenQ_n ?_
    refine Cd.cond_p (¬ (Mani [y0, y1, y2] ∧ 3 = 3)) (congrArg Value.bool (by simp)) (fun h3 => ?_) (fun h3 => ?_)
    ·refine Cd.seq ?_
     refine Cd.region ?_
     refine Ops.bld0 (by exact inferInstance) rfl ?_
     skip
     refine Ops.st_agg 1 5 hT6 rfl rfl rfl rfl rfl rfl rfl ?_
     intro w7 hT7
     refine Ops.mv_int rfl rfl rfl ?_
     refine Ops.nil ?_
     refine thenQ_n ?_
     refine Cd.ret ?_
     refine thenQ_r ?_
     skip
     refine retc2_r rfl (hT7.rd 5 rfl) rfl ?_
     exact ⟨0, none, 0, [], [], 5, rfl, by decide, rfl, rfl, fun p hp => (nomatch hp), hT7.none.nil _⟩
    ·refine Cd.skip ?_
     refine thenQ_n ?_
     refine Cd.seq ?_
     refine Cd.region ?_
     refine Ops.ld_agg 0 (hT6.rd 4 rfl) rfl rfl rfl ?_
     skip
     refine Ops.st_agg 1 5 hT6 rfl rfl rfl rfl rfl rfl rfl ?_
     intro w7 hT7
     refine Ops.mv_int rfl rfl rfl ?_
     refine Ops.nil ?_
     refine thenQ_n ?_
     refine Cd.ret ?_
     skip
     refine retc2_r rfl (hT7.rd 5 rfl) rfl ?_
     refine ⟨3, A24, 3, _, [y0, y1, y2], 0, rfl, by decide, rfl, rfl, fun p hp => ?_, hT7.sub (ks' := mat 34 2 A24 3 3 [⟨B0, M, M⟩, ⟨B1, M, M⟩, ⟨B2, M, M⟩] [y0, y1, y2]) (List.sublist_append_left (mat 34 2 A24 3 3 [⟨B0, M, M⟩, ⟨B1, M, M⟩, ⟨B2, M, M⟩] [y0, y1, y2]) _)⟩
     have hq : Qb M p := by
      simp only [List.mem_cons, List.not_mem_nil, or_false] at hp
      rcases hp with rfl | rfl | rfl <;> assumption
     exact ⟨by have := hq.1; omega, hq.2⟩
end Go.Proofs.YtjpkmpihmilgoaaGreat.Vc
/-
 Rows of structs of two cells, a slice and a number: the rules of the operations on them. Conditions: as each rule names them.
-/
namespace Go.Proofs.YtjpkmpihmilgoaaGreat.Vc
open Go.RowKit

structure CV where
 s : SlV
 v : Int
def flatC : List CV → List Value
 | [] => []
 | x :: r => x.s.v :: .int .i64 x.v :: flatC r
/-- a row of such structs of one's own: k of them, room for q -/
def CkC (t : TypeId) (A : Option Addr) (k q : Nat) (cs : List CV) : Ck := ⟨A, 2 * k, min (2 * q) maxLen, t, flatC cs⟩
/-- .. that can be read -/
def RdC (w : World) (A : Option Addr) (k : Nat) (cs : List CV) : Prop := cs.length = k ∧ Rd w A (2 * k) (fun j => (flatC cs).getD j undef)
/-- the address behind some -/
def cutC (A : Option Addr) (q l : Nat) : Option Addr := if q = l then A else ptrAt A (l * 2)
section
variable {w0 w : World} {ks : List Ck} {i : Nat} {t : TypeId} {A : Option Addr} {k q : Nat} {cs : List CV}
end
section
variable {P : Program} {N : Nat} {ops : Array Oper} {K : Env → World → Prop} {rest : List Oper} {e : Env} {w0 w w' : World} {ks : List Ck} {d : Nat} {ty : TypeId} {pos : String} {af : Array Edge}
theorem Ops.bld2c {t : TypeId} {f0 f1 : Field} {z0 z1 y0 y1 : Value} {b b0 b1 : Nat} [Und P t (.struct #[f0, f1])] [Inf P t (.agg #[z0, z1]) 2 b] {x0 x1 : Operand} {v0 v1 : Value} (hI0 : Inf P f0.type y0 1 b0) (hI1 : Inf P f1.type y1 1 b1) (ho : f0.offset = 0) (ho1 : f1.offset = 1) (h0 : ev e x0 = v0) (h1 : ev e x1 = v1) (c0 : v0.oneCell' = true) (c1 : v1.oneCell' = true) (hb : Nat.blt d N = true)
    (hK : Ops P N ops K rest (upd e d (.agg #[v0, v1])) w) : Ops P N ops K (⟨some d, .build t #[(0, x0), (1, x1)], ty, pos, af, none⟩ :: rest) e w := by
  obtain ⟨inf, hi, hz0, hs, hby⟩ := Inf.get P t
  obtain ⟨inf0, hi0, hz00, hs0, hby0⟩ := hI0.get P f0.type
  obtain ⟨inf1, hi1, hz01, hs1, hby1⟩ := hI1.get P f1.type
  have e0 : v0.cells = #[v0] := by cases v0 <;> simp [Value.oneCell'] at c0 <;> rfl
  have e1 : v1.cells = #[v1] := by cases v1 <;> simp [Value.oneCell'] at c1 <;> rfl
  have ez : (Value.agg #[z0, z1]).cells = #[z0, z1] := rfl
  refine .val (w' := w) ?_ hb hK
  simp [execOp, Instr.build, run_underlying (Und.out (P := P) (t := t)), sizeOf, typeInfo, zeroValue, hi, hz0, hi0, hs0, hi1, hs1, ho, ho1, h0, h1, e0, e1, ez, Instr.fill]

end
end Go.Proofs.YtjpkmpihmilgoaaGreat.Vc
/-
 The reference's tests of diagrams and presentations, where they hold, and its universal polytope, walked. Conditions: as each states them.
-/
namespace Go.Proofs.YtjpkmpihmilgoaaGreat.Vc
open Go.RowKit

theorem l12Is_c (A : Option Addr) (n c : Nat) (labels : List Int) (w : World) (hR : RdI w A n labels) (hn : n < 5) (hl : ∀ x ∈ labels, x = 0 ∨ (2 ≤ x ∧ x ≤ 32)) :
  Ret Tryz.prog 196 [.slice A n c] w (fun v w' => v = .bool true ∧ w' = w) := by
 have hll := hR.1
 refine Ret.of_cd Tryz.func196 rfl Tryz.ntmps196 rfl (post1 rfl) ?_
 refine Cd.seq ?_
 refine Cd.region ?_
 refine Ops.mv_bool rfl rfl rfl ?_
 refine Ops.nil ?_
 refine thenQ_n ?_
 refine Cd.seq ?_
 refine Cd.seq ?_
 refine Cd.region ?_
 refine Ops.mv_int rfl rfl rfl ?_
 refine Ops.nil ?_
 refine thenQ_n ?_
 refine Cd.block ?_
 refine Cd.loop (α := Nat) (fun i => [(0, .slice A n c), (3, .int .i64 (i : Int))]) (fun i w' => w' = w ∧ i ≤ n) (fun i => n - i) 0 ⟨rfl, rfl, trivial⟩ ⟨rfl, Nat.zero_le _⟩ ?_
 rintro i e w1 ⟨rfl, hi⟩
 refine Cd.seq ?_
 refine Cd.seq ?_
 refine Cd.region ?_
 refine Ops.mv_int rfl rfl rfl ?_
 refine Ops.mv_sl rfl rfl rfl ?_
 refine Ops.len rfl rfl ?_
 refine Ops.lss rfl rfl rfl ?_
 refine Ops.nil ?_
 refine thenQ_n ?_
 refine Cd.cond_p _ rfl (fun h1 => ?_) (fun h1 => ?_)
 ·have hx := hl (gi labels (i : Int)) (by rw [gi_mem (by omega)]; exact List.getElem_mem _)
  refine Cd.skip ?_
  refine thenQ_n ?_
  refine Cd.seq ?_
  refine Cd.block ?_
  refine Cd.seq ?_
  refine Cd.region ?_
  refine Ops.mv_sl rfl rfl rfl ?_
  refine Ops.mv_int rfl rfl rfl ?_
  refine Ops.idx hR.2 rfl rfl rfl (by omega) (by omega) ?_
  refine Ops.ld_int hR rfl (by omega) rfl rfl ?_
  refine Ops.neq rfl rfl rfl ?_
  refine Ops.mv_bool rfl rfl rfl ?_
  refine Ops.split_p 15 rfl (fun h2 => ?_) (fun h2 => ?_)
  ·refine Ops.rung rfl rfl rfl ?_
   refine Ops.mv_sl rfl rfl rfl ?_
   refine Ops.rung rfl rfl rfl ?_
   refine Ops.mv_int rfl rfl rfl ?_
   refine Ops.rung rfl rfl rfl ?_
   refine Ops.idx hR.2 rfl rfl rfl (by omega) (by omega) ?_
   refine Ops.rung rfl rfl rfl ?_
   refine Ops.ld_int hR rfl (by omega) rfl rfl ?_
   refine Ops.rung rfl rfl rfl ?_
   refine Ops.call (l01In_c _ _ _ _) rfl rfl rfl ?_
   rintro _ w2 ⟨rfl, rfl⟩
   refine Ops.rung rfl rfl rfl ?_
   first | refine Ops.not_p rfl rfl ?_ | refine Ops.not rfl rfl ?_
   refine Ops.pick_t rfl rfl rfl ?_
   refine Ops.nil ?_
   refine thenQ_n ?_
   refine Cd.cond_pf rfl (fun h => h (by omega)) ?_
   refine Cd.skip ?_
   refine blockQ_n ?_
   refine thenQ_n ?_
   refine Cd.region ?_
   refine Ops.mv_int rfl rfl rfl ?_
   refine Ops.add rfl rfl rfl (by omega) ?_
   refine Ops.mv_int rfl rfl rfl ?_
   refine Ops.nil ?_
   refine thenQ_n ?_
   exact ⟨i + 1, by omega, ⟨rfl, rfl, trivial⟩, rfl, by omega⟩
  ·refine Ops.skipg rfl rfl rfl rfl rfl ?_
   refine Ops.skipg rfl rfl rfl rfl rfl ?_
   refine Ops.skipg rfl rfl rfl rfl rfl ?_
   refine Ops.skipg rfl rfl rfl rfl rfl ?_
   refine Ops.skipg rfl rfl rfl rfl rfl ?_
   refine Ops.skipg rfl rfl rfl rfl rfl ?_
   refine Ops.pick_f rfl rfl rfl ?_
   refine Ops.nil ?_
   refine thenQ_n ?_
   refine Cd.cond_f rfl ?_
   refine Cd.skip ?_
   refine blockQ_n ?_
   refine thenQ_n ?_
   refine Cd.region ?_
   refine Ops.mv_int rfl rfl rfl ?_
   refine Ops.add rfl rfl rfl (by omega) ?_
   refine Ops.mv_int rfl rfl rfl ?_
   refine Ops.nil ?_
   refine thenQ_n ?_
   exact ⟨i + 1, by omega, ⟨rfl, rfl, trivial⟩, rfl, by omega⟩
 ·refine Cd.exit ?_
  refine thenQ_x ?_
  refine thenQ_x ?_
  refine blockQ_x ?_
  refine thenQ_n ?_
  refine Cd.seq ?_
  refine Cd.region ?_
  refine Ops.mv_sl rfl rfl rfl ?_
  refine Ops.len rfl rfl ?_
  refine Ops.lss rfl rfl rfl ?_
  refine Ops.mv_bool rfl rfl rfl ?_
  refine Ops.nil ?_
  refine thenQ_n ?_
  refine Cd.ret ?_
  refine ret1_b rfl ?_
  exact ⟨by rw [decide_eq_true (by omega)], rfl⟩

theorem l11Word_c (letters : Int) (A : Option Addr) (n c : Nat) (ws : List Int) (w : World) (hR : RdI w A n ws) (hlt : 0 ≤ letters ∧ letters ≤ 1000) (hn : n ≤ 64) (hw : ∀ x ∈ ws, 0 ≤ x ∧ x < letters) :
  Ret Tryz.prog 221 [.int .i64 letters, .slice A n c] w (fun v w' => v = .bool true ∧ w' = w) := by
 have hll := hR.1
 refine Ret.of_cd Tryz.func221 rfl Tryz.ntmps221 rfl (post1 rfl) ?_
 refine Cd.seq ?_
 refine Cd.region ?_
 refine Ops.mv_bool rfl rfl rfl ?_
 refine Ops.nil ?_
 refine thenQ_n ?_
 refine Cd.seq ?_
 refine Cd.seq ?_
 refine Cd.region ?_
 refine Ops.mv_int rfl rfl rfl ?_
 refine Ops.nil ?_
 refine thenQ_n ?_
 refine Cd.block ?_
 refine Cd.loop (α := Nat) (fun i => [(0, .int .i64 letters), (1, .slice A n c), (5, .int .i64 (i : Int))]) (fun i w' => w' = w ∧ i ≤ n) (fun i => n - i) 0 ⟨rfl, rfl, rfl, trivial⟩ ⟨rfl, Nat.zero_le _⟩ ?_
 rintro i e w1 ⟨rfl, hi⟩
 refine Cd.seq ?_
 refine Cd.seq ?_
 refine Cd.region ?_
 refine Ops.mv_int rfl rfl rfl ?_
 refine Ops.mv_sl rfl rfl rfl ?_
 refine Ops.len rfl rfl ?_
 refine Ops.lss rfl rfl rfl ?_
 refine Ops.nil ?_
 refine thenQ_n ?_
 refine Cd.cond_p _ rfl (fun h1 => ?_) (fun h1 => ?_)
 ·have hx := hw (gi ws (i : Int)) (by rw [gi_mem (by omega)]; exact List.getElem_mem _)
  refine Cd.skip ?_
  refine thenQ_n ?_
  refine Cd.seq ?_
  refine Cd.block ?_
  refine Cd.seq ?_
  refine Cd.region ?_
  refine Ops.mv_sl rfl rfl rfl ?_
  refine Ops.mv_int rfl rfl rfl ?_
  refine Ops.idx hR.2 rfl rfl rfl (by omega) (by omega) ?_
  refine Ops.ld_int hR rfl (by omega) rfl rfl ?_
  refine Ops.mv_int rfl rfl rfl ?_
  refine Ops.sub rfl rfl rfl (by omega) ?_
  refine Ops.call (l01In_c _ _ _ _) rfl rfl rfl ?_
  rintro _ w2 ⟨rfl, rfl⟩
  first | refine Ops.not_p rfl rfl ?_ | refine Ops.not rfl rfl ?_
  refine Ops.nil ?_
  refine thenQ_n ?_
  refine Cd.cond_pf rfl (fun h => h (by omega)) ?_
  refine Cd.skip ?_
  refine blockQ_n ?_
  refine thenQ_n ?_
  refine Cd.region ?_
  refine Ops.mv_int rfl rfl rfl ?_
  refine Ops.add rfl rfl rfl (by omega) ?_
  refine Ops.mv_int rfl rfl rfl ?_
  refine Ops.nil ?_
  refine thenQ_n ?_
  exact ⟨i + 1, by omega, ⟨rfl, rfl, rfl, trivial⟩, rfl, by omega⟩
 ·refine Cd.exit ?_
  refine thenQ_x ?_
  refine thenQ_x ?_
  refine blockQ_x ?_
  refine thenQ_n ?_
  refine Cd.seq ?_
  refine Cd.region ?_
  refine Ops.mv_sl rfl rfl rfl ?_
  refine Ops.len rfl rfl ?_
  refine Ops.leq rfl rfl rfl ?_
  refine Ops.mv_bool rfl rfl rfl ?_
  refine Ops.nil ?_
  refine thenQ_n ?_
  refine Cd.ret ?_
  refine ret1_b rfl ?_
  exact ⟨by rw [decide_eq_true (by omega)], rfl⟩

/-- words that are words -/
def WordsOk (letters : Int) (least : Nat) (wss : List (List Int)) : Prop := wss.length ≤ 24 ∧ ∀ ws ∈ wss, least ≤ ws.length ∧ ws.length ≤ 64 ∧ ∀ x ∈ ws, 0 ≤ x ∧ x < letters
instance (letters : Int) (least : Nat) (wss : List (List Int)) : Decidable (WordsOk letters least wss) := by unfold WordsOk; exact inferInstance
theorem l11Words_c (letters : Int) (least : Nat) (A : Option Addr) (n c : Nat) (rs : List SlV) (wss : List (List Int)) (w : World) (hR : RowsI w A n rs wss) (hlt : 0 ≤ letters ∧ letters ≤ 1000) (hle : least ≤ 1) (hW : WordsOk letters least wss) :
  Ret Tryz.prog 218 [.int .i64 letters, .slice A n c, .int .i64 (least : Int)] w (fun v w' => v = .bool true ∧ w' = w) := by
 have hll := hR.len
 have hn := hW.1
 refine Ret.of_cd Tryz.func218 rfl Tryz.ntmps218 rfl (post1 rfl) ?_
 refine Cd.seq ?_
 refine Cd.region ?_
 refine Ops.mv_bool rfl rfl rfl ?_
 refine Ops.nil ?_
 refine thenQ_n ?_
 refine Cd.seq ?_
 refine Cd.seq ?_
 refine Cd.region ?_
 refine Ops.mv_int rfl rfl rfl ?_
 refine Ops.nil ?_
 refine thenQ_n ?_
 refine Cd.block ?_
 refine Cd.loop (α := Nat) (fun i => [(0, .int .i64 letters), (1, .slice A n c), (2, .int .i64 (least : Int)), (7, .int .i64 (i : Int))]) (fun i w' => w' = w ∧ i ≤ n) (fun i => n - i) 0 ⟨rfl, rfl, rfl, rfl, trivial⟩ ⟨rfl, Nat.zero_le _⟩ ?_
 rintro i e w1 ⟨rfl, hi⟩
 refine Cd.seq ?_
 refine Cd.seq ?_
 refine Cd.region ?_
 refine Ops.mv_int rfl rfl rfl ?_
 refine Ops.mv_sl rfl rfl rfl ?_
 refine Ops.len rfl rfl ?_
 refine Ops.lss rfl rfl rfl ?_
 refine Ops.nil ?_
 refine thenQ_n ?_
 refine Cd.cond_p _ rfl (fun h1 => ?_) (fun h1 => ?_)
 ·have hrow := hR.at_ (i := (i : Int)) (by omega) (by omega)
  have hx := hW.2 (gl wss (i : Int)) (by rw [gl_mem (by omega)]; exact List.getElem_mem _)
  have hrl := hrow.1
  refine Cd.skip ?_
  refine thenQ_n ?_
  refine Cd.seq ?_
  refine Cd.block ?_
  refine Cd.seq ?_
  refine Cd.region ?_
  refine Ops.mv_int rfl rfl rfl ?_
  refine Ops.mv_sl rfl rfl rfl ?_
  refine Ops.mv_int rfl rfl rfl ?_
  refine Ops.idx hR.top.2 rfl rfl rfl (by omega) (by omega) ?_
  refine Ops.ld_sl hR.top rfl (by omega) rfl rfl ?_
  skip
  refine Ops.call (l11Word_c letters _ _ _ (gl wss (i : Int)) _ hrow hlt (by omega) hx.2.2) rfl rfl rfl ?_
  rintro _ w2 ⟨rfl, rfl⟩
  first | refine Ops.not_p rfl rfl ?_ | refine Ops.not rfl rfl ?_
  refine Ops.mv_bool rfl rfl rfl ?_
  refine Ops.split 21 rfl (fun h => absurd h (by decide)) (fun _ => ?_) --f
  refine Ops.rung rfl rfl rfl ?_
  refine Ops.mv_sl rfl rfl rfl ?_
  refine Ops.rung rfl rfl rfl ?_
  refine Ops.mv_int rfl rfl rfl ?_
  refine Ops.rung rfl rfl rfl ?_
  refine Ops.idx hR.top.2 rfl rfl rfl (by omega) (by omega) ?_
  refine Ops.rung rfl rfl rfl ?_
  refine Ops.ld_sl hR.top rfl (by omega) rfl rfl ?_
  refine Ops.rung rfl rfl rfl ?_
  refine Ops.len rfl rfl ?_
  refine Ops.rung rfl rfl rfl ?_
  refine Ops.mv_int rfl rfl rfl ?_
  refine Ops.rung rfl rfl rfl ?_
  refine Ops.lss rfl rfl rfl ?_
  refine Ops.pick_f rfl rfl rfl ?_
  refine Ops.nil ?_
  refine thenQ_n ?_
  refine Cd.cond_pf rfl (by omega) ?_
  refine Cd.skip ?_
  refine blockQ_n ?_
  refine thenQ_n ?_
  refine Cd.region ?_
  refine Ops.mv_int rfl rfl rfl ?_
  refine Ops.add rfl rfl rfl (by omega) ?_
  refine Ops.mv_int rfl rfl rfl ?_
  refine Ops.nil ?_
  refine thenQ_n ?_
  exact ⟨i + 1, by omega, ⟨rfl, rfl, rfl, rfl, trivial⟩, rfl, by omega⟩
 ·refine Cd.exit ?_
  refine thenQ_x ?_
  refine thenQ_x ?_
  refine blockQ_x ?_
  refine thenQ_n ?_
  refine Cd.seq ?_
  refine Cd.region ?_
  refine Ops.mv_sl rfl rfl rfl ?_
  refine Ops.len rfl rfl ?_
  refine Ops.leq rfl rfl rfl ?_
  refine Ops.mv_bool rfl rfl rfl ?_
  refine Ops.nil ?_
  refine thenQ_n ?_
  refine Cd.ret ?_
  refine ret1_b rfl ?_
  exact ⟨by rw [decide_eq_true (by omega)], rfl⟩

theorem l11Is_c (gens : Nat) (Ar : Option Addr) (nr cr : Nat) (rsr : List SlV) (rel : List (List Int)) (w : World) (hR : RowsI w Ar nr rsr rel) (hg : 1 ≤ gens ∧ gens ≤ 5) (hW : WordsOk (gens : Int) 1 rel) :
  Ret Tryz.prog 217 [.agg #[.int .i64 (gens : Int), .slice Ar nr cr]] w (fun v w' => v = .bool true ∧ St w w' []) := by
 refine Ret.of_cd Tryz.func217 rfl Tryz.ntmps217 rfl (post1 rfl) ?_
 refine Cd.seq ?_
 refine Cd.region ?_
 refine Ops.box2 (St.refl w) rfl rfl ?_
 intro A1 w1 hS1
 refine Ops.mv_bool rfl rfl rfl ?_
 refine Ops.nil ?_
 refine thenQ_n ?_
 refine Cd.seq ?_
 refine Cd.region ?_
 refine Ops.fld (hS1.rd 0 rfl) rfl rfl rfl rfl inferInstance ?_
 refine Ops.ldf_i (hS1.rd 0 rfl) rfl rfl rfl rfl rfl ?_
 skip
 refine Ops.call (l01In_c _ _ _ _) rfl rfl rfl ?_
 rintro _ w2 ⟨rfl, rfl⟩
 refine Ops.mv_bool rfl rfl rfl ?_
 refine Ops.split_p 6 rfl (fun _ => ?_) (fun h => absurd (by omega) h) --t
 refine Ops.rung rfl rfl rfl ?_
 refine Ops.fld (hS1.rd 0 rfl) rfl rfl rfl rfl inferInstance ?_
 refine Ops.rung rfl rfl rfl ?_
 refine Ops.ldf_i (hS1.rd 0 rfl) rfl rfl rfl rfl rfl ?_
 refine Ops.rung rfl rfl rfl ?_
 refine Ops.fld (hS1.rd 0 rfl) rfl rfl rfl rfl inferInstance ?_
 refine Ops.rung rfl rfl rfl ?_
 refine Ops.ldf_s (hS1.rd 0 rfl) rfl rfl rfl rfl rfl ?_
 refine Ops.rung rfl rfl rfl ?_
 refine Ops.call (l11Words_c (gens : Int) 1 Ar nr cr rsr rel _ (hS1.oldRows hR) (by omega) (by decide) hW) rfl rfl rfl ?_
 rintro _ w2 ⟨rfl, rfl⟩
 refine Ops.pick_t rfl rfl rfl ?_
 refine Ops.mv_bool rfl rfl rfl ?_
 refine Ops.nil ?_
 refine thenQ_n ?_
 refine Cd.ret ?_
 refine ret1_b rfl ?_
 exact ⟨rfl, hS1.none⟩
theorem l11Code_c (gens : Nat) (Ar : Option Addr) (nr cr : Nat) (rsr : List SlV) (rel : List (List Int)) (w : World) (hR : RowsI w Ar nr rsr rel) (hg : 1 ≤ gens ∧ gens ≤ 5) (hW : WordsOk (gens : Int) 1 rel) :
  Ret Tryz.prog 213 [.agg #[.int .i64 (gens : Int), .slice Ar nr cr], .slice none 0 0] w (fun v w' => v = .int .i64 0 ∧ St w w' []) := by
 refine Ret.of_cd Tryz.func213 rfl Tryz.ntmps213 rfl (post1 rfl) ?_
 refine Cd.seq ?_
 refine Cd.region ?_
 refine Ops.box2 (St.refl w) rfl rfl ?_
 intro A1 w1 hS1
 refine Ops.mv_int rfl rfl rfl ?_
 refine Ops.nil ?_
 refine thenQ_n ?_
 refine Cd.seq ?_
 refine Cd.seq ?_
 refine Cd.region ?_
 refine Ops.ld_agg 1 (hS1.rd 0 rfl) rfl rfl rfl ?_
 skip
 refine Ops.call (l11Is_c gens Ar nr cr rsr rel _ (hS1.oldRows hR) hg hW) rfl rfl rfl ?_
 rintro _ w2 ⟨rfl, hst⟩
 have hS2 := hS1.later hst.below
 first | refine Ops.not_p rfl rfl ?_ | refine Ops.not rfl rfl ?_
 refine Ops.mv_bool rfl rfl rfl ?_
 refine Ops.split 8 rfl (fun h => absurd h (by decide)) (fun _ => ?_) --f
 refine Ops.rung rfl rfl rfl ?_
 refine Ops.fld (hS2.rd 0 rfl) rfl rfl rfl rfl inferInstance ?_
 refine Ops.rung rfl rfl rfl ?_
 refine Ops.ldf_i (hS2.rd 0 rfl) rfl rfl rfl rfl rfl ?_
 refine Ops.rung rfl rfl rfl ?_
 refine Ops.mv_sl rfl rfl rfl ?_
 refine Ops.rung rfl rfl rfl ?_
 refine Ops.call (l11Words_c (gens : Int) 0 none 0 0 [] [] _ (RowsI.nil _) (by omega) (by decide) ⟨by decide, fun x hx => (nomatch hx)⟩) rfl rfl rfl ?_
 rintro _ w3 ⟨rfl, rfl⟩
 refine Ops.rung rfl rfl rfl ?_
 first | refine Ops.not_p rfl rfl ?_ | refine Ops.not rfl rfl ?_
 refine Ops.pick_f rfl rfl rfl ?_
 refine Ops.nil ?_
 refine thenQ_n ?_
 refine Cd.cond_f rfl ?_
 refine Cd.skip ?_
 refine thenQ_n ?_
 refine Cd.seq ?_
 refine Cd.region ?_
 refine Ops.mv_int rfl rfl rfl ?_
 refine Ops.nil ?_
 refine thenQ_n ?_
 refine Cd.ret ?_
 refine ret1_i rfl ?_
 exact ⟨rfl, hS2.none⟩

/-- how far the open statement is -/
structure Wr4 (w0 : World) (A2 A4 : Option Addr) (gens : Nat) (Ar : Option Addr) (nr cr : Nat) (rel : List (List Int)) (S : Nat → Bool) (e : Env) (w : World) : Prop where
  f1 : e 1 = .slice none 0 0
  f2 : e 2 = .pointer A2
  f4 : e 4 = .pointer A4
  p0 : S 0 = true → e 16 = .pointer (ptrAt A2 0)
  p1 : S 1 = true → e 17 = .int .i64 (gens : Int)
  p2 : S 2 = true → e 18 = .pointer (ptrAt A2 1)
  p3 : S 3 = true → e 19 = .slice Ar nr cr
  mem : ∃ (B : Option Addr) (cB : Nat) (rsB : List SlV) (M bs : List Ck) (Ad : Option Addr), (S 4 = false → M = []) ∧ (S 4 = true → e 20 = .slice B nr cB ∧ rsB.length = nr ∧ M = mat 34 2 B nr cB rsB rel) ∧ (S 5 = true → e 21 = .agg #[.int .i64 (gens : Int), .slice B nr cB]) ∧ (S 6 = false → bs = []) ∧
    (S 6 = true → e 7 = .pointer Ad ∧ ((S 7 = false ∧ bs = [Bx 180 2 Ad [.int .i64 0, .slice none 0 0]]) ∨ (S 7 = true ∧ bs = [Bx 180 2 Ad [.int .i64 (gens : Int), .slice B nr cB]]))) ∧
    St w0 w (bs ++ (M ++ [Bx 180 2 A4 [.int .i64 0, .slice none 0 0], Bx 180 2 A2 [.int .i64 (gens : Int), .slice Ar nr cr]]))

theorem WithRelators_c (gens : Nat) (Ar : Option Addr) (nr cr : Nat) (rsr : List SlV) (rel : List (List Int)) (w : World) (hR : RowsI w Ar nr rsr rel) (hg : 1 ≤ gens ∧ gens ≤ 5) (hW : WordsOk (gens : Int) 1 rel) :
  Ret Tryz.prog 197 [.agg #[.int .i64 (gens : Int), .slice Ar nr cr], .slice none 0 0] w (fun v w' => ∃ B cB rsB, v = .tuple #[.agg #[.int .i64 (gens : Int), .slice B nr cB], .int .i64 0] ∧ rsB.length = nr ∧ St w w' (mat 34 2 B nr cB rsB rel)) := by
 have hrl := hR.len
 have h24 := hW.1
 refine Ret.of_cd Tryz.func197 rfl Tryz.ntmps197 rfl (postc2 rfl rfl) ?_
 refine Cd.seq ?_
 refine Cd.region ?_
 refine Ops.box2 (St.refl w) rfl rfl ?_
 intro A2 w1 hS1
 skip
 refine Ops.new2 hS1 rfl ?_
 intro A4 w2 hS2
 refine Ops.mv_int rfl rfl rfl ?_
 refine Ops.nil ?_
 refine thenQ_n ?_
 refine Cd.seq ?_
 refine Cd.seq ?_
 refine Cd.region ?_
 refine Ops.ld_agg 1 (hS2.rd 1 rfl) rfl rfl rfl ?_
 refine Ops.mv_sl rfl rfl rfl ?_
 refine Ops.call (l11Code_c gens Ar nr cr rsr rel _ (hS2.oldRows hR) hg hW) rfl rfl rfl ?_
 rintro _ w3 ⟨rfl, hst⟩
 have hS3 := hS2.later hst.below
 refine Ops.mv_int rfl rfl rfl ?_
 refine Ops.nil ?_
 refine thenQ_n ?_
 refine Cd.seq ?_
 refine Cd.region ?_
 refine Ops.mv_int rfl rfl rfl ?_
 refine Ops.neq rfl rfl rfl ?_
 refine Ops.nil ?_
 refine thenQ_n ?_
 refine Cd.cond_pf rfl (fun h => h rfl) ?_
 refine Cd.skip ?_
 refine thenQ_n ?_
 refine Cd.seq ?_
 refine Cd.drawS (by kernel_rfl) (by kernel_rfl) (fun S e1 w1 => Wr4 w A2 A4 gens Ar nr cr rel S e1 w1) (fun w4 hb => ⟨rfl, rfl, rfl, fun h => (nomatch h), fun h => (nomatch h), fun h => (nomatch h), fun h => (nomatch h), none, 0, [], [], [], none, fun _ => rfl, fun h => (nomatch h), fun h => (nomatch h), fun _ => rfl, fun h => (nomatch h), hS3.later hb⟩) ?_ ?_
 ·intro S k o e1 w4 hk hSk hd hcl hI
  obtain ⟨f1, f2, f4, p0, p1, p2, p3, B, cB, rsB, M, bs, Ad, m0, m1, m2, m3, m4, hT⟩ := hI
  have hRR : RowsI w4 Ar nr rsr rel := hT.oldRows hR
  have hB2 : Rd w4 A2 2 (fun j => [Value.int .i64 (gens : Int), .slice Ar nr cr].getD j undef) := (((hT.sub (List.sublist_append_right _ _)).sub (List.sublist_append_right _ _))).rd 1 rfl
  match k, hk, hSk with
  | 0, hk, hSk =>
   obtain rfl := Option.some.inj hk
   refine Ops.fld hB2 (by exact f2) rfl rfl rfl inferInstance ?_
   refine Ops.nil ?_
   exact ⟨f1, f2, f4, fun _ => rfl, p1, p2, p3, B, cB, rsB, M, bs, Ad, m0, m1, m2, m3, m4, hT⟩
  | 1, hk, hSk =>
   obtain rfl := Option.some.inj hk
   refine Ops.ldf_i hB2 (by exact p0 (deps_of hd 0 rfl)) rfl rfl rfl rfl ?_
   refine Ops.nil ?_
   exact ⟨f1, f2, f4, p0, fun _ => rfl, p2, p3, B, cB, rsB, M, bs, Ad, m0, m1, m2, m3, m4, hT⟩
  | 2, hk, hSk =>
   obtain rfl := Option.some.inj hk
   refine Ops.fld hB2 (by exact f2) rfl rfl rfl inferInstance ?_
   refine Ops.nil ?_
   exact ⟨f1, f2, f4, p0, p1, fun _ => rfl, p3, B, cB, rsB, M, bs, Ad, m0, m1, m2, m3, m4, hT⟩
  | 3, hk, hSk =>
   obtain rfl := Option.some.inj hk
   refine Ops.ldf_s hB2 (by exact p2 (deps_of hd 2 rfl)) rfl rfl rfl rfl ?_
   refine Ops.nil ?_
   exact ⟨f1, f2, f4, p0, p1, p2, fun _ => rfl, B, cB, rsB, M, bs, Ad, m0, m1, m2, m3, m4, hT⟩
  | 4, hk, hSk =>
   obtain rfl := Option.some.inj hk
   have hM := m0 hSk
   subst hM
   have n5 : S 5 = false := by
    cases h : S 5 with
    | false => rfl
    | true => rw [← hSk]; exact (deps_of (hcl 5 _ h rfl) 4 rfl).symm
   have n7 : S 7 = false := by
    cases h : S 7 with
    | false => rfl
    | true => rw [← n5]; exact (deps_of (hcl 7 _ h rfl) 5 rfl).symm
   refine Ops.call (l01Own2_c Ar nr cr rsr rel _ hRR (by omega) (fun j hj => by
    have hrow := hR.at_ (i := (j : Int)) (by omega) (by omega)
    have h1 := (hW.2 (gl rel (j : Int)) (by rw [gl_mem (by omega)]; exact List.getElem_mem _)).2.1
    have h2 := hrow.1
    have e : rg rsr (j : Int) = rsr.getD j slNil := by simp [rg]
    rw [← e]
    omega)) rfl (by exact congrArg (fun v => [v]) (p3 (deps_of hd 3 rfl))) rfl ?_
   rintro _ w5 ⟨B', c', rs', rfl, hrl', hst5⟩
   refine Ops.nil ?_
   refine ⟨f1, f2, f4, p0, p1, p2, p3, B', c', rs', _, bs, Ad, fun h => (nomatch (show true = false from h)), fun _ => ⟨rfl, hrl', rfl⟩, fun h => (nomatch n5.symm.trans h), m3, fun h => ?_, ?_⟩
   ·obtain ⟨h7, h8⟩ := m4 h
    refine ⟨h7, .inl ⟨n7, ?_⟩⟩
    rcases h8 with h8 | h8
    ·exact h8.2
    ·exact (nomatch n7.symm.trans h8.1)
   ·have h9 := hT.call hst5
    have h9 : St w w5 (mat 34 2 B' nr c' rs' rel ++ (bs ++ [Bx 180 2 A4 [.int .i64 0, .slice none 0 0], Bx 180 2 A2 [.int .i64 (gens : Int), .slice Ar nr cr]])) := h9
    exact h9.toBack
  | 5, hk, hSk =>
   obtain rfl := Option.some.inj hk
   obtain ⟨h20, hrB, hM⟩ := m1 (deps_of hd 4 rfl)
   refine Ops.bld2c (by exact inferInstance) (by exact inferInstance) rfl rfl (by exact p1 (deps_of hd 1 rfl)) (by exact h20) rfl rfl rfl ?_
   refine Ops.nil ?_
   exact ⟨f1, f2, f4, p0, p1, p2, p3, B, cB, rsB, M, bs, Ad, m0, m1, fun _ => rfl, m3, m4, hT⟩
  | 6, hk, hSk =>
   obtain rfl := Option.some.inj hk
   have hbs := m3 hSk
   subst hbs
   have n7 : S 7 = false := by
    cases h : S 7 with
    | false => rfl
    | true => rw [← hSk]; exact (deps_of (hcl 7 _ h rfl) 6 rfl).symm
   refine Ops.new2 hT rfl ?_
   intro Ae w5 hT5
   refine Ops.nil ?_
   exact ⟨f1, f2, f4, p0, p1, p2, p3, B, cB, rsB, M, [Bx 180 2 Ae [.int .i64 0, .slice none 0 0]], Ae, m0, m1, m2, fun h => (nomatch (show true = false from h)), fun _ => ⟨rfl, .inl ⟨n7, rfl⟩⟩, hT5⟩
  | 7, hk, hSk =>
   obtain rfl := Option.some.inj hk
   have hs6 := deps_of hd 6 rfl
   obtain ⟨h7, h8⟩ := m4 hs6
   rcases h8 with ⟨_, rfl⟩ | h8
   ·refine Ops.st_agg 2 0 hT rfl (by exact h7) (by exact m2 (deps_of hd 5 rfl)) rfl rfl rfl rfl ?_
    intro w5 hT5
    refine Ops.nil ?_
    exact ⟨f1, f2, f4, p0, p1, p2, p3, B, cB, rsB, M, [Bx 180 2 Ad [.int .i64 (gens : Int), .slice B nr cB]], Ad, m0, m1, m2, fun h => (nomatch hs6.symm.trans h), fun _ => ⟨h7, .inr ⟨rfl, rfl⟩⟩, hT5⟩
   ·exact (nomatch hSk.symm.trans h8.1)
  | q + 8, hk, _ => exact (nomatch hk)
 ·intro S e1 w4 hall hI
  obtain ⟨f1, f2, f4, p0, p1, p2, p3, B, cB, rsB, M, bs, Ad, m0, m1, m2, m3, m4, hT⟩ := hI
  obtain ⟨h7, h8⟩ := m4 (hall 6 (by decide))
  rcases h8 with h8 | ⟨_, rfl⟩
  ·exact (nomatch (hall 7 (by decide)).symm.trans h8.1)
  obtain ⟨_, hrB, hM⟩ := m1 (hall 4 (by decide))
  subst hM
  refine thenQ_ext (F := [(1, .slice none 0 0), (2, .pointer A2), (4, .pointer A4), (7, .pointer Ad)]) ⟨f1, f2, f4, h7, trivial⟩ ?_
  have hT := (hT : St w w4 ([Bx 180 2 Ad [.int .i64 (gens : Int), .slice B nr cB]] ++ (mat 34 2 B nr cB rsB rel ++ [Bx 180 2 A4 [.int .i64 0, .slice none 0 0], Bx 180 2 A2 [.int .i64 (gens : Int), .slice Ar nr cr]])))
  have hT2 : St w w4 ([Bx 180 2 Ad [.int .i64 (gens : Int), .slice B nr cB], Bx 180 2 A4 [.int .i64 0, .slice none 0 0], Bx 180 2 A2 [.int .i64 (gens : Int), .slice Ar nr cr]] ++ mat 34 2 B nr cB rsB rel) := hT.perm (List.Perm.cons _ (List.perm_append_comm (l₂ := [_, _])))
  refine thenQ_n ?_
  refine Cd.seq ?_
  refine Cd.seq ?_
  refine Cd.region ?_
  refine Ops.mv_int rfl rfl rfl ?_
  refine Ops.nil ?_
  refine thenQ_n ?_
  refine Cd.block ?_
  refine Cd.loop (α := Unit) (fun _ => [(1, .slice none 0 0), (4, .pointer A4), (7, .pointer Ad), (8, .int .i64 0)]) (fun _ w' => w' = w4) (fun _ => 0) () ⟨rfl, rfl, rfl, rfl, trivial⟩ rfl ?_
  rintro ⟨⟩ e w5 rfl
  refine Cd.seq ?_
  refine Cd.seq ?_
  refine Cd.region ?_
  refine Ops.mv_int rfl rfl rfl ?_
  refine Ops.mv_sl rfl rfl rfl ?_
  refine Ops.len rfl rfl ?_
  refine Ops.lss rfl rfl rfl ?_
  refine Ops.nil ?_
  refine thenQ_n ?_
  refine Cd.cond_pf rfl (by decide) ?_
  refine Cd.exit ?_
  refine thenQ_x ?_
  refine thenQ_x ?_
  refine blockQ_x ?_
  refine thenQ_n ?_
  refine Cd.seq ?_
  refine Cd.seq ?_
  refine Cd.region ?_
  refine Ops.fld (hT2.rd 0 rfl) rfl rfl rfl rfl inferInstance ?_
  refine Ops.ldf_s (hT2.rd 0 rfl) rfl rfl rfl rfl rfl ?_
  refine Ops.len rfl rfl ?_
  refine Ops.gtr rfl rfl rfl ?_
  refine Ops.nil ?_
  refine thenQ_n ?_
  refine Cd.cond_pf rfl (by omega) ?_
  refine Cd.skip ?_
  refine thenQ_n ?_
  refine Cd.seq ?_
  refine Cd.region ?_
  refine Ops.ld_agg 1 (hT2.rd 0 rfl) rfl rfl rfl ?_
  skip
  refine Ops.st_agg 2 1 hT2 rfl rfl rfl rfl rfl rfl rfl ?_
  intro w6 hT6
  refine Ops.mv_int rfl rfl rfl ?_
  refine Ops.nil ?_
  refine thenQ_n ?_
  refine Cd.ret ?_
  skip
  refine retc2_r rfl (hT6.rd 1 rfl) rfl ?_
  exact ⟨B, cB, rsB, rfl, hrB, ((hT6.sub ((List.Sublist.refl _).cons _)).sub ((List.Sublist.refl _).cons _)).sub ((List.Sublist.refl _).cons _)⟩
end Go.Proofs.YtjpkmpihmilgoaaGreat.Vc
/-
 The reference's universal polytope, walked. Conditions: as each states them.
-/
namespace Go.Proofs.YtjpkmpihmilgoaaGreat.Vc
open Go.RowKit

theorem l11Small_c (gens : Nat) (Ar : Option Addr) (nr cr : Nat) (rsr : List SlV) (rel : List (List Int)) (T : List (List Int)) (w : World) (hR : RowsI w Ar nr rsr rel) (hrel : ∀ x ∈ rel, x.length ≤ 1000000) (hnr : nr ≤ 1000000) (hp : tableP gens rel = some T) (hT0 : 0 < T.length) (hT4 : (gl T 0).length ≤ 400) :
  Ret Tryz.prog 199 [.agg #[.int .i64 (gens : Int), .slice Ar nr cr], .slice none 0 0] w (fun v w' => ∃ A c rs, v = .tuple #[.slice A T.length c, .int .i64 0] ∧ rs.length = T.length ∧ St w w' (mat 34 2 A T.length c rs T)) := by
 refine Ret.of_cd Tryz.func199 rfl Tryz.ntmps199 rfl (post2 rfl) ?_
 refine Cd.seq ?_
 refine Cd.region ?_
 refine Ops.box2 (St.refl w) rfl rfl ?_
 intro A2 w1 hS1
 refine Ops.mv_sl rfl rfl rfl ?_
 refine Ops.mv_int rfl rfl rfl ?_
 refine Ops.nil ?_
 refine thenQ_n ?_
 refine Cd.seq ?_
 refine Cd.region ?_
 refine Ops.ld_agg 1 (hS1.rd 0 rfl) rfl rfl rfl ?_
 refine Ops.mv_sl rfl rfl rfl ?_
 refine Ops.call (l11Table_c gens Ar nr cr rsr rel T _ (hS1.oldRows hR) hrel hnr hp) rfl rfl rfl ?_
 rintro _ w2 ⟨A, c, rs, rfl, hrl, hst⟩
 have hS2 := hS1.call hst
 have hRT : RowsI w2 A T.length rs T := St.rowsI hS2 rfl
 have hr0 := hRT.at_ (i := 0) (Int.le_refl _) (by omega)
 have hr1 := hr0.1
 refine Ops.mv_tup rfl rfl rfl ?_
 refine Ops.extract rfl rfl rfl ?_
 refine Ops.extract rfl rfl rfl ?_
 refine Ops.mv_sl rfl rfl rfl ?_
 refine Ops.mv_bool rfl rfl rfl ?_
 refine Ops.nil ?_
 refine thenQ_n ?_
 refine Cd.seq ?_
 refine Cd.seq ?_
 refine Cd.region ?_
 refine Ops.mv_bool rfl rfl rfl ?_
 first | refine Ops.not_p rfl rfl ?_ | refine Ops.not rfl rfl ?_
 refine Ops.mv_bool rfl rfl rfl ?_
 refine Ops.split 16 rfl (fun h => absurd h (by decide)) (fun _ => ?_) --f
 refine Ops.rung rfl rfl rfl ?_
 refine Ops.mv_sl rfl rfl rfl ?_
 refine Ops.rung rfl rfl rfl ?_
 refine Ops.idx hRT.top.2 rfl rfl rfl (by omega) (by omega) ?_
 refine Ops.rung rfl rfl rfl ?_
 refine Ops.ld_sl (i := 0) hRT.top rfl (by omega) rfl rfl ?_
 refine Ops.rung rfl rfl rfl ?_
 refine Ops.len rfl rfl ?_
 refine Ops.rung rfl rfl rfl ?_
 refine Ops.gtr rfl rfl rfl ?_
 refine Ops.pick_f rfl rfl rfl ?_
 refine Ops.nil ?_
 refine thenQ_n ?_
 refine Cd.cond_pf rfl (by omega) ?_
 refine Cd.skip ?_
 refine thenQ_n ?_
 refine Cd.seq ?_
 refine Cd.region ?_
 refine Ops.mv_sl rfl rfl rfl ?_
 refine Ops.mv_sl rfl rfl rfl ?_
 refine Ops.mv_int rfl rfl rfl ?_
 refine Ops.nil ?_
 refine thenQ_n ?_
 refine Cd.ret ?_
 refine ret2_si rfl rfl ?_
 exact ⟨A, c, rs, rfl, hrl, hS2.sub (List.sublist_append_left _ _)⟩

/-- what a diagram gives -/
structure UniOk (labels : List Int) (T : List (List Int)) : Prop where
 len : labels.length < 5
 lab : ∀ x ∈ labels, x = 0 ∨ (2 ≤ x ∧ x ≤ 32)
 words : WordsOk ((labels.length + 1 : Nat) : Int) 1 (presP labels)
 tab : tableP (labels.length + 1) (presP labels) = some T
 mani : Mani T

theorem specUniversalPolytope_c (Al : Option Addr) (nl cl : Nat) (labels : List Int) (T : List (List Int)) (w : World) (hR : RdI w Al nl labels) (hU : UniOk labels T) :
  Ret Tryz.prog 161 [.slice Al nl cl, .slice none 0 0] w (AnsX T 0 w) := by
 obtain ⟨u1, u2, u3, u4, u5⟩ := hU
 have hll := hR.1
 have hT5 := u5.1
 have hT40 := u5.2.1
 rw [hll] at u1 u3 u4
 refine Ret.of_cd Tryz.func161 rfl Tryz.ntmps161 rfl (postc2 rfl rfl) ?_
 refine Cd.seq ?_
 refine Cd.region ?_
 refine Ops.new1 (St.refl w) rfl ?_
 intro A4 w1 hS1
 refine Ops.mv_int rfl rfl rfl ?_
 refine Ops.nil ?_
 refine thenQ_n ?_
 refine Cd.seq ?_
 refine Cd.seq ?_
 refine Cd.region ?_
 refine Ops.mv_sl rfl rfl rfl ?_
 refine Ops.call (l12Is_c Al nl cl labels _ (hS1.oldI hR) u1 u2) rfl rfl rfl ?_
 rintro _ w2 ⟨rfl, rfl⟩
 first | refine Ops.not_p rfl rfl ?_ | refine Ops.not rfl rfl ?_
 refine Ops.nil ?_
 refine thenQ_n ?_
 refine Cd.cond_f rfl ?_
 refine Cd.skip ?_
 refine thenQ_n ?_
 refine Cd.seq ?_
 refine Cd.region ?_
 refine Ops.mv_sl rfl rfl rfl ?_
 refine Ops.call (l12Presentation_c Al nl cl labels _ (hS1.oldI hR) (by omega) (fun x hx => by have := u2 x hx; omega)) rfl rfl rfl ?_
 rintro _ w3 ⟨B, c, rs, rfl, hrl, hst3⟩
 have hS3 := hS1.call hst3
 have hRp : RowsI w3 B (presP labels).length rs (presP labels) := St.rowsI hS3 rfl
 have hgens : ((nl : Int) + 1) = ((nl + 1 : Nat) : Int) := by omega
 rw [hgens]
 refine Ops.mv_sl rfl rfl rfl ?_
 refine Ops.call (WithRelators_c (nl + 1) B (presP labels).length c rs (presP labels) _ hRp (by omega) u3) rfl rfl rfl ?_
 rintro _ w4 ⟨B2, c2, rs2, rfl, hrl2, hst4⟩
 have hS4 := hS3.call hst4
 refine Ops.mv_tup rfl rfl rfl ?_
 refine Ops.extract rfl rfl rfl ?_
 refine Ops.extract rfl rfl rfl ?_
 refine Ops.new2 hS4 rfl ?_
 intro A6 w5 hS5
 skip
 refine Ops.st_agg 2 0 hS5 rfl rfl rfl rfl rfl rfl rfl ?_
 intro w6 hS6
 have hS6 : St w w6 (Bx 180 2 A6 [.int .i64 ((nl + 1 : Nat) : Int), .slice B2 (presP labels).length c2] :: (mat 34 2 B2 (presP labels).length c2 rs2 (presP labels) ++ (mat 34 2 B (presP labels).length c rs (presP labels) ++ [Bx 32 1 A4 [.slice none 0 0]]))) := hS6
 have hRq : RowsI w6 B2 (presP labels).length rs2 (presP labels) := St.rowsI hS6.tail rfl
 refine Ops.mv_int rfl rfl rfl ?_
 refine Ops.nil ?_
 refine thenQ_n ?_
 refine Cd.seq ?_
 refine Cd.seq ?_
 refine Cd.region ?_
 refine Ops.mv_int rfl rfl rfl ?_
 refine Ops.neq rfl rfl rfl ?_
 refine Ops.nil ?_
 refine thenQ_n ?_
 refine Cd.cond_pf rfl (fun h => h rfl) ?_
 refine Cd.skip ?_
 refine thenQ_n ?_
 refine Cd.seq ?_
 refine Cd.region ?_
 refine Ops.ld_agg 1 (hS6.rd 0 rfl) rfl rfl rfl ?_
 skip
 refine Ops.call (l11Small_c (nl + 1) B2 (presP labels).length c2 rs2 (presP labels) T _ hRq (fun x hx => by have := (u3.2 x hx).2.1; omega) (by have := u3.1; omega) u4 (by omega) (by omega)) rfl rfl rfl ?_
 rintro _ w7 ⟨A, cA, rsA, rfl, hrlA, hst7⟩
 have hS7 := hS6.call hst7
 have hRT : RowsI w7 A T.length rsA T := St.rowsI hS7 rfl
 have hr0 := hRT.at_ (i := 0) (Int.le_refl _) (by omega)
 have hr1 := hr0.1
 refine Ops.mv_tup rfl rfl rfl ?_
 refine Ops.extract rfl rfl rfl ?_
 refine Ops.extract rfl rfl rfl ?_
 refine Ops.mv_sl rfl rfl rfl ?_
 refine Ops.mv_int rfl rfl rfl ?_
 refine Ops.nil ?_
 refine thenQ_n ?_
 refine Cd.seq ?_
 refine Cd.seq ?_
 refine Cd.region ?_
 refine Ops.mv_int rfl rfl rfl ?_
 refine Ops.neq rfl rfl rfl ?_
 refine Ops.mv_bool rfl rfl rfl ?_
 refine Ops.split_p 33 rfl (fun h => absurd rfl h) (fun _ => ?_) --f
 refine Ops.rung rfl rfl rfl ?_
 refine Ops.mv_sl rfl rfl rfl ?_
 refine Ops.rung rfl rfl rfl ?_
 refine Ops.idx hRT.top.2 rfl rfl rfl (by omega) (by omega) ?_
 refine Ops.rung rfl rfl rfl ?_
 refine Ops.ld_sl (i := 0) hRT.top rfl (by omega) rfl rfl ?_
 refine Ops.rung rfl rfl rfl ?_
 refine Ops.len rfl rfl ?_
 refine Ops.rung rfl rfl rfl ?_
 refine Ops.gtr rfl rfl rfl ?_
 refine Ops.pick_f rfl rfl rfl ?_
 refine Ops.nil ?_
 refine thenQ_n ?_
 refine Cd.cond_pf rfl (by omega) ?_
 refine Cd.skip ?_
 refine thenQ_n ?_
 refine Cd.seq ?_
 refine Cd.region ?_
 refine Ops.mv_sl rfl rfl rfl ?_
 refine Ops.bld1 (by exact inferInstance) rfl rfl rfl rfl ?_
 refine Ops.new1 hS7 rfl ?_
 intro A10 w8 hS8
 skip
 refine Ops.st_agg 1 0 hS8 rfl rfl rfl rfl rfl rfl rfl ?_
 intro w9 hS9
 have hS9 : St w w9 (Bx 32 1 A10 [.slice A T.length cA] :: (mat 34 2 A T.length cA rsA T ++ (Bx 180 2 A6 [.int .i64 ((nl + 1 : Nat) : Int), .slice B2 (presP labels).length c2] :: (mat 34 2 B2 (presP labels).length c2 rs2 (presP labels) ++ (mat 34 2 B (presP labels).length c rs (presP labels) ++ [Bx 32 1 A4 [.slice none 0 0]]))))) := hS9
 have hRT9 : RowsI w9 A T.length rsA T := St.rowsI hS9.tail rfl
 refine Ops.nil ?_
 refine thenQ_n ?_
 refine Cd.seq ?_
 refine Cd.seq ?_
 refine Cd.region ?_
 refine Ops.ld_agg 0 (hS9.rd 0 rfl) rfl rfl rfl ?_
 refine Ops.call (l02Is_c A T.length cA rsA T _ hRT9 (by omega)) rfl rfl rfl ?_
 rintro _ w10 ⟨rfl, hst10⟩
 have hS10 := hS9.later hst10.below
 have hS11 : St w w10 ([Bx 32 1 A10 [.slice A T.length cA], Bx 32 1 A4 [.slice none 0 0]] ++ mat 34 2 A T.length cA rsA T) := by
  have h1 : St w w10 (Bx 32 1 A10 [.slice A T.length cA] :: (mat 34 2 A T.length cA rsA T ++ [Bx 32 1 A4 [.slice none 0 0]])) :=
   hS10.sub (List.Sublist.cons_cons _ (List.Sublist.append_left (((List.sublist_append_right _ _).trans (List.sublist_append_right _ _)).cons _) _))
  exact h1.perm (List.Perm.cons _ (List.perm_append_comm (l₂ := [_])))
 first | refine Ops.not_p rfl rfl ?_ | refine Ops.not rfl rfl ?_
 refine Ops.nil ?_
 refine thenQ_n ?_
 refine Cd.cond_pf rfl (fun h => h u5) ?_
 refine Cd.skip ?_
 refine thenQ_n ?_
 refine Cd.seq ?_
 refine Cd.region ?_
 refine Ops.ld_agg 0 (hS11.rd 0 rfl) rfl rfl rfl ?_
 refine Ops.st_agg 1 1 hS11 rfl rfl rfl rfl rfl rfl rfl ?_
 intro w12 hS12
 refine Ops.mv_int rfl rfl rfl ?_
 refine Ops.nil ?_
 refine thenQ_n ?_
 refine Cd.ret ?_
 skip
 refine retc2_r rfl (hS12.rd 1 rfl) rfl ?_
 exact ⟨A, cA, rsA, rfl, hrlA, (hS12.sub ((List.Sublist.refl _).cons _)).sub ((List.Sublist.refl _).cons _)⟩
end Go.Proofs.YtjpkmpihmilgoaaGreat.Vc
/-
 Universal polytopes of small diagrams, computed. Conditions: none.
-/
namespace Go.Proofs.YtjpkmpihmilgoaaGreat.Vc
open Go.RowKit

def uniT (labels : List Int) : List (List Int) := (tableP (labels.length + 1) (presP labels)).getD []
def uniB (labels : List Int) : Bool := decide (labels.length < 5) && decide (∀ x ∈ labels, x = 0 ∨ (2 ≤ x ∧ x ≤ 32)) && decide (WordsOk ((labels.length + 1 : Nat) : Int) 1 (presP labels)) && (tableP (labels.length + 1) (presP labels)).isSome && decide (Mani (uniT labels))
theorem uniOk {labels : List Int} (h : uniB labels = true) : UniOk labels (uniT labels) := by
 simp only [uniB, Bool.and_eq_true, decide_eq_true_eq] at h
 obtain ⟨⟨⟨⟨h1, h2⟩, h3⟩, h4⟩, h5⟩ := h
 refine ⟨h1, h2, h3, ?_, h5⟩
 obtain ⟨T, hT⟩ := Option.isSome_iff_exists.1 h4
 rw [hT, uniT, hT]
 rfl
set_option maxRecDepth 100000 in
theorem uni_22 : uniB [2, 2] = true := by kernel_rfl
set_option maxRecDepth 100000 in
theorem uni_23 : uniB [2, 3] = true := by kernel_rfl
set_option maxRecDepth 100000 in
theorem uni_42 : uniB [4, 2] = true := by kernel_rfl
set_option maxRecDepth 100000 in
theorem uni_52 : uniB [5, 2] = true := by kernel_rfl
set_option maxRecDepth 100000 in
theorem uni_26 : uniB [2, 6] = true := by kernel_rfl
set_option maxRecDepth 100000 in
theorem uni_33 : uniB [3, 3] = true := by kernel_rfl
set_option maxRecDepth 100000 in
theorem uni_43 : uniB [4, 3] = true := by kernel_rfl
set_option maxRecDepth 100000 in
theorem uni_34 : uniB [3, 4] = true := by kernel_rfl
end Go.Proofs.YtjpkmpihmilgoaaGreat.Vc
/-
 The draws of maniplexes, walked: solids. Conditions: as each states them.
-/
namespace Go.Proofs.YtjpkmpihmilgoaaGreat.Vc
open Go.RowKit

section
variable {P : Program} {N : Nat} {ops : Array Oper} {K : Env → World → Prop} {rest : List Oper} {e : Env} {w0 w : World} {ks : List Ck} {d : Nat} {ty : TypeId} {pos : String} {af : Array Edge}
def idxR : Nat → List SlV → List (Nat × Value)
 | _, [] => []
 | k, v :: r => (k, v.v) :: idxR (k + 1) r
theorem fill_rows : ∀ (vs : List SlV) (k : Nat) (cells : Array Value), k + vs.length ≤ cells.size → ∃ out, Instr.fill (fun i => some (i * 1, 1)) cells (idxR k vs) = some out ∧ out.size = cells.size ∧ (∀ j, j < k → out[j]? = cells[j]?) ∧ (∀ j, j < vs.length → out[k + j]? = vs[j]?.map SlV.v) ∧ (∀ j, k + vs.length ≤ j → out[j]? = cells[j]?)
 | [], k, cells, _ => ⟨cells, rfl, rfl, fun _ _ => rfl, fun j hj => absurd hj (Nat.not_lt_zero _), fun _ _ => rfl⟩
 | v :: r, k, cells, h => by
  have hk : k < cells.size := by simp at h; omega
  obtain ⟨out, h1, h2, h3, h4, h5⟩ := fill_rows r (k + 1) (cells.setIfInBounds k v.v) (by simp at h ⊢; omega)
  refine ⟨out, ?_, by rw [h2]; simp, fun j hj => ?_, fun j hj => ?_, fun j hj => ?_⟩
  ·show Instr.fill _ cells ((k, v.v) :: idxR (k + 1) r) = some out
   rw [← h1]
   simp [Instr.fill, SlV.v, Value.cells, show ¬ cells.size < k + 1 by omega]
  ·rw [h3 j (by omega), Array.getElem?_setIfInBounds, if_neg (by omega)]
  ·cases j with
   | zero => rw [Nat.add_zero, h3 k (by omega), Array.getElem?_setIfInBounds, if_pos rfl, if_pos hk]; rfl
   | succ q =>
    have := h4 q (by simpa using hj)
    rw [show k + (q + 1) = k + 1 + q by omega, this]
    rfl
  ·rw [h5 j (by simp at hj ⊢; omega), Array.getElem?_setIfInBounds, if_neg (by simp at hj; omega)]
theorem fill_litR (vs : List SlV) (cells : Array Value) (h : cells.size = vs.length) : Instr.fill (fun i => some (i * 1, 1)) cells (idxR 0 vs) = some (vs.map SlV.v).toArray := by
 obtain ⟨out, h1, h2, _, h4, _⟩ := fill_rows vs 0 cells (by omega)
 rw [h1]
 congr 1
 apply Array.ext'
 apply List.ext_getElem?
 intro j
 by_cases hj : j < vs.length
 ·have := h4 j hj
  rw [Nat.zero_add] at this
  simpa using this
 ·rw [List.getElem?_eq_none (by simpa [h2, h] using hj), List.getElem?_eq_none (by simpa using hj)]
theorem Ops.bsLR {t el : TypeId} {z : Value} {b n : Nat} [Und P t (.slice el)] [Inf P el z 1 b] {ps : Array (Nat × Operand)} (vs : List SlV) (hS : St w0 w ks) (hv : (ps.toList.map fun p => (p.1, ev e p.2)) = idxR 0 vs) (hn : vs.length = n) (hn0 : n ≠ 0) (hn1 : n ≤ 1000) (hz : z.cells = #[z]) (hb : Nat.blt d N = true)
    (hK : ∀ A w', St w0 w' (CkR el A n n vs :: ks) → Ops P N ops K rest (upd e d (.slice A n n)) w') : Ops P N ops K (⟨some d, .buildSlice t n ps, ty, pos, af, none⟩ :: rest) e w := by
  subst hn
  obtain ⟨inf, hi, hz0, hs, hby⟩ := Inf.get P el
  have hA := hS.alloc (vs.map SlV.v) el (by simp [maxLen]; omega) (isM_R _)
  refine .val (w' := w.alloc (.cells (vs.map SlV.v).toArray el)) ?_ hb (hK _ _ (by simpa [CkR] using hA))
  have hf := fill_litR vs ((Array.range (vs.length * 1)).map ((#[z] : Array Value)[· % (#[z] : Array Value).size]!)) (by simp)
  have hv' : (ps.map fun p => (p.1, ev e p.2)).toList = idxR 0 vs := by rw [Array.toList_map]; exact hv
  have h24 : ¬ 16777216 < vs.length := by omega
  simp only [Nat.mul_one] at hf
  simp [execOp, Instr.buildSlice, run_underlying (Und.out (P := P) (t := t)), sizeOf, typeInfo, zeroValue, hi, hs, hz0, hz, newRow, hv, h24, hn0]
  simp at hf
  simp [hf]
end
theorem Mani.bound {xss : List (List Int)} (h : Mani xss) : xss.length ≤ 6 ∧ ∀ p ∈ xss, p.length ≤ 20001 ∧ ∀ x ∈ p, -1 ≤ x ∧ x ≤ 20001 := by
 obtain ⟨h1, h2, h3, _⟩ := h
 refine ⟨by omega, fun p hp => ?_⟩
 obtain ⟨q1, q2, _⟩ := h3 p hp
 obtain ⟨q3, q4, _⟩ := q2
 exact ⟨by omega, fun x hx => by have := q4 x hx; omega⟩

theorem uni_at : ∀ r : Nat, r < 8 → UniOk (gl [[3, 3], [3, 3], [4, 3], [3, 4], [2, 3], [4, 2], [5, 2], [2, 6]] (r : Int)) (uniT (gl [[3, 3], [3, 3], [4, 3], [3, 4], [2, 3], [4, 2], [5, 2], [2, 6]] (r : Int)))
 | 0, _ => uniOk uni_33
 | 1, _ => uniOk uni_33
 | 2, _ => uniOk uni_43
 | 3, _ => uniOk uni_34
 | 4, _ => uniOk uni_23
 | 5, _ => uniOk uni_42
 | 6, _ => uniOk uni_52
 | 7, _ => uniOk uni_26
 | r + 8, h => absurd h (by omega)

theorem l14DrawSolid_c {w0 w : World} {ks : List Ck} (ix : Nat) {As : Option Addr} {k : Ck} (most : Nat) (hS : St w0 w ks) (hk : ks[ix]? = some k) (hK : srcK w0 As k) (hm : 8 ≤ most ∧ most ≤ 1000) :
  Ret Tryz.prog 121 [.pointer As, .int .i64 (most : Int)] w (AnsS w0 ks ix As) := by
 refine Ret.of_cd Tryz.func121 rfl Tryz.ntmps121 rfl (postc rfl rfl) ?_
 refine Cd.seq ?_
 refine Cd.region ?_
 refine Ops.new1 hS rfl ?_
 intro A4 w1 hS1
 refine Ops.nil ?_
 refine thenQ_n ?_
 refine Cd.join (α := Ck) (fun _ => [(0, .pointer As), (1, .int .i64 (most : Int)), (4, .pointer A4)]) (fun k' w' => srcK w0 As k' ∧ St w0 w' (Bx 32 1 A4 [.slice none 0 0] :: ks.set ix k')) ?_ ?_
 ·refine Cd.seq ?_
  refine Cd.region ?_
  refine Ops.mv_ptr rfl rfl rfl ?_
  refine Ops.call (srcNext_c (ix + 1) 4 hS1 (by exact hk) hK) rfl rfl rfl ?_
  rintro _ w2 ⟨r, k1, rfl, hr, hK1, hS2⟩
  have hS2 : St w0 w2 (Bx 32 1 A4 [.slice none 0 0] :: ks.set ix k1) := hS2
  have hk1 := setK_get (k' := k1) hk
  refine Ops.nil ?_
  refine thenQ_n ?_
  refine Cd.block ?_
  refine Cd.seq ?_
  refine Cd.region ?_
  refine Ops.eql rfl rfl rfl ?_
  refine Ops.mv_bool rfl rfl rfl ?_
  refine Ops.nil ?_
  refine thenQ_n ?_
  refine Cd.cond_p _ rfl (fun h1 => ?_) (fun h1 => ?_)
  ·refine Cd.seq ?_
   refine Cd.region ?_
   refine Ops.bsL [3, 3] hS2 rfl rfl (by decide) (by decide) rfl rfl ?_
   intro L0 v0 hL0
   skip
   refine Ops.bsL [3, 3] hL0 rfl rfl (by decide) (by decide) rfl rfl ?_
   intro L1 v1 hL1
   skip
   refine Ops.bsL [4, 3] hL1 rfl rfl (by decide) (by decide) rfl rfl ?_
   intro L2 v2 hL2
   skip
   refine Ops.bsL [3, 4] hL2 rfl rfl (by decide) (by decide) rfl rfl ?_
   intro L3 v3 hL3
   skip
   refine Ops.bsL [2, 3] hL3 rfl rfl (by decide) (by decide) rfl rfl ?_
   intro L4 v4 hL4
   skip
   refine Ops.bsL [4, 2] hL4 rfl rfl (by decide) (by decide) rfl rfl ?_
   intro L5 v5 hL5
   skip
   refine Ops.bsL [5, 2] hL5 rfl rfl (by decide) (by decide) rfl rfl ?_
   intro L6 v6 hL6
   skip
   refine Ops.bsL [2, 6] hL6 rfl rfl (by decide) (by decide) rfl rfl ?_
   intro L7 v7 hL7
   skip
   refine Ops.bsLR [⟨L0, 2, 2⟩, ⟨L1, 2, 2⟩, ⟨L2, 2, 2⟩, ⟨L3, 2, 2⟩, ⟨L4, 2, 2⟩, ⟨L5, 2, 2⟩, ⟨L6, 2, 2⟩, ⟨L7, 2, 2⟩] hL7 rfl rfl (by decide) (by decide) rfl rfl ?_
   intro A27 w3 hS3
   refine Ops.mv_ptr rfl rfl rfl ?_
   refine Ops.call (srcNext_c (ix + 10) 8 hS3 (by exact hk1) hK1) rfl rfl rfl ?_
   rintro _ w4 ⟨g, k2, rfl, hg, hK2, hS4⟩
   obtain ⟨q, rfl⟩ : ∃ q : Nat, g = q := ⟨g.toNat, by omega⟩
   have hq : q < 8 := by omega
   have hrow : RdI w4 (rg [⟨L0, 2, 2⟩, ⟨L1, 2, 2⟩, ⟨L2, 2, 2⟩, ⟨L3, 2, 2⟩, ⟨L4, 2, 2⟩, ⟨L5, 2, 2⟩, ⟨L6, 2, 2⟩, ⟨L7, 2, 2⟩] (q : Int)).a (rg [⟨L0, 2, 2⟩, ⟨L1, 2, 2⟩, ⟨L2, 2, 2⟩, ⟨L3, 2, 2⟩, ⟨L4, 2, 2⟩, ⟨L5, 2, 2⟩, ⟨L6, 2, 2⟩, ⟨L7, 2, 2⟩] (q : Int)).n (gl [[3, 3], [3, 3], [4, 3], [3, 4], [2, 3], [4, 2], [5, 2], [2, 6]] (q : Int)) := by
    rcases (by omega : q = 0 ∨ q = 1 ∨ q = 2 ∨ q = 3 ∨ q = 4 ∨ q = 5 ∨ q = 6 ∨ q = 7) with rfl | rfl | rfl | rfl | rfl | rfl | rfl | rfl
    ·exact hS4.rdI 8 rfl
    ·exact hS4.rdI 7 rfl
    ·exact hS4.rdI 6 rfl
    ·exact hS4.rdI 5 rfl
    ·exact hS4.rdI 4 rfl
    ·exact hS4.rdI 3 rfl
    ·exact hS4.rdI 2 rfl
    ·exact hS4.rdI 1 rfl
   have hU := uni_at q hq
   skip
   refine Ops.idx (hS4.rd 0 rfl) rfl rfl rfl (by omega) (by show (q : Int) < (8 : Int); omega) ?_
   refine Ops.ld_sl (i := (q : Int)) (hS4.rdR 0 rfl) rfl (by show (q : Int).toNat < 8; omega) rfl rfl ?_
   have hS5 : St w0 w4 (Bx 32 1 A4 [.slice none 0 0] :: (ks.set ix k1).set ix k2) := hS4.tail.tail.tail.tail.tail.tail.tail.tail.tail
   rw [List.set_set] at hS5
   generalize uniT (gl [[3, 3], [3, 3], [4, 3], [3, 4], [2, 3], [4, 2], [5, 2], [2, 6]] (q : Int)) = T at hU
   generalize gl [[3, 3], [3, 3], [4, 3], [3, 4], [2, 3], [4, 2], [5, 2], [2, 6]] (q : Int) = L at hU hrow
   generalize rg [⟨L0, 2, 2⟩, ⟨L1, 2, 2⟩, ⟨L2, 2, 2⟩, ⟨L3, 2, 2⟩, ⟨L4, 2, 2⟩, ⟨L5, 2, 2⟩, ⟨L6, 2, 2⟩, ⟨L7, 2, 2⟩] (q : Int) = sl at hrow
   obtain ⟨La, ln, lc⟩ := sl
   refine Ops.mv_sl rfl rfl rfl ?_
   refine Ops.nil ?_
   refine thenQ_n ?_
   refine Cd.seq ?_
   refine Cd.region ?_
   refine Ops.mv_sl rfl rfl rfl ?_
   refine Ops.call (specUniversalPolytope_c La ln lc L T w4 hrow hU) rfl rfl rfl ?_
   rintro _ w5 ⟨A, c, rs, rfl, hrl, hT⟩
   have hMa := hU.mani
   have hS6 : St w0 w5 (Bx 32 1 A4 [.slice none 0 0] :: (mat 34 2 A T.length c rs T ++ ks.set ix k2)) := (hS5.call hT).perm List.perm_middle
   have hcap : T.length ≤ c ∧ c ≤ 9223372036854775807 := hS6.cap 1 rfl
   refine Ops.mv_tup rfl rfl rfl ?_
   refine Ops.extract rfl rfl rfl ?_
   refine Ops.extract rfl rfl rfl ?_
   refine Ops.new1 hS6 rfl ?_
   intro A6 w6 hS7
   skip
   refine Ops.st_agg 1 0 hS7 rfl rfl rfl rfl rfl rfl rfl ?_
   intro w7 hS8
   have hS8 : St w0 w7 (Bx 32 1 A6 [.slice A T.length c] :: Bx 32 1 A4 [.slice none 0 0] :: (mat 34 2 A T.length c rs T ++ ks.set ix k2)) := hS8
   have hM1 := hMa.1
   refine Ops.mv_int rfl rfl rfl ?_
   refine Ops.nil ?_
   refine thenQ_n ?_
   refine Cd.seq ?_
   refine Cd.region ?_
   refine Ops.mv_int rfl rfl rfl ?_
   refine Ops.eql rfl rfl rfl ?_
   refine Ops.mv_bool rfl rfl rfl ?_
   refine Ops.split_p 39 rfl (fun h2 => ?_) (fun h2 => ?_)
   ·refine Ops.rung rfl rfl rfl ?_
    refine Ops.ld_agg 0 (hS8.rd 0 rfl) rfl rfl rfl ?_
    refine Ops.rung rfl rfl rfl ?_
    refine Ops.call (l02Flags_c A T.length c rs T w7 (St.rowsI hS8.tail.tail rfl) (by omega)) rfl rfl rfl ?_
    rintro _ w8 ⟨rfl, hT'⟩
    have hS9 := hS8.later hT'.below
    refine Ops.rung rfl rfl rfl ?_
    refine Ops.mv_int rfl rfl rfl ?_
    refine Ops.rung rfl rfl rfl ?_
    refine Ops.leq rfl rfl rfl ?_
    refine Ops.pick_t rfl rfl rfl ?_
    refine Ops.nil ?_
    refine thenQ_n ?_
    refine Cd.cond_p _ rfl (fun h3 => ?_) (fun h3 => ?_)
    ·refine Cd.seq ?_
     refine Cd.region ?_
     refine Ops.ld_agg 0 (hS9.rd 0 rfl) rfl rfl rfl ?_
     skip
     refine Ops.st_agg 1 1 hS9 rfl rfl rfl rfl rfl rfl rfl ?_
     intro w9 hS10
     refine Ops.nil ?_
     refine thenQ_n ?_
     refine Cd.ret ?_
     refine blockQ_r ?_
     refine thenQ_r ?_
     skip
     refine retc_r rfl (hS10.rd 1 rfl) ?_
     exact ⟨T.length, A, c, rs, T, _, k2, rfl, hMa.bound.1, hcap, hMa.bound.2, hK2, fun w'' Y h => St.rowsI h rfl, hS10.tail.tail⟩
    ·refine Cd.skip ?_
     refine blockQ_n ?_
     refine thenQ_n ?_
     exact ⟨k2, ⟨rfl, rfl, rfl, trivial⟩, hK2, hS9.tail.sub (List.Sublist.cons_cons _ (List.sublist_append_right _ _))⟩
   ·exact absurd rfl h2 --x
  ·refine Cd.seq ?_
   refine Cd.region ?_
   refine Ops.eql rfl rfl rfl ?_
   refine Ops.mv_bool rfl rfl rfl ?_
   refine Ops.nil ?_
   refine thenQ_n ?_
   refine Cd.cond_p _ rfl (fun h2 => ?_) (fun h2 => ?_)
   ·refine Cd.seq ?_
    refine Cd.region ?_
    refine Ops.mv_ptr rfl rfl rfl ?_
    refine Ops.mv_int rfl rfl rfl ?_
    refine Ops.quo rfl rfl rfl (by omega) ?_
    skip
    refine Ops.minI rfl rfl rfl ?_
    skip
    refine Ops.call (l14DrawRotation_c (ix + 1) _ hS2 (by exact hk1) hK1 (by omega)) rfl rfl rfl ?_
    rintro _ w3 ⟨Ar, nr, cr, ps, k2, rfl, hnr, hps, hK2, hS3⟩
    have hS3 : St w0 w3 (CkI 2 Ar nr cr ps :: Bx 32 1 A4 [.slice none 0 0] :: (ks.set ix k1).set ix k2) := hS3
    rw [List.set_set] at hS3
    refine Ops.mv_sl rfl rfl rfl ?_
    refine Ops.nil ?_
    refine thenQ_n ?_
    refine Cd.seq ?_
    refine Cd.region ?_
    refine Ops.mv_sl rfl rfl rfl ?_
    refine Ops.call (MapOfRotation_c Ar nr cr ps w3 (hS3.rdI 0 rfl) (by omega)) rfl rfl rfl ?_
    rintro _ w4 ⟨n, A, c, rs, xss, code, rfl, hn, hrl, hxl, hb, hT⟩
    have hS4 : St w0 w4 (Bx 32 1 A4 [.slice none 0 0] :: (mat 34 2 A n c rs xss ++ ks.set ix k2)) := ((hS3.tail).call hT).perm (List.perm_middle (l₁ := mat 34 2 A n c rs xss))
    have hcap : n ≤ c ∧ c ≤ 9223372036854775807 := hS4.cap 1 rfl
    refine Ops.mv_tup rfl rfl rfl ?_
    refine Ops.extract rfl rfl rfl ?_
    refine Ops.extract rfl rfl rfl ?_
    refine Ops.new1 hS4 rfl ?_
    intro A9 w5 hS5
    skip
    refine Ops.st_agg 1 0 hS5 rfl rfl rfl rfl rfl rfl rfl ?_
    intro w6 hS6
    have hS6 : St w0 w6 (Bx 32 1 A9 [.slice A n c] :: Bx 32 1 A4 [.slice none 0 0] :: (mat 34 2 A n c rs xss ++ ks.set ix k2)) := hS6
    refine Ops.mv_int rfl rfl rfl ?_
    refine Ops.nil ?_
    refine thenQ_n ?_
    refine Cd.seq ?_
    refine Cd.region ?_
    refine Ops.mv_int rfl rfl rfl ?_
    refine Ops.eql rfl rfl rfl ?_
    refine Ops.nil ?_
    refine thenQ_n ?_
    refine Cd.cond_p _ rfl (fun h3 => ?_) (fun h3 => ?_)
    ·refine Cd.seq ?_
     refine Cd.region ?_
     refine Ops.ld_agg 0 (hS6.rd 0 rfl) rfl rfl rfl ?_
     skip
     refine Ops.st_agg 1 1 hS6 rfl rfl rfl rfl rfl rfl rfl ?_
     intro w7 hS7
     refine Ops.nil ?_
     refine thenQ_n ?_
     refine Cd.ret ?_
     refine blockQ_r ?_
     refine thenQ_r ?_
     skip
     refine retc_r rfl (hS7.rd 1 rfl) ?_
     exact ⟨n, A, c, rs, xss, _, k2, rfl, hn, hcap, hb, hK2, fun w'' Y h => St.rowsI h hxl, hS7.tail.tail⟩
    ·refine Cd.skip ?_
     refine blockQ_n ?_
     refine thenQ_n ?_
     exact ⟨k2, ⟨rfl, rfl, rfl, trivial⟩, hK2, hS6.tail.sub (List.Sublist.cons_cons _ (List.sublist_append_right _ _))⟩
   ·refine Cd.skip ?_
    refine blockQ_n ?_
    refine thenQ_n ?_
    exact ⟨k1, ⟨rfl, rfl, rfl, trivial⟩, hK1, hS2⟩
 ·rintro k1 e w2 ⟨hK1, hS2⟩
  refine Cd.seq ?_
  refine Cd.seq ?_
  refine Cd.region ?_
  refine Ops.mv_int rfl rfl rfl ?_
  refine Ops.nil ?_
  refine thenQ_n ?_
  refine Cd.block ?_
  refine Cd.loop (α := Nat × Ck) (fun s => [(0, .pointer As), (1, .int .i64 (most : Int)), (4, .pointer A4), (11, .int .i64 (s.1 : Int))]) (fun s w' => srcK w0 As s.2 ∧ s.1 ≤ 20 ∧ St w0 w' (Bx 32 1 A4 [.slice none 0 0] :: ks.set ix s.2)) (fun s => 20 - s.1) (0, k1) ⟨rfl, rfl, rfl, rfl, trivial⟩ ⟨hK1, Nat.zero_le _, hS2⟩ ?_
  rintro ⟨i, k2⟩ e w3 ⟨hK2, hi, hS3⟩
  dsimp only at hK2 hi hS3 ⊢
  have hk2 := setK_get (k' := k2) hk
  refine Cd.seq ?_
  refine Cd.seq ?_
  refine Cd.region ?_
  refine Ops.mv_int rfl rfl rfl ?_
  refine Ops.lss rfl rfl rfl ?_
  refine Ops.nil ?_
  refine thenQ_n ?_
  refine Cd.cond_p _ rfl (fun h1 => ?_) (fun h1 => ?_)
  ·refine Cd.skip ?_
   refine thenQ_n ?_
   refine Cd.seq ?_
   refine Cd.block ?_
   refine Cd.seq ?_
   refine Cd.region ?_
   refine Ops.mv_ptr rfl rfl rfl ?_
   refine Ops.mv_int rfl rfl rfl ?_
   refine Ops.call (l02Draw_c (ix + 1) most hS3 (by exact hk2) hK2 hm) rfl rfl rfl ?_
   rintro _ w4 ⟨n, N, A, c, rs, xss, k3, rfl, hn, hN, hrl, hxl, hG, hK3, hS4⟩
   have hS4 : St w0 w4 (mat 34 2 A n c rs xss ++ (Bx 32 1 A4 [.slice none 0 0] :: (ks.set ix k2).set ix k3)) := hS4
   rw [List.set_set] at hS4
   have hS4 : St w0 w4 (Bx 32 1 A4 [.slice none 0 0] :: (mat 34 2 A n c rs xss ++ ks.set ix k3)) := hS4.perm List.perm_middle
   have hcap : n ≤ c ∧ c ≤ 9223372036854775807 := hS4.cap 1 rfl
   skip
   refine Ops.new1 hS4 rfl ?_
   intro A12 w5 hS5
   skip
   refine Ops.st_agg 1 0 hS5 rfl rfl rfl rfl rfl rfl rfl ?_
   intro w6 hS6
   have hS6 : St w0 w6 (Bx 32 1 A12 [.slice A n c] :: Bx 32 1 A4 [.slice none 0 0] :: (mat 34 2 A n c rs xss ++ ks.set ix k3)) := hS6
   refine Ops.nil ?_
   refine thenQ_n ?_
   refine Cd.seq ?_
   refine Cd.region ?_
   refine Ops.ld_agg 0 (hS6.rd 0 rfl) rfl rfl rfl ?_
   skip
   refine Ops.call (l14Is_c A n c rs xss w6 (St.rowsI hS6.tail.tail hxl) (by omega)) rfl rfl rfl ?_
   rintro _ w7 ⟨rfl, hT⟩
   have hS7 := hS6.later hT.below
   refine Ops.nil ?_
   refine thenQ_n ?_
   refine Cd.cond_p _ rfl (fun h2 => ?_) (fun h2 => ?_)
   ·refine Cd.seq ?_
    refine Cd.region ?_
    refine Ops.ld_agg 0 (hS7.rd 0 rfl) rfl rfl rfl ?_
    skip
    refine Ops.st_agg 1 1 hS7 rfl rfl rfl rfl rfl rfl rfl ?_
    intro w8 hS8
    refine Ops.nil ?_
    refine thenQ_n ?_
    refine Cd.ret ?_
    refine blockQ_r ?_
    refine thenQ_r ?_
    refine thenQ_r ?_
    refine blockQ_r ?_
    refine thenQ_r ?_
    skip
    refine retc_r rfl (hS8.rd 1 rfl) ?_
    exact ⟨n, A, c, rs, xss, _, k3, rfl, by omega, hcap, h2.1.bound.2, hK3, fun w'' Y h => St.rowsI h hxl, hS8.tail.tail⟩
   ·refine Cd.skip ?_
    refine blockQ_n ?_
    refine thenQ_n ?_
    refine Cd.region ?_
    refine Ops.mv_int rfl rfl rfl ?_
    refine Ops.add rfl rfl rfl (by omega) ?_
    refine Ops.mv_int rfl rfl rfl ?_
    refine Ops.nil ?_
    refine thenQ_n ?_
    exact ⟨(i + 1, k3), by show 20 - (i + 1) < 20 - i; omega, ⟨rfl, rfl, rfl, rfl, trivial⟩, hK3, by show i + 1 ≤ 20; omega, hS7.tail.sub (List.Sublist.cons_cons _ (List.sublist_append_right _ _))⟩
  ·refine Cd.exit ?_
   refine thenQ_x ?_
   refine thenQ_x ?_
   refine blockQ_x ?_
   refine thenQ_n ?_
   refine Cd.seq ?_
   refine Cd.region ?_
   refine Ops.bsL [2, 2] hS3 rfl rfl (by decide) (by decide) rfl rfl ?_
   intro A72 w4 hS4
   skip
   refine Ops.call (specUniversalPolytope_c A72 2 2 [2, 2] _ w4 (hS4.rdI 0 rfl) (uniOk uni_22)) rfl rfl rfl ?_
   rintro _ w5 ⟨A, c, rs, rfl, hrl, hT⟩
   have hMa := (uniOk uni_22).mani
   generalize uniT [2, 2] = T at hrl hT hMa
   have hS5 : St w0 w5 (Bx 32 1 A4 [.slice none 0 0] :: (mat 34 2 A T.length c rs T ++ ks.set ix k2)) := (hS4.tail.call hT).perm List.perm_middle
   have hcap : T.length ≤ c ∧ c ≤ 9223372036854775807 := hS5.cap 1 rfl
   refine Ops.mv_tup rfl rfl rfl ?_
   refine Ops.extract rfl rfl rfl ?_
   refine Ops.extract rfl rfl rfl ?_
   refine Ops.new1 hS5 rfl ?_
   intro A13 w6 hS6
   skip
   refine Ops.st_agg 1 0 hS6 rfl rfl rfl rfl rfl rfl rfl ?_
   intro w7 hS7
   refine Ops.mv_int rfl rfl rfl ?_
   refine Ops.nil ?_
   refine thenQ_n ?_
   refine Cd.seq ?_
   refine Cd.region ?_
   refine Ops.ld_agg 0 (hS7.rd 0 rfl) rfl rfl rfl ?_
   skip
   refine Ops.st_agg 1 1 hS7 rfl rfl rfl rfl rfl rfl rfl ?_
   intro w8 hS8
   refine Ops.nil ?_
   refine thenQ_n ?_
   refine Cd.ret ?_
   skip
   refine retc_r rfl (hS8.rd 1 rfl) ?_
   exact ⟨T.length, A, c, rs, T, _, k2, rfl, hMa.bound.1, hcap, hMa.bound.2, hK2, fun w'' Y h => St.rowsI h rfl, hS8.tail.tail⟩
end Go.Proofs.YtjpkmpihmilgoaaGreat.Vc
/-
 The draws of maniplexes, walked: the choice of a maniplex. Conditions: as each states them.
-/
namespace Go.Proofs.YtjpkmpihmilgoaaGreat.Vc
open Go.RowKit

theorem l14Draw_c {w0 w : World} {ks : List Ck} (ix : Nat) {As : Option Addr} {k : Ck} (most : Nat) (hS : St w0 w ks) (hk : ks[ix]? = some k) (hK : srcK w0 As k) (hm : 8 ≤ most ∧ most ≤ 1000) :
  Ret Tryz.prog 73 [.pointer As, .int .i64 (most : Int)] w (AnsS w0 ks ix As) := by
 refine Ret.of_cd Tryz.func73 rfl Tryz.ntmps73 rfl (postc rfl rfl) ?_
 refine Cd.seq ?_
 refine Cd.region ?_
 refine Ops.new1 hS rfl ?_
 intro A4 w1 hS1
 refine Ops.nil ?_
 refine thenQ_n ?_
 refine Cd.seq ?_
 refine Cd.seq ?_
 refine Cd.region ?_
 refine Ops.mv_ptr rfl rfl rfl ?_
 refine Ops.call (srcNext_c (ix + 1) 12 hS1 (by exact hk) hK) rfl rfl rfl ?_
 rintro _ w2 ⟨r, k1, rfl, hr, hK1, hS2⟩
 have hS2 : St w0 w2 (Bx 32 1 A4 [.slice none 0 0] :: ks.set ix k1) := hS2
 have hk1 := setK_get (k' := k1) hk
 refine Ops.eql rfl rfl rfl ?_
 refine Ops.nil ?_
 refine thenQ_n ?_
 refine Cd.cond_p _ rfl (fun h1 => ?_) (fun h1 => ?_)
 ·refine Cd.seq ?_
  refine Cd.region ?_
  refine Ops.mv_ptr rfl rfl rfl ?_
  refine Ops.mv_int rfl rfl rfl ?_
  refine Ops.call (l02Spoil_c (ix + 1) most hS2 (by exact hk1) hK1 hm) rfl rfl rfl ?_
  rintro _ w3 ⟨n, A, c, rs, xss, X, k2, rfl, hn, hcap, hb, hK2, hX, hS3⟩
  have hS3 : St w0 w3 (X ++ (Bx 32 1 A4 [.slice none 0 0] :: (ks.set ix k1).set ix k2)) := hS3
  rw [List.set_set] at hS3
  skip
  refine Ops.st_agg 1 0 (hS3.perm List.perm_middle) rfl rfl rfl rfl rfl rfl rfl ?_
  intro w4 hS4
  refine Ops.nil ?_
  refine thenQ_n ?_
  refine Cd.ret ?_
  refine thenQ_r ?_
  skip
  refine retc_r rfl (hS4.rd 0 rfl) ?_
  exact ⟨n, A, c, rs, xss, X, k2, rfl, hn, hcap, hb, hK2, hX, hS4.tail⟩
 ·refine Cd.skip ?_
  refine thenQ_n ?_
  refine Cd.seq ?_
  refine Cd.region ?_
  refine Ops.mv_ptr rfl rfl rfl ?_
  refine Ops.mv_int rfl rfl rfl ?_
  refine Ops.call (l14DrawSolid_c (ix + 1) most hS2 (by exact hk1) hK1 hm) rfl rfl rfl ?_
  rintro _ w3 ⟨n, A, c, rs, xss, X, k2, rfl, hn, hcap, hb, hK2, hX, hS3⟩
  have hS3 : St w0 w3 (X ++ (Bx 32 1 A4 [.slice none 0 0] :: (ks.set ix k1).set ix k2)) := hS3
  rw [List.set_set] at hS3
  skip
  refine Ops.st_agg 1 0 (hS3.perm List.perm_middle) rfl rfl rfl rfl rfl rfl rfl ?_
  intro w4 hS4
  refine Ops.nil ?_
  refine thenQ_n ?_
  refine Cd.ret ?_
  skip
  refine retc_r rfl (hS4.rd 0 rfl) ?_
  exact ⟨n, A, c, rs, xss, X, k2, rfl, hn, hcap, hb, hK2, hX, hS4.tail⟩

theorem l18Draw_c {w0 w : World} {ks : List Ck} (ix : Nat) {As : Option Addr} {k : Ck} (most : Nat) (hS : St w0 w ks) (hk : ks[ix]? = some k) (hK : srcK w0 As k) (hm : 8 ≤ most ∧ most ≤ 1000) :
  Ret Tryz.prog 63 [.pointer As, .int .i64 (most : Int)] w (AnsS w0 ks ix As) := by
 refine Ret.of_cd Tryz.func63 rfl Tryz.ntmps63 rfl (postc rfl rfl) ?_
 refine Cd.seq ?_
 refine Cd.region ?_
 refine Ops.new1 hS rfl ?_
 intro A4 w1 hS1
 refine Ops.nil ?_
 refine thenQ_n ?_
 refine Cd.seq ?_
 refine Cd.seq ?_
 refine Cd.region ?_
 refine Ops.mv_ptr rfl rfl rfl ?_
 refine Ops.call (srcNext_c (ix + 1) 2 hS1 (by exact hk) hK) rfl rfl rfl ?_
 rintro _ w2 ⟨r, k1, rfl, hr, hK1, hS2⟩
 have hS2 : St w0 w2 (Bx 32 1 A4 [.slice none 0 0] :: ks.set ix k1) := hS2
 have hk1 := setK_get (k' := k1) hk
 refine Ops.eql rfl rfl rfl ?_
 refine Ops.nil ?_
 refine thenQ_n ?_
 refine Cd.cond_p _ rfl (fun h1 => ?_) (fun h1 => ?_)
 ·refine Cd.seq ?_
  refine Cd.region ?_
  refine Ops.mv_ptr rfl rfl rfl ?_
  refine Ops.mv_int rfl rfl rfl ?_
  refine Ops.call (l14Draw_c (ix + 1) most hS2 (by exact hk1) hK1 hm) rfl rfl rfl ?_
  rintro _ w3 ⟨n, A, c, rs, xss, X, k2, rfl, hn, hcap, hb, hK2, hX, hS3⟩
  have hS3 : St w0 w3 (X ++ (Bx 32 1 A4 [.slice none 0 0] :: (ks.set ix k1).set ix k2)) := hS3
  rw [List.set_set] at hS3
  skip
  refine Ops.st_agg 1 0 (hS3.perm List.perm_middle) rfl rfl rfl rfl rfl rfl rfl ?_
  intro w4 hS4
  refine Ops.nil ?_
  refine thenQ_n ?_
  refine Cd.ret ?_
  refine thenQ_r ?_
  skip
  refine retc_r rfl (hS4.rd 0 rfl) ?_
  exact ⟨n, A, c, rs, xss, X, k2, rfl, hn, hcap, hb, hK2, hX, hS4.tail⟩
 ·refine Cd.skip ?_
  refine thenQ_n ?_
  refine Cd.seq ?_
  refine Cd.region ?_
  refine Ops.mv_ptr rfl rfl rfl ?_
  refine Ops.mv_int rfl rfl rfl ?_
  refine Ops.call (l02Spoil_c (ix + 1) most hS2 (by exact hk1) hK1 hm) rfl rfl rfl ?_
  rintro _ w3 ⟨n, A, c, rs, xss, X, k2, rfl, hn, hcap, hb, hK2, hX, hS3⟩
  have hS3 : St w0 w3 (X ++ (Bx 32 1 A4 [.slice none 0 0] :: (ks.set ix k1).set ix k2)) := hS3
  rw [List.set_set] at hS3
  skip
  refine Ops.st_agg 1 0 (hS3.perm List.perm_middle) rfl rfl rfl rfl rfl rfl rfl ?_
  intro w4 hS4
  refine Ops.nil ?_
  refine thenQ_n ?_
  refine Cd.ret ?_
  skip
  refine retc_r rfl (hS4.rd 0 rfl) ?_
  exact ⟨n, A, c, rs, xss, X, k2, rfl, hn, hcap, hb, hK2, hX, hS4.tail⟩

end Go.Proofs.YtjpkmpihmilgoaaGreat.Vc
/-
 The draws of maniplexes, walked: arguments of a path. Conditions: as each states them.
-/
namespace Go.Proofs.YtjpkmpihmilgoaaGreat.Vc
open Go.RowKit
section
variable {P : Program} {N : Nat} {ops : Array Oper} {K : Env → World → Prop} {rest : List Oper} {e : Env} {w0 w w' : World} {ks : List Ck} {d : Nat} {ty : TypeId} {pos : String} {af : Array Edge}
def retc3 (a n u u2 : Nat) (R : Value → World → Prop) : Post
 | .normal, e, w => ∃ A f, e a = .pointer A ∧ Rd w A n f ∧ R (.tuple #[.agg ((List.range n).map f).toArray, e u, e u2]) w
 | .ret, e, w => ∃ A f, e a = .pointer A ∧ Rd w A n f ∧ R (.tuple #[.agg ((List.range n).map f).toArray, e u, e u2]) w
 | _, _, _ => False
end

theorem l01FromG_c (Ac : Option Addr) (nc cc : Nat) (bs : List Int) (w : World) (hY : RdY w Ac nc bs) (hnc : nc ≤ 1000000) :
  Ret Tryz.prog 44 [.slice Ac nc cc] w (fun v w' => ∃ (As : Option Addr) (k : Ck), v = .pointer As ∧ (∀ w0, RdY w0 Ac nc bs → srcK w0 As k) ∧ St w w' [k]) := by
 refine Ret.of_cd Tryz.func44 rfl Tryz.ntmps44 rfl (post1 rfl) ?_
 refine Cd.seq ?_
 refine Cd.region ?_
 refine Ops.mv_ptr rfl rfl rfl ?_
 refine Ops.nil ?_
 refine thenQ_n ?_
 refine Cd.seq ?_
 refine Cd.region ?_
 refine Ops.mv_sl rfl rfl rfl ?_
 refine Ops.mv_sl rfl rfl rfl ?_
 refine Ops.len rfl rfl ?_
 refine Ops.convK rfl rfl (wrap_u64_in _ (by omega)) ?_
 skip
 refine Ops.addW rfl rfl rfl fun r1 _ => ?_
 skip
 refine Ops.bld02 (by exact inferInstance) (by exact inferInstance) (by exact inferInstance) rfl rfl rfl rfl rfl rfl rfl rfl ?_
 refine Ops.box3' (St.refl w) rfl rfl ?_
 intro As w2 hS
 refine Ops.mv_ptr rfl rfl rfl ?_
 refine Ops.nil ?_
 refine thenQ_n ?_
 refine Cd.seq ?_
 refine Cd.seq ?_
 refine Cd.region ?_
 refine Ops.mv_int rfl rfl rfl ?_
 refine Ops.nil ?_
 refine thenQ_n ?_
 refine Cd.block ?_
 refine Cd.loop (α := Nat × Int) (fun s => [(0, .slice Ac nc cc), (3, .pointer As), (4, .int .i64 (s.1 : Int))]) (fun s w' => St w w' [Bx 109 3 As [.slice Ac nc cc, .int .i64 0, .int .u64 s.2]] ∧ s.1 ≤ nc) (fun s => nc - s.1) (0, _) ⟨rfl, rfl, rfl, trivial⟩ ⟨hS, Nat.zero_le _⟩ ?_
 rintro ⟨i, h⟩ e w3 ⟨hS1, hi⟩
 dsimp only at hS1 hi ⊢
 refine Cd.seq ?_
 refine Cd.seq ?_
 refine Cd.region ?_
 refine Ops.mv_int rfl rfl rfl ?_
 refine Ops.mv_sl rfl rfl rfl ?_
 refine Ops.len rfl rfl ?_
 refine Ops.lss rfl rfl rfl ?_
 refine Ops.mv_bool rfl rfl rfl ?_
 refine Ops.split_p 16 rfl (fun h1 => ?_) (fun h1 => ?_)
 ·skip
  refine Ops.rung rfl rfl rfl ?_
  refine Ops.mv_int rfl rfl rfl ?_
  refine Ops.rung rfl rfl rfl ?_
  refine Ops.lss rfl rfl rfl ?_
  refine Ops.pick_t rfl rfl rfl ?_
  refine Ops.nil ?_
  refine thenQ_n ?_
  refine Cd.cond_p _ rfl (fun h2 => ?_) (fun h2 => ?_)
  ·skip
   have h255 := hY.at_ (j := (i : Int)) (by omega) (by omega)
   have hY1 := hY.below hS1.below
   refine Cd.skip ?_
   refine thenQ_n ?_
   refine Cd.seq ?_
   refine Cd.block ?_
   refine Cd.drawN [15] [.ex (.pointer (As)), .ex (.pointer (As)), .ex (.pointer (As)), .ex (.pointer (ptrAt (As) 2)), .ex (.int .u64 h), .pr (fun v _ => ∃ r : Int, v = .int .u64 r), .ex (.slice (Ac) (nc) (cc)), .ex (.int .i64 ((i : Int))), .ex (.pointer (ptrAt Ac (i : Int).toNat)), .ex (.int .u8 (bs.getD (i : Int).toNat 0)), .ex (.int .u64 (bs.getD (i : Int).toNat 0)), .pr (fun v _ => ∃ r : Int, v = .int .u64 r), .pr (fun v _ => ∃ r : Int, v = .int .u64 r), .ex (.pointer (As)), .ex (.pointer (ptrAt (As) 2)), .pr (fun _ w' => ∃ r : Int, St w w' [Bx 109 3 As [.slice Ac nc cc, .int .i64 0, .int .u64 r]])] (by kernel_rfl) (by kernel_rfl) (List.forall_mem_cons.2 ⟨Yd.lasts_ex _, (List.forall_mem_cons.2 ⟨Yd.lasts_ex _, (List.forall_mem_cons.2 ⟨Yd.lasts_ex _, (List.forall_mem_cons.2 ⟨Yd.lasts_ex _, (List.forall_mem_cons.2 ⟨Yd.lasts_ex _, (List.forall_mem_cons.2 ⟨Yd.lasts_pr (fun _ _ _ h _ => h), (List.forall_mem_cons.2 ⟨Yd.lasts_ex _, (List.forall_mem_cons.2 ⟨Yd.lasts_ex _, (List.forall_mem_cons.2 ⟨Yd.lasts_ex _, (List.forall_mem_cons.2 ⟨Yd.lasts_ex _, (List.forall_mem_cons.2 ⟨Yd.lasts_ex _, (List.forall_mem_cons.2 ⟨Yd.lasts_pr (fun _ _ _ h _ => h), (List.forall_mem_cons.2 ⟨Yd.lasts_pr (fun _ _ _ h _ => h), (List.forall_mem_cons.2 ⟨Yd.lasts_ex _, (List.forall_mem_cons.2 ⟨Yd.lasts_ex _, (List.forall_mem_cons.2 ⟨Yd.lasts_pr (fun v w w' h hb => by obtain ⟨r, h⟩ := h; exact ⟨r, h.later hb⟩), (fun _ h => by cases h)⟩)⟩)⟩)⟩)⟩)⟩)⟩)⟩)⟩)⟩)⟩)⟩)⟩)⟩)⟩)⟩) ⟨?_, ?_, ?_, ?_, ?_, ?_, ?_, ?_, ?_, ?_, ?_, ?_, ?_, ?_, ?_, ?_, trivial⟩ ?_
   ·intro e1 w1 cc hlo hhi hb0 hp hun hq
    show Ops _ _ _ _ _ _ _
    refine Ops.mv_ptr rfl rfl rfl ?_
    refine Ops.nil ?_
    exact AfterN.dn rfl (Below.refl _ _) (by exact rfl)
   ·intro e1 w1 cc hlo hhi hb0 hp hun hq
    show Ops _ _ _ _ _ _ _
    refine Ops.mv_ptr rfl rfl rfl ?_
    refine Ops.nil ?_
    exact AfterN.dn rfl (Below.refl _ _) (by exact rfl)
   ·intro e1 w1 cc hlo hhi hb0 hp hun hq
    show Ops _ _ _ _ _ _ _
    replace hlo := le_of_lo hlo (b := 0) (by kernel_rfl)
    replace hhi := le_of_hi hhi (b := 0) (by kernel_rfl)
    obtain rfl : cc = 0 := by omega
    have hb := hb0 rfl
    refine Ops.nilp ((hS1.rd 0 rfl).below hb) (Nat.succ_pos _) rfl rfl ?_
    refine Ops.nil ?_
    exact AfterN.dn rfl (Below.refl _ _) (by exact rfl)
   ·intro e1 w1 cc hlo hhi hb0 hp hun hq
    show Ops _ _ _ _ _ _ _
    replace hlo := le_of_lo hlo (b := 0) (by kernel_rfl)
    replace hhi := le_of_hi hhi (b := 0) (by kernel_rfl)
    obtain rfl : cc = 0 := by omega
    have hb := hb0 rfl
    refine Ops.fld ((hS1.rd 0 rfl).below hb) rfl rfl rfl rfl inferInstance ?_
    refine Ops.nil ?_
    exact AfterN.dn rfl (Below.refl _ _) (by exact rfl)
   ·intro e1 w1 cc hlo hhi hb0 hp hun hq
    show Ops _ _ _ _ _ _ _
    replace hlo := le_of_lo hlo (b := 0) (by kernel_rfl)
    replace hhi := le_of_hi hhi (b := 0) (by kernel_rfl)
    obtain rfl : cc = 0 := by omega
    have hb := hb0 rfl
    refine Ops.ldf_i (k := .u64) ((hS1.rd 0 rfl).below hb) rfl rfl rfl rfl rfl ?_
    refine Ops.nil ?_
    exact AfterN.dn rfl (Below.refl _ _) (by exact rfl)
   ·intro e1 w1 cc hlo hhi hb0 hp hun hq
    show Ops _ _ _ _ _ _ _
    refine Ops.mulW rfl rfl rfl fun r _ => ?_
    refine Ops.nil ?_
    exact AfterN.dn rfl (Below.refl _ _) ⟨r, rfl⟩
   ·intro e1 w1 cc hlo hhi hb0 hp hun hq
    show Ops _ _ _ _ _ _ _
    refine Ops.mv_sl rfl rfl rfl ?_
    refine Ops.nil ?_
    exact AfterN.dn rfl (Below.refl _ _) (by exact rfl)
   ·intro e1 w1 cc hlo hhi hb0 hp hun hq
    show Ops _ _ _ _ _ _ _
    refine Ops.mv_int rfl rfl rfl ?_
    refine Ops.nil ?_
    exact AfterN.dn rfl (Below.refl _ _) (by exact rfl)
   ·intro e1 w1 cc hlo hhi hb0 hp hun hq
    show Ops _ _ _ _ _ _ _
    replace hlo := le_of_lo hlo (b := 0) (by kernel_rfl)
    replace hhi := le_of_hi hhi (b := 0) (by kernel_rfl)
    obtain rfl : cc = 0 := by omega
    have hb := hb0 rfl
    refine Ops.idx (hY1.below hb).2.2 rfl rfl rfl (by omega) (by omega) ?_
    refine Ops.nil ?_
    exact AfterN.dn rfl (Below.refl _ _) (by exact rfl)
   ·intro e1 w1 cc hlo hhi hb0 hp hun hq
    show Ops _ _ _ _ _ _ _
    replace hlo := le_of_lo hlo (b := 0) (by kernel_rfl)
    replace hhi := le_of_hi hhi (b := 0) (by kernel_rfl)
    obtain rfl : cc = 0 := by omega
    have hb := hb0 rfl
    refine Ops.ld_byte (hY1.below hb) rfl (by omega) rfl rfl ?_
    refine Ops.nil ?_
    exact AfterN.dn rfl (Below.refl _ _) (by exact rfl)
   ·intro e1 w1 cc hlo hhi hb0 hp hun hq
    show Ops _ _ _ _ _ _ _
    refine Ops.convK rfl rfl (wrap_u64_in _ (by omega)) ?_
    refine Ops.nil ?_
    exact AfterN.dn rfl (Below.refl _ _) (by exact rfl)
   ·intro e1 w1 cc hlo hhi hb0 hp hun hq
    show Ops _ _ _ _ _ _ _
    replace hlo := le_of_lo hlo (b := 0) (by kernel_rfl)
    replace hhi := le_of_hi hhi (b := 0) (by kernel_rfl)
    obtain rfl : cc = 0 := by omega
    have hb := hb0 rfl
    obtain ⟨r, hr⟩ := (hp 5 _ _ (by kernel_rfl) rfl rfl (by kernel_rfl))
    refine Ops.addW (by exact hr) rfl rfl fun r _ => ?_
    refine Ops.nil ?_
    exact AfterN.dn rfl (Below.refl _ _) ⟨r, rfl⟩
   ·intro e1 w1 cc hlo hhi hb0 hp hun hq
    show Ops _ _ _ _ _ _ _
    replace hlo := le_of_lo hlo (b := 0) (by kernel_rfl)
    replace hhi := le_of_hi hhi (b := 0) (by kernel_rfl)
    obtain rfl : cc = 0 := by omega
    have hb := hb0 rfl
    obtain ⟨r, hr⟩ := (hp 11 _ _ (by kernel_rfl) rfl rfl (by kernel_rfl))
    refine Ops.addW (by exact hr) rfl rfl fun r _ => ?_
    refine Ops.nil ?_
    exact AfterN.dn rfl (Below.refl _ _) ⟨r, rfl⟩
   ·intro e1 w1 cc hlo hhi hb0 hp hun hq
    show Ops _ _ _ _ _ _ _
    replace hlo := le_of_lo hlo (b := 0) (by kernel_rfl)
    replace hhi := le_of_hi hhi (b := 0) (by kernel_rfl)
    obtain rfl : cc = 0 := by omega
    have hb := hb0 rfl
    refine Ops.nilp ((hS1.rd 0 rfl).below hb) (Nat.succ_pos _) rfl rfl ?_
    refine Ops.nil ?_
    exact AfterN.dn rfl (Below.refl _ _) (by exact rfl)
   ·intro e1 w1 cc hlo hhi hb0 hp hun hq
    show Ops _ _ _ _ _ _ _
    replace hlo := le_of_lo hlo (b := 0) (by kernel_rfl)
    replace hhi := le_of_hi hhi (b := 0) (by kernel_rfl)
    obtain rfl : cc = 0 := by omega
    have hb := hb0 rfl
    refine Ops.fld ((hS1.rd 0 rfl).below hb) rfl rfl rfl rfl inferInstance ?_
    refine Ops.nil ?_
    exact AfterN.dn rfl (Below.refl _ _) (by exact rfl)
   ·intro e1 w1 cc hlo hhi hb0 hp hun hq
    show Ops _ _ _ _ _ _ _
    replace hlo := le_of_lo hlo (b := 0) (by kernel_rfl)
    replace hhi := le_of_hi hhi (b := 0) (by kernel_rfl)
    obtain rfl : cc = 0 := by omega
    have hb := hb0 rfl
    obtain ⟨r, hr⟩ := (hp 12 _ _ (by kernel_rfl) rfl rfl (by kernel_rfl))
    refine Ops.stf 0 (hS1.later hb) rfl rfl (by exact hr) rfl rfl ?_
    intro w9 hT
    refine Ops.nil ?_
    exact AfterT.st rfl ⟨r, hT⟩
   intro u w5 _ hu
   obtain ⟨r, hT⟩ := hu 15 _ rfl (by kernel_rfl)
   refine blockQ_n ?_
   refine thenQ_n ?_
   refine Cd.region ?_
   refine Ops.mv_int rfl rfl rfl ?_
   refine Ops.add rfl rfl rfl (by omega) ?_
   refine Ops.mv_int rfl rfl rfl ?_
   refine Ops.nil ?_
   refine thenQ_n ?_
   exact ⟨(i + 1, r), by show nc - (i + 1) < nc - i; omega, ⟨rfl, rfl, rfl, trivial⟩, hT, by show i + 1 ≤ nc; omega⟩
  ·refine Cd.exit ?_
   refine thenQ_x ?_
   refine thenQ_x ?_
   refine blockQ_x ?_
   refine thenQ_n ?_
   refine Cd.seq ?_
   refine Cd.region ?_
   refine Ops.mv_ptr rfl rfl rfl ?_
   refine Ops.mv_ptr rfl rfl rfl ?_
   refine Ops.nil ?_
   refine thenQ_n ?_
   refine Cd.ret ?_
   refine ret1_v rfl ?_
   exact ⟨As, _, rfl, fun w0 h0 => ⟨Ac, nc, cc, 0, h, bs, rfl, ⟨Int.le_refl _, by omega⟩, hnc, h0⟩, hS1⟩
 ·skip
  refine Ops.skipg rfl rfl rfl rfl rfl ?_
  refine Ops.skipg rfl rfl rfl rfl rfl ?_
  refine Ops.pick_f rfl rfl rfl ?_
  refine Ops.nil ?_
  refine thenQ_n ?_
  refine Cd.cond_f rfl ?_
  refine Cd.exit ?_
  refine thenQ_x ?_
  refine thenQ_x ?_
  refine blockQ_x ?_
  refine thenQ_n ?_
  refine Cd.seq ?_
  refine Cd.region ?_
  refine Ops.mv_ptr rfl rfl rfl ?_
  refine Ops.mv_ptr rfl rfl rfl ?_
  refine Ops.nil ?_
  refine thenQ_n ?_
  refine Cd.ret ?_
  refine ret1_v rfl ?_
  exact ⟨As, _, rfl, fun w0 h0 => ⟨Ac, nc, cc, 0, h, bs, rfl, ⟨Int.le_refl _, by omega⟩, hnc, h0⟩, hS1⟩

end Go.Proofs.YtjpkmpihmilgoaaGreat.Vc
/-
 The law of the lengths of words, walked: its draws. Conditions: as each states them.
-/
namespace Go.Proofs.YtjpkmpihmilgoaaGreat.Vc
open Go.RowKit

structure DwS where
 m : Nat
 A : Option Addr
 c : Nat
 ws : List Int
 kk : Ck
theorem l11DrawWordX_c {w0 w : World} {ks : List Ck} (X : List Ck) (ix : Nat) {As : Option Addr} {k : Ck} (letters : Int) (most : Nat) (hS : St w0 w (X ++ ks)) (hk : ks[ix]? = some k) (hK : srcK w0 As k) (hm : most ≤ 1000) :
  Ret Tryz.prog 64 [.pointer As, .int .i64 letters, .int .i64 (most : Int)] w (fun v w' => ∃ A n c ws k', v = .slice A n c ∧ n ≤ most ∧ srcK w0 As k' ∧ St w0 w' (CkI 2 A n c ws :: (X ++ ks.set ix k'))) := by
 refine Ret.of_cd Tryz.func64 rfl Tryz.ntmps64 rfl (post1 rfl) ?_
 refine Cd.seq ?_
 refine Cd.region ?_
 refine Ops.mv_sl rfl rfl rfl ?_
 refine Ops.nil ?_
 refine thenQ_n ?_
 refine Cd.seq ?_
 refine Cd.region ?_
 refine Ops.bs0 hS rfl ?_
 intro A7 w1 hS1
 have hS1 : St w0 w1 (CkI 2 A7 0 0 [] :: (X ++ ks)) := hS1
 refine Ops.mv_sl rfl rfl rfl ?_
 refine Ops.nil ?_
 refine thenQ_n ?_
 refine Cd.seq ?_
 refine Cd.seq ?_
 refine Cd.region ?_
 refine Ops.mv_ptr rfl rfl rfl ?_
 refine Ops.mv_int rfl rfl rfl ?_
 refine Ops.add rfl rfl rfl (by omega) ?_
 refine Ops.call (srcNextX_c (CkI 2 A7 0 0 [] :: X) ix ((most : Int) + 1) hS1 hk hK) rfl rfl rfl ?_
 rintro _ w2 ⟨r, k1, rfl, hr, hK1, hS2⟩
 have hr1 := hr.2.1 (by omega)
 obtain ⟨m, rfl⟩ : ∃ m : Nat, r = m := ⟨r.toNat, by omega⟩
 refine Ops.mv_int rfl rfl rfl ?_
 refine Ops.nil ?_
 refine thenQ_n ?_
 refine Cd.block ?_
 refine Cd.loop (α := DwS) (fun s => [(0, .pointer As), (1, .int .i64 letters), (7, .slice s.A s.ws.length s.c), (8, .int .i64 (s.m : Int))]) (fun s w' => srcK w0 As s.kk ∧ s.ws.length + s.m ≤ most ∧ St w0 w' (CkI 2 s.A s.ws.length s.c s.ws :: (X ++ ks.set ix s.kk))) (fun s => s.m) ⟨m, A7, 0, [], k1⟩ ⟨rfl, rfl, rfl, rfl, trivial⟩ ⟨hK1, by show 0 + m ≤ most; omega, hS2⟩ ?_
 rintro ⟨m, A7, c7, ws, kk⟩ e w3 ⟨hKk, hlen, hS3⟩
 dsimp only at hKk hlen hS3 ⊢
 refine Cd.seq ?_
 refine Cd.seq ?_
 refine Cd.region ?_
 refine Ops.mv_int rfl rfl rfl ?_
 refine Ops.gtr rfl rfl rfl ?_
 refine Ops.nil ?_
 refine thenQ_n ?_
 refine Cd.cond_p _ rfl (fun h1 => ?_) (fun h1 => ?_)
 ·obtain ⟨m, rfl⟩ : ∃ q, m = q + 1 := ⟨m - 1, by omega⟩
  refine Cd.skip ?_
  refine thenQ_n ?_
  refine Cd.seq ?_
  refine Cd.block ?_
  refine Cd.region ?_
  refine Ops.mv_sl rfl rfl rfl ?_
  refine Ops.mv_ptr rfl rfl rfl ?_
  refine Ops.mv_int rfl rfl rfl ?_
  refine Ops.call (srcNextX_c (CkI 2 A7 ws.length c7 ws :: X) ix letters hS3 (setK_get (k' := kk) hk) hKk) rfl rfl rfl ?_
  rintro _ w4 ⟨x, k2, rfl, hx, hK2, hS4⟩
  rw [List.set_set] at hS4
  have hS4 : St w0 w4 (CkI 2 A7 ws.length c7 ws :: (X ++ ks.set ix k2)) := hS4
  skip
  refine Ops.bs1I hS4 rfl rfl rfl ?_
  intro A8 w5 hS5
  refine Ops.appI 1 hS5 rfl (hS5.rdI 0 rfl) rfl rfl rfl (by omega) (by omega) rfl ?_
  intro A9 c9 w6 hS6
  have hS6 : St w0 w6 (CkI 2 A9 (ws.length + 1) c9 (ws ++ [x]) :: (X ++ ks.set ix k2)) := hS6.tail
  refine Ops.mv_sl rfl rfl rfl ?_
  refine Ops.nil ?_
  refine blockQ_n ?_
  refine thenQ_n ?_
  refine Cd.region ?_
  refine Ops.mv_int rfl rfl rfl ?_
  refine Ops.sub rfl rfl rfl (by omega) ?_
  refine Ops.mv_int rfl rfl rfl ?_
  refine Ops.nil ?_
  refine thenQ_n ?_
  refine ⟨⟨m, A9, c9, ws ++ [x], k2⟩, Nat.lt_succ_self m, ⟨rfl, rfl, by show Value.slice _ _ _ = .slice _ _ _; rw [List.length_append]; rfl, by show Value.int .i64 (((m + 1 : Nat) : Int) - 1) = .int .i64 (m : Int); congr 1; omega, trivial⟩, hK2, by show (ws ++ [x]).length + m ≤ most; rw [List.length_append]; show ws.length + 1 + m ≤ most; omega, ?_⟩
  dsimp only
  rw [List.length_append]
  exact hS6
 ·refine Cd.exit ?_
  refine thenQ_x ?_
  refine thenQ_x ?_
  refine blockQ_x ?_
  refine thenQ_n ?_
  refine Cd.seq ?_
  refine Cd.region ?_
  refine Ops.mv_sl rfl rfl rfl ?_
  refine Ops.mv_sl rfl rfl rfl ?_
  refine Ops.nil ?_
  refine thenQ_n ?_
  refine Cd.ret ?_
  refine ret1_s rfl ?_
  exact ⟨A7, ws.length, c7, ws, kk, rfl, by omega, hKk, hS3⟩

/-- how far the open statement is -/
structure Dl4 (w0 : World) (As A5 A2 : Option Addr) (n : Nat) (A : Option Addr) (c : Nat) (X : List Ck) (S : Nat → Bool) (e : Env) (w : World) : Prop where
 f2 : e 2 = .pointer A2
 f4 : e 4 = .pointer As
 f5 : e 5 = .pointer A5
 p0 : S 0 = true → e 10 = .agg #[.slice A n c]
 p1 : S 1 = true → e 11 = .pointer As
 p2 : S 2 = true → e 12 = .pointer (ptrAt A5 0)
 p3 : S 3 = true → e 13 = .slice A n c
 p4 : S 4 = true → e 14 = .int .i64 (n : Int)
 p5 : S 5 = true → e 15 = .pointer As
 p6 : S 6 = true → ∃ r, e 16 = .int .i64 r ∧ 0 ≤ r ∧ r < 16
 p7 : S 7 = true → ∃ r, e 17 = .int .i64 r ∧ 0 ≤ r ∧ r ≤ 1
 p8 : S 8 = true → ∃ r, e 18 = .int .i64 r
 mem : ∃ (Aw : Option Addr) (nw cw : Nat) (ws : List Int) (bw : List Ck) (kk : Ck) (va : List Value), srcK w0 As kk ∧ nw ≤ 8 ∧ (S 9 = false → bw = []) ∧ (S 9 = true → e 19 = .slice Aw nw cw ∧ bw = [CkI 2 Aw nw cw ws]) ∧ (S 10 = false → va = [.slice none 0 0]) ∧ (S 10 = true → va = [.slice A n c]) ∧ (S 11 = true → e 3 = .slice Aw nw cw) ∧
  St w0 w (Bx 32 1 A5 [.slice A n c] :: Bx 32 1 A2 va :: (bw ++ (X ++ [kk])))

theorem DrawLengthsOfWord_c (Ac : Option Addr) (nc cc : Nat) (bs : List Int) (w : World) (hY : RdY w Ac nc bs) (hnc : nc ≤ 1000000) :
  Ret Tryz.prog 24 [.slice Ac nc cc] w (fun v w' => ∃ (n : Nat) (A : Option Addr) (c : Nat) (rs : List SlV) (xss : List (List Int)) (X : List Ck) (Aw : Option Addr) (nw cw : Nat) (ws : List Int), v = .tuple #[.agg #[.slice A n c], .slice Aw nw cw] ∧ n ≤ 6 ∧ (n ≤ c ∧ c ≤ 9223372036854775807) ∧ (∀ p ∈ xss, p.length ≤ 20001 ∧ ∀ x ∈ p, -1 ≤ x ∧ x ≤ 20001) ∧ nw ≤ 8 ∧ (∀ (w'' : World) (Y : List Ck), St w w'' (X ++ Y) → RowsI w'' A n rs xss) ∧ St w w' (CkI 2 Aw nw cw ws :: X)) := by
 refine Ret.of_cd Tryz.func24 rfl Tryz.ntmps24 rfl (postc2 rfl rfl) ?_
 refine Cd.seq ?_
 refine Cd.region ?_
 refine Ops.new1 (St.refl w) rfl ?_
 intro A2 w1 hS1
 refine Ops.mv_sl rfl rfl rfl ?_
 refine Ops.nil ?_
 refine thenQ_n ?_
 refine Cd.seq ?_
 refine Cd.region ?_
 refine Ops.mv_sl rfl rfl rfl ?_
 refine Ops.call (l01FromG_c Ac nc cc bs w1 (hY.below hS1.below) hnc) rfl rfl rfl ?_
 rintro _ w2 ⟨As, k0, rfl, hK0, hT⟩
 have hK0 := hK0 w hY
 have hS2 : St w w2 [k0, Bx 32 1 A2 [.slice none 0 0]] := hS1.call hT
 refine Ops.mv_ptr rfl rfl rfl ?_
 refine Ops.nil ?_
 refine thenQ_n ?_
 refine Cd.seq ?_
 refine Cd.region ?_
 refine Ops.mv_ptr rfl rfl rfl ?_
 refine Ops.call (l18Draw_c 0 48 hS2 rfl hK0 (by decide)) rfl rfl rfl ?_
 rintro _ w3 ⟨n, A, c, rs, xss, X, k1, rfl, hn, hcap, hb, hK1, hX, hS3⟩
 have hS3 : St w w3 (X ++ [k1, Bx 32 1 A2 [.slice none 0 0]]) := hS3
 skip
 refine Ops.new1 hS3 rfl ?_
 intro A5 w4 hS4
 skip
 refine Ops.st_agg 1 0 hS4 rfl rfl rfl rfl rfl rfl rfl ?_
 intro w5 hS5
 have hS5 : St w w5 (Bx 32 1 A5 [.slice A n c] :: (X ++ [k1, Bx 32 1 A2 [.slice none 0 0]])) := hS5
 have hS6 : St w w5 (Bx 32 1 A5 [.slice A n c] :: Bx 32 1 A2 [.slice none 0 0] :: ([] ++ (X ++ [k1]))) := hS5.perm (List.Perm.cons _ (by
  rw [show X ++ [k1, Bx 32 1 A2 [.slice none 0 0]] = (X ++ [k1]) ++ [Bx 32 1 A2 [.slice none 0 0]] by simp]
  exact List.perm_append_comm))
 refine Ops.nil ?_
 refine thenQ_n ?_
 refine Cd.seq ?_
 refine Cd.drawS (by kernel_rfl) (by kernel_rfl) (fun S e1 w1 => Dl4 w As A5 A2 n A c X S e1 w1) (fun w6 hb => ⟨rfl, rfl, rfl, fun h => (nomatch h), fun h => (nomatch h), fun h => (nomatch h), fun h => (nomatch h), fun h => (nomatch h), fun h => (nomatch h), fun h => (nomatch h), fun h => (nomatch h), fun h => (nomatch h), none, 0, 0, [], [], k1, _, hK1, by omega, fun _ => rfl, fun h => (nomatch h), fun _ => rfl, fun h => (nomatch h), fun h => (nomatch h), hS6.later hb⟩) ?_ ?_
 ·intro S i o e1 w6 hq hSk hd hcl hI
  obtain ⟨f2, f4, f5, p0, p1, p2, p3, p4, p5, p6, p7, p8, Aw, nw, cw, ws, bw, kk, va, hkk, hnw, m9f, m9, m10f, m10, m11, hT⟩ := hI
  match i, hq, hSk with
  | 0, hq, hSk =>
   obtain rfl := Option.some.inj hq
   refine Ops.ld_agg 0 (hT.rd 0 rfl) (by exact f5) rfl rfl ?_
   refine Ops.nil ?_
   exact ⟨f2, f4, f5, fun _ => rfl, p1, p2, p3, p4, p5, p6, p7, p8, Aw, nw, cw, ws, bw, kk, va, hkk, hnw, m9f, m9, m10f, m10, m11, hT⟩
  | 1, hq, hSk =>
   obtain rfl := Option.some.inj hq
   refine Ops.mv_ptr rfl (by exact f4) rfl ?_
   refine Ops.nil ?_
   exact ⟨f2, f4, f5, p0, fun _ => rfl, p2, p3, p4, p5, p6, p7, p8, Aw, nw, cw, ws, bw, kk, va, hkk, hnw, m9f, m9, m10f, m10, m11, hT⟩
  | 2, hq, hSk =>
   obtain rfl := Option.some.inj hq
   refine Ops.fld (hT.rd 0 rfl) (by exact f5) rfl rfl rfl inferInstance ?_
   refine Ops.nil ?_
   exact ⟨f2, f4, f5, p0, p1, fun _ => rfl, p3, p4, p5, p6, p7, p8, Aw, nw, cw, ws, bw, kk, va, hkk, hnw, m9f, m9, m10f, m10, m11, hT⟩
  | 3, hq, hSk =>
   obtain rfl := Option.some.inj hq
   refine Ops.ldf_s (hT.rd 0 rfl) (by exact p2 (deps_of hd 2 rfl)) rfl rfl rfl rfl ?_
   refine Ops.nil ?_
   exact ⟨f2, f4, f5, p0, p1, p2, fun _ => rfl, p4, p5, p6, p7, p8, Aw, nw, cw, ws, bw, kk, va, hkk, hnw, m9f, m9, m10f, m10, m11, hT⟩
  | 4, hq, hSk =>
   obtain rfl := Option.some.inj hq
   refine Ops.len (by exact p3 (deps_of hd 3 rfl)) rfl ?_
   refine Ops.nil ?_
   exact ⟨f2, f4, f5, p0, p1, p2, p3, fun _ => rfl, p5, p6, p7, p8, Aw, nw, cw, ws, bw, kk, va, hkk, hnw, m9f, m9, m10f, m10, m11, hT⟩
  | 5, hq, hSk =>
   obtain rfl := Option.some.inj hq
   refine Ops.mv_ptr rfl (by exact f4) rfl ?_
   refine Ops.nil ?_
   exact ⟨f2, f4, f5, p0, p1, p2, p3, p4, fun _ => rfl, p6, p7, p8, Aw, nw, cw, ws, bw, kk, va, hkk, hnw, m9f, m9, m10f, m10, m11, hT⟩
  | 6, hq, hSk =>
   obtain rfl := Option.some.inj hq
   have n9 : S 9 = false := notyet hSk fun h => deps_of (hcl 9 _ h rfl) 6 rfl
   obtain rfl := m9f n9
   have h15 : e1 15 = .pointer As := p5 (deps_of hd 5 rfl)
   refine Ops.call (srcNextX_c (Bx 32 1 A5 [.slice A n c] :: Bx 32 1 A2 va :: X) 0 16 hT rfl hkk) rfl (by simp [ev, h15]) rfl ?_
   rintro _ w8 ⟨r, k7, rfl, hr, hK7, hT7⟩
   refine Ops.nil ?_
   exact ⟨f2, f4, f5, p0, p1, p2, p3, p4, p5, fun _ => ⟨r, rfl, hr.1, hr.2.1 (by omega)⟩, p7, p8, Aw, nw, cw, ws, [], k7, va, hK7, hnw, fun _ => rfl, m9, m10f, m10, m11, hT7⟩
  | 7, hq, hSk =>
   obtain rfl := Option.some.inj hq
   obtain ⟨r, h16, hr0, hr1⟩ := p6 (deps_of hd 6 rfl)
   refine Ops.quo (by exact h16) rfl rfl (by omega) ?_
   refine Ops.nil ?_
   exact ⟨f2, f4, f5, p0, p1, p2, p3, p4, p5, p6, fun _ => ⟨_, rfl, by omega, by omega⟩, p8, Aw, nw, cw, ws, bw, kk, va, hkk, hnw, m9f, m9, m10f, m10, m11, hT⟩
  | 8, hq, hSk =>
   obtain rfl := Option.some.inj hq
   obtain ⟨r, h17, hr0, hr1⟩ := p7 (deps_of hd 7 rfl)
   refine Ops.add (by exact p4 (deps_of hd 4 rfl)) (by exact h17) rfl (by omega) ?_
   refine Ops.nil ?_
   exact ⟨f2, f4, f5, p0, p1, p2, p3, p4, p5, p6, p7, fun _ => ⟨_, rfl⟩, Aw, nw, cw, ws, bw, kk, va, hkk, hnw, m9f, m9, m10f, m10, m11, hT⟩
  | 9, hq, hSk =>
   obtain rfl := Option.some.inj hq
   obtain rfl := m9f hSk
   obtain ⟨r, h18⟩ := p8 (deps_of hd 8 rfl)
   have h11 : e1 11 = .pointer As := p1 (deps_of hd 1 rfl)
   have n11 : S 11 = false := notyet hSk fun h => deps_of (hcl 11 _ h rfl) 9 rfl
   refine Ops.call (l11DrawWordX_c (Bx 32 1 A5 [.slice A n c] :: Bx 32 1 A2 va :: X) 0 r 8 hT rfl hkk (by decide)) rfl (by simp [ev, h11, h18]) rfl ?_
   rintro _ w8 ⟨Aw', nw', cw', ws', k7, rfl, hnw', hK7, hT7⟩
   refine Ops.nil ?_
   exact ⟨f2, f4, f5, p0, p1, p2, p3, p4, p5, p6, p7, p8, Aw', nw', cw', ws', [CkI 2 Aw' nw' cw' ws'], k7, va, hK7, hnw', fun h => (nomatch (show true = false from h)), fun _ => ⟨rfl, rfl⟩, m10f, m10, fun h => (nomatch n11.symm.trans h), hT7.perm ((List.Perm.swap _ _ _).trans (List.Perm.cons _ (List.Perm.swap _ _ _)))⟩
  | 10, hq, hSk =>
   obtain rfl := Option.some.inj hq
   obtain rfl := m10f hSk
   refine Ops.st_agg 1 1 hT rfl (by exact f2) (by exact p0 (deps_of hd 0 rfl)) rfl rfl rfl rfl ?_
   intro w8 hT8
   refine Ops.nil ?_
   exact ⟨f2, f4, f5, p0, p1, p2, p3, p4, p5, p6, p7, p8, Aw, nw, cw, ws, bw, kk, [.slice A n c], hkk, hnw, m9f, m9, fun h => (nomatch (show true = false from h)), fun _ => rfl, m11, hT8⟩
  | 11, hq, hSk =>
   obtain rfl := Option.some.inj hq
   refine Ops.mv_sl rfl (by exact (m9 (deps_of hd 9 rfl)).1) rfl ?_
   refine Ops.nil ?_
   exact ⟨f2, f4, f5, p0, p1, p2, p3, p4, p5, p6, p7, p8, Aw, nw, cw, ws, bw, kk, va, hkk, hnw, m9f, m9, m10f, m10, fun _ => rfl, hT⟩
  | i + 12, hq, _ => exact (nomatch hq)
 ·intro S e1 w6 hall hI
  obtain ⟨f2, f4, f5, p0, p1, p2, p3, p4, p5, p6, p7, p8, Aw, nw, cw, ws, bw, kk, va, hkk, hnw, m9f, m9, m10f, m10, m11, hT⟩ := hI
  obtain ⟨_, rfl⟩ := m9 (hall 9 (by decide))
  obtain rfl := m10 (hall 10 (by decide))
  refine thenQ_ext (F := [(2, .pointer A2), (3, .slice Aw nw cw)]) ⟨f2, m11 (hall 11 (by decide)), trivial⟩ ?_
  refine thenQ_n ?_
  refine Cd.ret ?_
  skip
  refine retc2_r rfl (hT.rd 1 rfl) rfl ?_
  exact ⟨n, A, c, rs, xss, X, Aw, nw, cw, ws, rfl, hn, hcap, hb, hnw, hX, hT.tail.tail.sub (List.Sublist.cons_cons _ (List.sublist_append_left _ _))⟩

structure DhS where
 n : Nat
 A : Option Addr
 c : Nat
 rs : List SlV
 xss : List (List Int)
 X : List Ck
 kk : Ck
/-- how far the open statement is -/
structure Dl6 (w0 : World) (As A5 A2 : Option Addr) (n : Nat) (A : Option Addr) (c : Nat) (X : List Ck) (S : Nat → Bool) (e : Env) (w : World) : Prop where
 f2 : e 2 = .pointer A2
 f4 : e 4 = .pointer As
 f5 : e 5 = .pointer A5
 p0 : S 0 = true → e 15 = .agg #[.slice A n c]
 p1 : S 1 = true → e 16 = .pointer As
 mem : ∃ (Al : Option Addr) (bl : List Ck) (kk : Ck) (va : List Value) (j : Int), srcK w0 As kk ∧ (S 2 = false → bl = []) ∧ (S 2 = true → e 17 = .slice Al 9 9 ∧ bl = [CkI 2 Al 9 9 [1, 1, 2, 2, 3, 4, 16, 0, 17]]) ∧ (S 3 = true → e 18 = .int .i64 j ∧ 0 ≤ j ∧ j ≤ 17) ∧ (S 4 = false → va = [.slice none 0 0]) ∧ (S 4 = true → va = [.slice A n c]) ∧ (S 5 = true → e 3 = .int .i64 j) ∧
  St w0 w (Bx 32 1 A5 [.slice A n c] :: Bx 32 1 A2 va :: (bl ++ (X ++ [kk])))

theorem DrawHoleLengths_c (Ac : Option Addr) (nc cc : Nat) (bs : List Int) (w : World) (hY : RdY w Ac nc bs) (hnc : nc ≤ 1000000) :
  Ret Tryz.prog 29 [.slice Ac nc cc] w (fun v w' => ∃ (n : Nat) (A : Option Addr) (c : Nat) (rs : List SlV) (xss : List (List Int)) (X : List Ck) (j : Int), v = .tuple #[.agg #[.slice A n c], .int .i64 j] ∧ n ≤ 6 ∧ (n ≤ c ∧ c ≤ 9223372036854775807) ∧ (∀ p ∈ xss, p.length ≤ 20001 ∧ ∀ x ∈ p, -1 ≤ x ∧ x ≤ 20001) ∧ (0 ≤ j ∧ j ≤ 17) ∧ (∀ (w'' : World) (Y : List Ck), St w w'' (X ++ Y) → RowsI w'' A n rs xss) ∧ St w w' X) := by
 refine Ret.of_cd Tryz.func29 rfl Tryz.ntmps29 rfl (postc2 rfl rfl) ?_
 refine Cd.seq ?_
 refine Cd.region ?_
 refine Ops.new1 (St.refl w) rfl ?_
 intro A2 w1 hS1
 refine Ops.mv_int rfl rfl rfl ?_
 refine Ops.nil ?_
 refine thenQ_n ?_
 refine Cd.seq ?_
 refine Cd.region ?_
 refine Ops.mv_sl rfl rfl rfl ?_
 refine Ops.call (l01FromG_c Ac nc cc bs w1 (hY.below hS1.below) hnc) rfl rfl rfl ?_
 rintro _ w2 ⟨As, k0, rfl, hK0, hT⟩
 have hK0 := hK0 w hY
 have hS2 : St w w2 [k0, Bx 32 1 A2 [.slice none 0 0]] := hS1.call hT
 refine Ops.mv_ptr rfl rfl rfl ?_
 refine Ops.nil ?_
 refine thenQ_n ?_
 refine Cd.seq ?_
 refine Cd.region ?_
 refine Ops.mv_ptr rfl rfl rfl ?_
 refine Ops.call (l14Draw_c 0 48 hS2 rfl hK0 (by decide)) rfl rfl rfl ?_
 rintro _ w3 ⟨n0, A0, c0, rs0, xss0, X0, k1, rfl, hn0, hcap0, hb0, hK1, hX0, hS3⟩
 have hS3 : St w w3 (X0 ++ [k1, Bx 32 1 A2 [.slice none 0 0]]) := hS3
 skip
 refine Ops.new1 hS3 rfl ?_
 intro A5 w4 hS4
 skip
 refine Ops.st_agg 1 0 hS4 rfl rfl rfl rfl rfl rfl rfl ?_
 intro w5 hS5
 have hS5 : St w w5 (Bx 32 1 A5 [.slice A0 n0 c0] :: (X0 ++ [k1, Bx 32 1 A2 [.slice none 0 0]])) := hS5
 have hS6 : St w w5 (Bx 32 1 A5 [.slice A0 n0 c0] :: Bx 32 1 A2 [.slice none 0 0] :: (X0 ++ [k1])) := hS5.perm (List.Perm.cons _ (by
  rw [show X0 ++ [k1, Bx 32 1 A2 [.slice none 0 0]] = (X0 ++ [k1]) ++ [Bx 32 1 A2 [.slice none 0 0]] by simp]
  exact List.perm_append_comm))
 refine Ops.nil ?_
 refine thenQ_n ?_
 refine Cd.join (α := DhS) (fun s => [(2, .pointer A2), (4, .pointer As), (5, .pointer A5)]) (fun s w' => s.n ≤ 6 ∧ (s.n ≤ s.c ∧ s.c ≤ 9223372036854775807) ∧ (∀ p ∈ s.xss, p.length ≤ 20001 ∧ ∀ x ∈ p, -1 ≤ x ∧ x ≤ 20001) ∧ (∀ (w'' : World) (Y : List Ck), St w w'' (s.X ++ Y) → RowsI w'' s.A s.n s.rs s.xss) ∧ srcK w As s.kk ∧ St w w' (Bx 32 1 A5 [.slice s.A s.n s.c] :: Bx 32 1 A2 [.slice none 0 0] :: (s.X ++ [s.kk]))) ?_ ?_
 ·refine Cd.seq ?_
  refine Cd.region ?_
  refine Ops.mv_ptr rfl rfl rfl ?_
  refine Ops.call (srcNextX_c (Bx 32 1 A5 [.slice A0 n0 c0] :: Bx 32 1 A2 [.slice none 0 0] :: X0) 0 8 hS6 rfl hK1) rfl rfl rfl ?_
  rintro _ w6 ⟨r1, k2, rfl, hr1, hK2, hS7⟩
  have hS7 : St w w6 (Bx 32 1 A5 [.slice A0 n0 c0] :: Bx 32 1 A2 [.slice none 0 0] :: (X0 ++ [k2])) := hS7
  refine Ops.eql rfl rfl rfl ?_
  refine Ops.nil ?_
  refine thenQ_n ?_
  refine Cd.cond_p _ rfl (fun h1 => ?_) (fun h1 => ?_)
  ·have hS8 : St w w6 [k2, Bx 32 1 A5 [.slice A0 n0 c0], Bx 32 1 A2 [.slice none 0 0]] := by
    have h := hS7.sub (List.Sublist.cons_cons _ (List.Sublist.cons_cons _ (List.sublist_append_right X0 [k2])))
    exact h.perm ((List.Perm.cons _ (List.Perm.swap _ _ _)).trans (List.Perm.swap _ _ _))
   refine Cd.region ?_
   refine Ops.mv_ptr rfl rfl rfl ?_
   refine Ops.call (l18Draw_c 0 32 hS8 rfl hK2 (by decide)) rfl rfl rfl ?_
   rintro _ w7 ⟨n, A, c, rs, xss, X, k3, rfl, hn, hcap, hb, hK3, hX, hS9⟩
   have hS9 : St w w7 (X ++ [k3, Bx 32 1 A5 [.slice A0 n0 c0], Bx 32 1 A2 [.slice none 0 0]]) := hS9
   have hS10 : St w w7 (Bx 32 1 A5 [.slice A0 n0 c0] :: Bx 32 1 A2 [.slice none 0 0] :: (X ++ [k3])) := hS9.perm (by
    rw [show X ++ [k3, Bx 32 1 A5 [.slice A0 n0 c0], Bx 32 1 A2 [.slice none 0 0]] = (X ++ [k3]) ++ [Bx 32 1 A5 [.slice A0 n0 c0], Bx 32 1 A2 [.slice none 0 0]] by simp]
    exact List.perm_append_comm)
   refine Ops.st_agg 1 0 hS10 rfl rfl rfl rfl rfl rfl rfl ?_
   intro w8 hS11
   refine Ops.nil ?_
   refine thenQ_n ?_
   exact ⟨⟨n, A, c, rs, xss, X, k3⟩, ⟨rfl, rfl, rfl, trivial⟩, hn, hcap, hb, hX, hK3, hS11⟩
  ·refine Cd.skip ?_
   refine thenQ_n ?_
   exact ⟨⟨n0, A0, c0, rs0, xss0, X0, k2⟩, ⟨rfl, rfl, rfl, trivial⟩, hn0, hcap0, hb0, hX0, hK2, hS7⟩
 ·rintro ⟨n, A, c, rs, xss, X, k4⟩ e w7 ⟨hn, hcap, hb, hX, hK4, hS8⟩
  dsimp only at hn hcap hb hX hK4 hS8 ⊢
  refine Cd.seq ?_
  refine Cd.drawS (by kernel_rfl) (by kernel_rfl) (fun S e1 w1 => Dl6 w As A5 A2 n A c X S e1 w1) (fun w6 hb => ⟨rfl, rfl, rfl, fun h => (nomatch h), fun h => (nomatch h), none, [], k4, _, 0, hK4, fun _ => rfl, fun h => (nomatch h), fun h => (nomatch h), fun _ => rfl, fun h => (nomatch h), fun h => (nomatch h), hS8.later hb⟩) ?_ ?_
  ·intro S i o e1 w6 hq hSk hd hcl hI
   obtain ⟨f2, f4, f5, p0, p1, Al, bl, kk, va, j, hkk, m2f, m2, m3, m4f, m4, m5, hT⟩ := hI
   match i, hq, hSk with
   | 0, hq, hSk =>
    obtain rfl := Option.some.inj hq
    refine Ops.ld_agg 0 (hT.rd 0 rfl) (by exact f5) rfl rfl ?_
    refine Ops.nil ?_
    exact ⟨f2, f4, f5, fun _ => rfl, p1, Al, bl, kk, va, j, hkk, m2f, m2, m3, m4f, m4, m5, hT⟩
   | 1, hq, hSk =>
    obtain rfl := Option.some.inj hq
    refine Ops.mv_ptr rfl (by exact f4) rfl ?_
    refine Ops.nil ?_
    exact ⟨f2, f4, f5, p0, fun _ => rfl, Al, bl, kk, va, j, hkk, m2f, m2, m3, m4f, m4, m5, hT⟩
   | 2, hq, hSk =>
    obtain rfl := Option.some.inj hq
    obtain rfl := m2f hSk
    refine Ops.bsL [1, 1, 2, 2, 3, 4, 16, 0, 17] hT (by simp [ev, idxI]) rfl (by decide) (by decide) rfl rfl ?_
    intro A25 w8 hT8
    refine Ops.nil ?_
    exact ⟨f2, f4, f5, p0, p1, A25, [CkI 2 A25 9 9 [1, 1, 2, 2, 3, 4, 16, 0, 17]], kk, va, j, hkk, fun h => (nomatch (show true = false from h)), fun _ => ⟨rfl, rfl⟩, m3, m4f, m4, m5, hT8.perm ((List.Perm.swap _ _ _).trans (List.Perm.cons _ (List.Perm.swap _ _ _)))⟩
   | 3, hq, hSk =>
    obtain rfl := Option.some.inj hq
    obtain ⟨h17, rfl⟩ := m2 (deps_of hd 2 rfl)
    have h16 : e1 16 = .pointer As := p1 (deps_of hd 1 rfl)
    have n5 : S 5 = false := notyet hSk fun h => deps_of (hcl 5 _ h rfl) 3 rfl
    refine Ops.call (l01PickX_c (Bx 32 1 A5 [.slice A n c] :: Bx 32 1 A2 va :: CkI 2 Al 9 9 [1, 1, 2, 2, 3, 4, 16, 0, 17] :: X) 0 Al 9 9 [1, 1, 2, 2, 3, 4, 16, 0, 17] hT rfl hkk (fun k' w' h => h.rdI 2 rfl) (by decide)) rfl (by exact two_eq h16 h17) rfl ?_
    rintro _ w8 ⟨x, k7, rfl, hx, hK7, hT7⟩
    have hxb : 0 ≤ x ∧ x ≤ 17 := by
     simp only [List.mem_cons, List.not_mem_nil, or_false] at hx
     omega
    refine Ops.nil ?_
    exact ⟨f2, f4, f5, p0, p1, Al, [CkI 2 Al 9 9 [1, 1, 2, 2, 3, 4, 16, 0, 17]], k7, va, x, hK7, fun h => m2f h, fun _ => ⟨h17, rfl⟩, fun _ => ⟨rfl, hxb⟩, m4f, m4, fun h => (nomatch n5.symm.trans h), hT7⟩
   | 4, hq, hSk =>
    obtain rfl := Option.some.inj hq
    obtain rfl := m4f hSk
    refine Ops.st_agg 1 1 hT rfl (by exact f2) (by exact p0 (deps_of hd 0 rfl)) rfl rfl rfl rfl ?_
    intro w8 hT8
    refine Ops.nil ?_
    exact ⟨f2, f4, f5, p0, p1, Al, bl, kk, [.slice A n c], j, hkk, m2f, m2, m3, fun h => (nomatch (show true = false from h)), fun _ => rfl, m5, hT8⟩
   | 5, hq, hSk =>
    obtain rfl := Option.some.inj hq
    refine Ops.mv_int rfl (by exact (m3 (deps_of hd 3 rfl)).1) rfl ?_
    refine Ops.nil ?_
    exact ⟨f2, f4, f5, p0, p1, Al, bl, kk, va, j, hkk, m2f, m2, m3, m4f, m4, fun _ => rfl, hT⟩
   | i + 6, hq, _ => exact (nomatch hq)
  ·intro S e1 w6 hall hI
   obtain ⟨f2, f4, f5, p0, p1, Al, bl, kk, va, j, hkk, m2f, m2, m3, m4f, m4, m5, hT⟩ := hI
   obtain ⟨_, rfl⟩ := m2 (hall 2 (by decide))
   obtain rfl := m4 (hall 4 (by decide))
   refine thenQ_ext (F := [(2, .pointer A2), (3, .int .i64 j)]) ⟨f2, m5 (hall 5 (by decide)), trivial⟩ ?_
   refine thenQ_n ?_
   refine Cd.ret ?_
   skip
   refine retc2_r rfl (hT.rd 1 rfl) rfl ?_
   exact ⟨n, A, c, rs, xss, X, j, rfl, hn, hcap, hb, (m3 (hall 3 (by decide))).2, hX, (hT.sub (((List.sublist_append_left X [kk]).cons _).cons _ |>.cons _))⟩
end Go.Proofs.YtjpkmpihmilgoaaGreat.Vc
/-
 Plain mathematics of cycles: the cycles of a permutation are the orbits, each once; how many have a length. Conditions: as each states them. No program in sight.
-/
namespace Go.Proofs.YtjpkmpihmilgoaaGreat.Vc

theorem gb_setT {s : List Bool} {x : Nat} (hx : x < s.length) (y : Int) (hy : 0 ≤ y) : gb (s.set x true) y = true ↔ y = (x : Int) ∨ gb s y = true := by
 obtain ⟨z, rfl⟩ : ∃ z : Nat, y = z := ⟨y.toNat, by omega⟩
 unfold gb
 simp only [Int.toNat_natCast, List.getD_eq_getElem?_getD, List.getElem?_set]
 by_cases e : x = z
 ·subst e; simp [hx]
 ·rw [if_neg e]
  constructor
  ·exact .inr
  ·rintro (h | h)
   ·omega
   ·exact h
theorem goC_main {N : Nat} {p : List Int} (hs : Sys N [p]) {a : Int} : ∀ (k x : Nat) (s : List Bool) (path : List Int), s.length = N → x < N → s.count false = k → Reach [p] a (x : Int) → (∀ y ∈ path, (0 ≤ y ∧ y < N) ∧ gb s y = true) → (∀ y ∈ path, gi p y ∈ path ∨ gi p y = (x : Int)) →
    (∀ y : Int, 0 ≤ y → y < N → ((gb s y = true ∧ y ∉ path) ↔ (gb s (gi p y) = true ∧ gi p y ∉ path))) → ¬ (gb s (x : Int) = true ∧ (x : Int) ∉ path) →
    (goC p k x s).2.length = N ∧ (goC p k x s).1.Nodup ∧ (∀ y ∈ (goC p k x s).1, Reach [p] a y ∧ (0 ≤ y ∧ y < N) ∧ ¬ gb s y = true) ∧ (∀ y : Int, 0 ≤ y → y < N → (gb (goC p k x s).2 y = true ↔ gb s y = true ∨ y ∈ (goC p k x s).1)) ∧
    (∀ y, y ∈ path ∨ y ∈ (goC p k x s).1 → gi p y ∈ path ∨ gi p y ∈ (goC p k x s).1) ∧ (¬ gb s (x : Int) = true → (x : Int) ∈ (goC p k x s).1) := by
  intro k
  induction k with
  | zero =>
    intro x s path hl hx hk hr hp hc ht hn
    have hb : gb s (x : Int) = true := by
      have h0 := List.count_eq_zero.1 hk
      rw [gb_nat (by omega)]
      have := List.getElem_mem (l := s) (n := x) (by omega)
      cases h : s[x] with
      | true => rfl
      | false => rw [h] at this; exact absurd this h0
    have hxp : (x : Int) ∈ path := Classical.byContradiction fun h => hn ⟨hb, h⟩
    rw [goC_seen hb]
    refine ⟨hl, List.nodup_nil, fun y hy => (nomatch hy), fun y _ _ => by simp, fun y hy => ?_, fun h => absurd hb h⟩
    rcases hy with hy | hy
    · rcases hc y hy with h | h
      · exact .inl h
      · rw [h]; exact .inl hxp
    · cases hy
  | succ k ih =>
    intro x s path hl hx hk hr hp hc ht hn
    by_cases hb : gb s (x : Int) = true
    · have hxp : (x : Int) ∈ path := Classical.byContradiction fun h => hn ⟨hb, h⟩
      rw [goC_seen hb]
      refine ⟨hl, List.nodup_nil, fun y hy => (nomatch hy), fun y _ _ => by simp, fun y hy => ?_, fun h => absurd hb h⟩
      rcases hy with hy | hy
      · rcases hc y hy with h | h
        · exact .inl h
        · rw [h]; exact .inl hxp
      · cases hy
    · have hcs := count_seen (s := s) (x := x) (by omega) hb
      have hst := goC_step (p := p) (s := s) (x := x) (by omega) hb
      rw [hk] at hst
      rw [show (s.set x true).count false = k by omega] at hst
      have hpx := (hs p (by simp)).2 (x : Int) (by omega) (by omega)
      have hxt : ((gi p (x : Int)).toNat : Int) = gi p (x : Int) := Int.toNat_of_nonneg hpx.1
      have hg := fun y hy => gb_setT (s := s) (x := x) (by omega) y hy
      have tz : ∀ y : Int, 0 ≤ y → ((gb (s.set x true) y = true ∧ y ∉ (x : Int) :: path) ↔ (gb s y = true ∧ y ∉ path)) := by
        intro y hy
        rw [hg y hy, List.mem_cons]
        constructor
        · rintro ⟨h1 | h1, h2⟩
          · exact absurd (.inl h1) h2
          · exact ⟨h1, fun h => h2 (.inr h)⟩
        · rintro ⟨h1, h2⟩
          exact ⟨.inr h1, fun h => by
            rcases h with h | h
            · rw [h] at h1; exact hb h1
            · exact h2 h⟩
      obtain ⟨i1, i2, i3, i4, i5, i6⟩ := ih (gi p (x : Int)).toNat (s.set x true) ((x : Int) :: path) (by simp [hl]) (by omega) (by omega) (by rw [hxt]; exact .step hr (by simp)) (fun y hy => by
          rcases List.mem_cons.1 hy with rfl | hy
          · exact ⟨⟨by omega, by omega⟩, (hg _ (by omega)).2 (.inl rfl)⟩
          · have := hp y hy
            exact ⟨this.1, (hg _ this.1.1).2 (.inr this.2)⟩) (fun y hy => by
          rcases List.mem_cons.1 hy with rfl | hy
          · exact .inr hxt.symm
          · rcases hc y hy with h | h
            · exact .inl (List.mem_cons_of_mem _ h)
            · rw [h]; exact .inl (by simp)) (fun y h0 h1 => by
          have hpy := (hs p (by simp)).2 y h0 h1
          rw [tz y h0, tz _ hpy.1]
          exact ht y h0 h1) (by
          rw [hxt, tz _ hpx.1, ← ht (x : Int) (by omega) (by omega)]
          exact fun h => hb h.1)
      rw [hst]
      generalize (goC p k (gi p (x : Int)).toNat (s.set x true)).1 = l at *
      generalize (goC p k (gi p (x : Int)).toNat (s.set x true)).2 = s' at *
      refine ⟨i1, ?_, ?_, ?_, ?_, fun _ => by simp⟩
      · show ((x : Int) :: l).Nodup
        rw [List.nodup_cons]
        exact ⟨fun h => (i3 _ h).2.2 ((hg _ (by omega)).2 (.inl rfl)), i2⟩
      · intro y hy
        rcases List.mem_cons.1 hy with rfl | hy
        · exact ⟨hr, ⟨by omega, by omega⟩, hb⟩
        · have := i3 y hy
          exact ⟨this.1, this.2.1, fun h => this.2.2 ((hg _ this.2.1.1).2 (.inr h))⟩
      · intro y h0 h1
        show gb s' y = true ↔ gb s y = true ∨ y ∈ (x : Int) :: l
        rw [i4 y h0 h1, hg y h0, List.mem_cons]
        constructor
        · rintro ((h | h) | h)
          · exact .inr (.inl h)
          · exact .inl h
          · exact .inr (.inr h)
        · rintro (h | h | h)
          · exact .inl (.inr h)
          · exact .inl (.inl h)
          · exact .inr h
      · intro y hy
        show gi p y ∈ path ∨ gi p y ∈ (x : Int) :: l
        have hy' : y ∈ (x : Int) :: path ∨ y ∈ l := by
          rcases hy with h | h
          · exact .inl (List.mem_cons_of_mem _ h)
          · rcases List.mem_cons.1 h with h | h
            · exact .inl (by rw [h]; simp)
            · exact .inr h
        rcases i5 y hy' with h | h
        · rcases List.mem_cons.1 h with h | h
          · exact .inr (by rw [h]; simp)
          · exact .inl h
        · exact .inr (List.mem_cons_of_mem _ h)

theorem cycs_main {N : Nat} {p : List Int} (hs : Sys N [p]) (hi : Inj N [p]) : ∀ (is : List Nat) (s : List Bool), s.length = N → (∀ i ∈ is, i < N) → (∀ y : Int, 0 ≤ y → y < N → (gb s y = true ↔ gb s (gi p y) = true)) →
    (cycs p is s).flatten.Nodup ∧ (∀ y ∈ (cycs p is s).flatten, (0 ≤ y ∧ y < N) ∧ ¬ gb s y = true) ∧ (∀ i ∈ is, gb s (i : Int) = true ∨ (i : Int) ∈ (cycs p is s).flatten) ∧ (∀ c ∈ cycs p is s, c ≠ [] ∧ ∀ x ∈ c, ∀ y, y ∈ c ↔ Reach [p] x y)
  | [], s, _, _, _ => by simp [cycs]
  | i :: is, s, hl, hir, ht => by
    have hiN := hir i (by simp)
    by_cases hb : gb s (i : Int) = true
    · have ih := cycs_main hs hi is s hl (fun j hj => hir j (by simp [hj])) ht
      have e : cycs p (i :: is) s = cycs p is s := by
        rw [cycs, goC_seen hb]
        simp
      rw [e]
      refine ⟨ih.1, ih.2.1, fun j hj => ?_, ih.2.2.2⟩
      rcases List.mem_cons.1 hj with rfl | hj
      · exact .inl hb
      · exact ih.2.2.1 j hj
    · obtain ⟨i1, i2, i3, i4, i5, i6⟩ := goC_main hs (a := (i : Int)) (s.count false) i s [] hl hiN rfl .refl (fun y hy => nomatch hy) (fun y hy => nomatch hy) (fun y h0 h1 => by simpa using ht y h0 h1) (fun h => hb h.1)
      have i6 := i6 hb
      have e : cycs p (i :: is) s = (goC p (s.count false) i s).1 :: cycs p is (goC p (s.count false) i s).2 := by
        rw [cycs, if_neg (fun h => by rw [h] at i6; cases i6)]
        rfl
      rw [e]
      generalize (goC p (s.count false) i s).1 = l at *
      generalize (goC p (s.count false) i s).2 = s' at *
      have hcl : ∀ y, y ∈ l ↔ Reach [p] (i : Int) y := fun y => ⟨fun h => (i3 y h).1, fun h => by
        induction h with
        | refl => exact i6
        | step _ hq ih =>
          obtain rfl := List.mem_singleton.1 hq
          rcases i5 _ (.inr ih) with h | h
          · cases h
          · exact h⟩
      have hir0 : (0 : Int) ≤ (i : Int) ∧ (i : Int) < N := ⟨by omega, by omega⟩
      have hrx : ∀ x ∈ l, ∀ y, y ∈ l ↔ Reach [p] x y := fun x hx y => by
        have h1 := (hcl x).1 hx
        rw [hcl y]
        exact ⟨fun h => (h1.symm hs hi hir0.1 hir0.2).trans h, fun h => h1.trans h⟩
      have ht' : ∀ y : Int, 0 ≤ y → y < N → (gb s' y = true ↔ gb s' (gi p y) = true) := by
        intro y h0 h1
        have hpy := (hs p (by simp)).2 y h0 h1
        rw [i4 y h0 h1, i4 _ hpy.1 hpy.2, ht y h0 h1]
        have : y ∈ l ↔ gi p y ∈ l := by
          rw [hcl, hcl]
          exact ⟨fun h => .step h (by simp), fun h => h.trans (Reach.back hs hi h0 h1 (by simp))⟩
        rw [this]
      obtain ⟨c1, c2, c3, c4⟩ := cycs_main hs hi is s' i1 (fun j hj => hir j (by simp [hj])) ht'
      refine ⟨?_, ?_, ?_, ?_⟩
      · rw [List.flatten_cons, List.nodup_append]
        refine ⟨i2, c1, fun a ha b hb' e => ?_⟩
        subst e
        have := c2 a hb'
        exact this.2 ((i4 a this.1.1 this.1.2).2 (.inr ha))
      · intro y hy
        rw [List.flatten_cons, List.mem_append] at hy
        rcases hy with hy | hy
        · exact (i3 y hy).2
        · have := c2 y hy
          exact ⟨this.1, fun h => this.2 ((i4 y this.1.1 this.1.2).2 (.inl h))⟩
      · intro j hj
        rw [List.flatten_cons, List.mem_append]
        rcases List.mem_cons.1 hj with rfl | hj
        · exact .inr (.inl i6)
        · rcases c3 j hj with h | h
          · have hjN := hir j (by simp [hj])
            rcases (i4 (j : Int) (by omega) (by omega)).1 h with h | h
            · exact .inl h
            · exact .inr (.inl h)
          · exact .inr (.inr h)
      · intro c hc
        rcases List.mem_cons.1 hc with rfl | hc
        · exact ⟨fun h => (by rw [h] at i6; cases i6), hrx⟩
        · exact c4 c hc

/-- the points -/
def rangeI (N : Nat) : List Int := (List.range N).map fun k : Nat => (k : Int)
theorem rangeI_mem {N : Nat} {x : Int} : x ∈ rangeI N ↔ 0 ≤ x ∧ x < N := by
 unfold rangeI
 rw [List.mem_map]
 constructor
 ·rintro ⟨k, hk, rfl⟩; rw [List.mem_range] at hk; omega
 ·rintro ⟨h0, h1⟩; exact ⟨x.toNat, List.mem_range.2 (by omega), by omega⟩
theorem rangeI_nodup (N : Nat) : (rangeI N).Nodup := by
 unfold rangeI
 rw [List.nodup_iff_pairwise_ne, List.pairwise_map]
 exact (List.nodup_iff_pairwise_ne.1 (List.nodup_range)).imp fun h e => h (by omega)
theorem rangeI_len (N : Nat) : (rangeI N).length = N := by simp [rangeI]
/-- how many points can be reached -/
def osz (N : Nat) (xss : List (List Int)) (x : Int) : Nat := (orbit N xss x).length
theorem osz_of {N : Nat} {xss : List (List Int)} (hs : Sys N xss) {x : Int} (h0 : 0 ≤ x) (h1 : x < N) {l : List Int} (hn : l.Nodup) (h : ∀ y, y ∈ l ↔ Reach xss x y) : osz N xss x = l.length := by
 obtain ⟨g, _, hm⟩ := orbit_spec hs h0 h1
 exact ((List.perm_ext_iff_of_nodup g.nodup hn).2 fun y => (hm y).trans (h y).symm).length_eq
theorem cy_part {N : Nat} {p : List Int} (hs : Sys N [p]) (hi : Inj N [p]) : (cyAll p N).flatten.Perm (rangeI N) ∧ ∀ c ∈ cyAll p N, c ≠ [] ∧ ∀ x ∈ c, osz N [p] x = c.length := by
 have hgb : ∀ y : Int, 0 ≤ y → y < N → ¬ gb (List.replicate N false) y = true := fun y h0 h1 => by
  simp only [gb, List.getD_eq_getElem?_getD, List.getElem?_replicate]
  split <;> simp
 obtain ⟨c1, c2, c3, c4⟩ := cycs_main hs hi (List.range N) (List.replicate N false) (by simp) (fun i h => List.mem_range.1 h) (fun y h0 h1 => by
  have hpy := (hs p (by simp)).2 y h0 h1
  exact ⟨fun h => absurd h (hgb y h0 h1), fun h => absurd h (hgb _ hpy.1 hpy.2)⟩)
 refine ⟨(List.perm_ext_iff_of_nodup c1 (rangeI_nodup N)).2 fun y => ?_, fun c hc => ⟨(c4 c hc).1, fun x hx => ?_⟩⟩
 ·rw [rangeI_mem]
  constructor
  ·exact fun h => (c2 y h).1
  ·rintro ⟨h0, h1⟩
   have := c3 y.toNat (List.mem_range.2 (by omega))
   rw [Int.toNat_of_nonneg h0] at this
   exact this.resolve_left (hgb y h0 h1)
 ·have hr := (c2 x (List.mem_flatten.2 ⟨c, hc, hx⟩)).1
  have hnd : c.Nodup := by
   exact (List.pairwise_flatten.1 c1).1 c hc
  exact osz_of hs hr.1 hr.2 hnd ((c4 c hc).2 x hx)
theorem flat_count (f : Int → Nat) (n : Nat) : ∀ (C : List (List Int)), (∀ c ∈ C, ∀ x ∈ c, f x = c.length) → C.flatten.countP (fun x => decide (f x = n)) = n * (C.map List.length).count n
 | [], _ => by simp
 | c :: C, h => by
  have ih := flat_count f n C (fun c' hc' => h c' (by simp [hc']))
  rw [List.flatten_cons, List.countP_append, ih, List.map_cons, List.count_cons]
  have hc := h c (by simp)
  by_cases e : c.length = n
  ·have : c.countP (fun x => decide (f x = n)) = c.length := by
    rw [List.countP_eq_length]
    intro x hx
    simp [hc x hx, e]
   rw [this, e]
   simp [Nat.mul_add]
   omega
  ·have : c.countP (fun x => decide (f x = n)) = 0 := by
    rw [List.countP_eq_zero]
    intro x hx
    simp [hc x hx, e]
   rw [this]
   simp [e]
/-- the lengths of all cycles -/
def clens (p : List Int) (N : Nat) : List Nat := (cyAll p N).map List.length
theorem lens_count {N : Nat} {p : List Int} (hs : Sys N [p]) (hi : Inj N [p]) (n : Nat) : n * (clens p N).count n = (rangeI N).countP (fun x => decide (osz N [p] x = n)) := by
 obtain ⟨h1, h2⟩ := cy_part hs hi
 rw [clens, ← flat_count (osz N [p]) n (cyAll p N) (fun c hc x hx => (h2 c hc).2 x hx)]
 exact h1.countP_eq _
theorem lens_zero {N : Nat} {p : List Int} (hs : Sys N [p]) (hi : Inj N [p]) : (clens p N).count 0 = 0 := by
 rw [List.count_eq_zero]
 intro h
 obtain ⟨c, hc, e⟩ := List.mem_map.1 h
 exact ((cy_part hs hi).2 c hc).1 (List.eq_nil_of_length_eq_zero e)
theorem lens_sum {N : Nat} {p : List Int} (hs : Sys N [p]) (hi : Inj N [p]) : (clens p N).sum = N := by
 have h := (cy_part hs hi).1.length_eq
 rw [rangeI_len, List.length_flatten] at h
 exact h
theorem lenAll_lens (p : List Int) (N : Nat) : lenAll p N = (clens p N).map fun n : Nat => (n : Int) := by simp [lenAll, clens]
/-- two permutations with the same orbits have the same lengths -/
theorem lens_same {N : Nat} {p q : List Int} (hs : Sys N [p]) (hi : Inj N [p]) (hs' : Sys N [q]) (hi' : Inj N [q]) (h : ∀ x : Int, 0 ≤ x → x < N → osz N [p] x = osz N [q] x) : (clens p N).Perm (clens q N) := by
 rw [List.perm_iff_count]
 intro n
 by_cases h0 : n = 0
 ·subst h0; rw [lens_zero hs hi, lens_zero hs' hi']
 ·refine Nat.eq_of_mul_eq_mul_left (Nat.pos_of_ne_zero h0) ?_
  rw [lens_count hs hi, lens_count hs' hi']
  refine List.countP_congr fun x hx => ?_
  have := rangeI_mem.1 hx
  rw [h x this.1 this.2]
end Go.Proofs.YtjpkmpihmilgoaaGreat.Vc
/-
 The walks of the lengths of holes and zigzags on both sides. Conditions: as each states them.
-/
namespace Go.Proofs.YtjpkmpihmilgoaaGreat.Vc
open Go.RowKit

def holeL (xss : List (List Int)) (j : Int) : List Int := if holeK xss j = 0 then wordL xss (holeW (j - 1).toNat) else []
def zigL (xss : List (List Int)) (j : Int) : List Int := if holeK xss j = 0 then wordL xss (zigW j.toNat) else []

theorem specHoleLengths_c (A : Option Addr) (n c : Nat) (rs : List SlV) (xss : List (List Int)) (j : Int) (w : World) (hR : RowsI w A n rs xss) (hn : n ≤ 9223372036854775807) :
  Ret Tryz.prog 32 [.agg #[.slice A n c], .int .i64 j] w (AnsR (holeL xss j) (holeK xss j) w) := by
 have hl := hR.len
 refine Ret.of_cd Tryz.func32 rfl Tryz.ntmps32 rfl (post2 rfl) ?_
 refine Cd.seq ?_
 refine Cd.region ?_
 refine Ops.box1 (St.refl w) rfl rfl ?_
 intro Ab w1 hS1
 refine Ops.mv_sl rfl rfl rfl ?_
 refine Ops.mv_int rfl rfl rfl ?_
 refine Ops.nil ?_
 refine thenQ_n ?_
 refine Cd.seq ?_
 refine Cd.seq ?_
 refine Cd.region ?_
 refine Ops.ld_agg 0 (hS1.rd 0 rfl) rfl rfl rfl ?_
 refine Ops.mv_int rfl rfl rfl ?_
 refine Ops.call (l18Number_c A n c rs xss j _ (hS1.oldRows hR) hn) rfl rfl rfl ?_
 rintro _ w2 ⟨rfl, hst⟩
 have hS2 := hS1.later hst.below
 refine Ops.mv_int rfl rfl rfl ?_
 refine Ops.nil ?_
 refine thenQ_n ?_
 refine Cd.seq ?_
 refine Cd.region ?_
 refine Ops.mv_int rfl rfl rfl ?_
 refine Ops.neq rfl rfl rfl ?_
 refine Ops.nil ?_
 refine thenQ_n ?_
 refine Cd.cond_p _ rfl (fun h => ?_) (fun h => ?_)
 ·refine Cd.seq ?_
  refine Cd.region ?_
  refine Ops.mv_int rfl rfl rfl ?_
  refine Ops.mv_sl rfl rfl rfl ?_
  refine Ops.mv_int rfl rfl rfl ?_
  refine Ops.nil ?_
  refine thenQ_n ?_
  refine Cd.ret ?_
  refine thenQ_r ?_
  refine ret2_si rfl rfl ?_
  rw [holeL, if_neg h]
  exact AnsR.none hS2
 ·have hK : holeK xss j = 0 := Classical.not_not.1 h
  obtain ⟨hG, hj, h3⟩ := holeK_zero hK
  have hMa := hG.1
  have hs := hMa.2.2.1.sys
  have h40 := hMa.2.1
  obtain ⟨k, hk⟩ : ∃ k : Nat, j - 1 = (k : Int) := ⟨(j - 1).toNat, by omega⟩
  have hk16 : k ≤ 15 := by omega
  refine Cd.skip ?_
  refine thenQ_n ?_
  refine Cd.seq ?_
  refine Cd.drawN [8] [.ex (.agg #[.slice A n c]), .pr (fun v w' => ∃ A1, v = .slice A1 1 1 ∧ St w w' [CkI 2 A1 1 1 [0], Bx 32 1 Ab [.slice A n c]]), .pr (fun v w' => ∃ A1, v = .slice A1 2 2 ∧ RdI w' A1 2 [1, 2]), .ex (.int .i64 (j)), .ex (.int .i64 ((k : Int))), .pr (fun v w' => ∃ A1 c1, v = .slice A1 (2 * k) c1 ∧ RdI w' A1 (2 * k) (pow [1, 2] k)), .pr (fun v w' => ∃ A1 c1, v = .slice A1 (1 + 2 * k) c1 ∧ St w w' [CkI 2 A1 (1 + 2 * k) c1 (zigW k), Bx 32 1 Ab [.slice A n c]]), .pr (fun v w' => ∃ A1, v = .slice A1 1 1 ∧ RdI w' A1 1 [1]), .pr (fun v w' => ∃ A1 c1, v = .slice A1 (1 + 2 * k + 1) c1 ∧ St w w' [CkI 2 A1 (1 + 2 * k + 1) c1 (holeW k), Bx 32 1 Ab [.slice A n c]]), .pr (fun v w' => ∃ A1 c1, v = .slice A1 (wordL xss (holeW k)).length c1 ∧ St w w' [CkI 2 A1 (wordL xss (holeW k)).length c1 (wordL xss (holeW k))]), .pr (fun v w' => ∃ A1 c1, v = .slice A1 (wordL xss (holeW k)).length c1 ∧ St w w' [CkI 2 A1 (wordL xss (holeW k)).length c1 (wordL xss (holeW k))]), .ex (.int .i64 ((0 : Int)))] (by kernel_rfl) (by kernel_rfl) (List.forall_mem_cons.2 ⟨Yd.lasts_ex _, (List.forall_mem_cons.2 ⟨Yd.lasts_pr (fun v w w' h hb => by obtain ⟨A1, hv, hT⟩ := h; exact ⟨A1, hv, hT.later hb⟩), (List.forall_mem_cons.2 ⟨Yd.lasts_pr (fun v w w' h hb => by obtain ⟨A1, hv, hT⟩ := h; exact ⟨A1, hv, hT.later hb⟩), (List.forall_mem_cons.2 ⟨Yd.lasts_ex _, (List.forall_mem_cons.2 ⟨Yd.lasts_ex _, (List.forall_mem_cons.2 ⟨Yd.lasts_pr (fun v w w' h hb => by obtain ⟨A1, c1, hv, hT⟩ := h; exact ⟨A1, c1, hv, hT.later hb⟩), (List.forall_mem_cons.2 ⟨Yd.lasts_pr (fun v w w' h hb => by obtain ⟨A1, c1, hv, hT⟩ := h; exact ⟨A1, c1, hv, hT.later hb⟩), (List.forall_mem_cons.2 ⟨Yd.lasts_pr (fun v w w' h hb => by obtain ⟨A1, hv, hT⟩ := h; exact ⟨A1, hv, hT.later hb⟩), (List.forall_mem_cons.2 ⟨Yd.lasts_pr (fun v w w' h hb => by obtain ⟨A1, c1, hv, hT⟩ := h; exact ⟨A1, c1, hv, hT.later hb⟩), (List.forall_mem_cons.2 ⟨Yd.lasts_pr (fun v w w' h hb => by obtain ⟨A1, c1, hv, hT⟩ := h; exact ⟨A1, c1, hv, hT.later hb⟩), (List.forall_mem_cons.2 ⟨Yd.lasts_pr (fun v w w' h hb => by obtain ⟨A1, c1, hv, hT⟩ := h; exact ⟨A1, c1, hv, hT.later hb⟩), (List.forall_mem_cons.2 ⟨Yd.lasts_ex _, (fun _ h => by cases h)⟩)⟩)⟩)⟩)⟩)⟩)⟩)⟩)⟩)⟩)⟩)⟩) ⟨?_, ?_, ?_, ?_, ?_, ?_, ?_, ?_, ?_, ?_, ?_, ?_, trivial⟩ ?_
  ·intro e1 w1 cc hlo hhi hb0 hp hun hq
   show Ops _ _ _ _ _ _ _
   have hB : Rd w1 Ab 1 (fun _ => .slice A n c) := by { have hhi := le_of_hi hhi (b := 1) (by kernel_rfl); rcases (show cc = 0 ∨ cc = 1 by omega) with h | h; { exact Rd.one ((hS2.later (hb0 h)).rd 0 rfl) }; { subst h; obtain ⟨A0, c0, _, hT⟩ := hq 8 _ _ (by kernel_rfl) (by kernel_rfl) (by kernel_rfl) rfl rfl (by kernel_rfl); exact Rd.one (hT.rd 1 rfl) } }
   refine Ops.ld_agg 0 hB rfl rfl rfl ?_
   refine Ops.nil ?_
   exact AfterN.dn rfl (Below.refl _ _) (by exact rfl)
  ·intro e1 w1 cc hlo hhi hb0 hp hun hq
   show Ops _ _ _ _ _ _ _
   replace hlo := le_of_lo hlo (b := 0) (by kernel_rfl)
   replace hhi := le_of_hi hhi (b := 0) (by kernel_rfl)
   obtain rfl : cc = 0 := by omega
   have hb := hb0 rfl
   refine Ops.bs1I (St.refl _) rfl rfl rfl ?_
   intro A1 w9 hst
   refine Ops.nil ?_
   exact AfterN.dn rfl hst.below ⟨A1, rfl, (hS2.later hb).call hst⟩
  ·intro e1 w1 cc hlo hhi hb0 hp hun hq
   show Ops _ _ _ _ _ _ _
   refine Ops.bs2 (St.refl _) rfl rfl rfl rfl rfl rfl ?_
   intro A1 w9 hst
   refine Ops.nil ?_
   exact AfterN.dn rfl hst.below ⟨A1, rfl, (show St _ _ [CkI 2 A1 2 2 [1, 2]] from hst).rdI 0 rfl⟩
  ·intro e1 w1 cc hlo hhi hb0 hp hun hq
   show Ops _ _ _ _ _ _ _
   refine Ops.mv_int rfl rfl rfl ?_
   refine Ops.nil ?_
   exact AfterN.dn rfl (Below.refl _ _) (by exact rfl)
  ·intro e1 w1 cc hlo hhi hb0 hp hun hq
   show Ops _ _ _ _ _ _ _
   rw [← hk]
   refine Ops.sub rfl rfl rfl (by omega) ?_
   refine Ops.nil ?_
   exact AfterN.dn rfl (Below.refl _ _) (by exact rfl)
  ·intro e1 w1 cc hlo hhi hb0 hp hun hq
   show Ops _ _ _ _ _ _ _
   replace hlo := le_of_lo hlo (b := 0) (by kernel_rfl)
   replace hhi := le_of_hi hhi (b := 0) (by kernel_rfl)
   obtain rfl : cc = 0 := by omega
   have hb := hb0 rfl
   obtain ⟨A0, h15, hT0⟩ := (hp 2 _ _ (by kernel_rfl) rfl rfl (by kernel_rfl))
   have hb := hb0 rfl
   refine Ops.call (l11Power_c A0 2 2 [1, 2] k _ hT0 (by omega) (by omega)) rfl (by exact congrArg (fun v => [v, Value.int .i64 (k : Int)]) h15) rfl ?_
   rintro _ w9 ⟨A1, c1, rfl, hst⟩
   refine Ops.nil ?_
   exact AfterN.dn rfl hst.below ⟨A1, c1, rfl, hst.rdI 0 rfl⟩
  ·intro e1 w1 cc hlo hhi hb0 hp hun hq
   show Ops _ _ _ _ _ _ _
   replace hlo := le_of_lo hlo (b := 0) (by kernel_rfl)
   replace hhi := le_of_hi hhi (b := 0) (by kernel_rfl)
   obtain rfl : cc = 0 := by omega
   have hb := hb0 rfl
   obtain ⟨A0, h14, hT0⟩ := (hp 1 _ _ (by kernel_rfl) rfl rfl (by kernel_rfl))
   obtain ⟨A2, c2, h18, hT2⟩ := (hp 5 _ _ (by kernel_rfl) rfl rfl (by kernel_rfl))
   have hb := hb0 rfl
   refine Ops.appFI 0 rfl hT0 rfl hT2 (by exact h14) (by exact h18) rfl (by omega) (by omega) rfl ?_
   intro A1 c1 w9 hbl hst
   refine Ops.nil ?_
   exact AfterN.dn rfl hbl ⟨A1, c1, rfl, hst⟩
  ·intro e1 w1 cc hlo hhi hb0 hp hun hq
   show Ops _ _ _ _ _ _ _
   refine Ops.bs1I (St.refl _) rfl rfl rfl ?_
   intro A1 w9 hst
   refine Ops.nil ?_
   exact AfterN.dn rfl hst.below ⟨A1, rfl, hst.rdI 0 rfl⟩
  ·intro e1 w1 cc hlo hhi hb0 hp hun hq
   show Ops _ _ _ _ _ _ _
   replace hlo := le_of_lo hlo (b := 0) (by kernel_rfl)
   replace hhi := le_of_hi hhi (b := 0) (by kernel_rfl)
   obtain rfl : cc = 0 := by omega
   have hb := hb0 rfl
   obtain ⟨A0, c0, h19, hT0⟩ := (hp 6 _ _ (by kernel_rfl) rfl rfl (by kernel_rfl))
   obtain ⟨A2, h20, hT2⟩ := (hp 7 _ _ (by kernel_rfl) rfl rfl (by kernel_rfl))
   refine Ops.appI 0 hT0 rfl hT2 (by exact h19) (by exact h20) rfl (by omega) (by omega) rfl ?_
   intro A1 c1 w9 hst
   refine Ops.nil ?_
   exact AfterT.dn rfl ⟨A1, c1, rfl, hst⟩
  ·intro e1 w1 cc hlo hhi hb0 hp hun hq
   show Ops _ _ _ _ _ _ _
   replace hlo := le_of_lo hlo (b := 1) (by kernel_rfl)
   replace hhi := le_of_hi hhi (b := 1) (by kernel_rfl)
   obtain rfl : cc = 1 := by omega
   have hph := hp 8 _ _ (by kernel_rfl) rfl rfl (by kernel_rfl)
   obtain ⟨A0, c0, h21, hT0⟩ := (hp 8 _ _ (by kernel_rfl) rfl rfl (by kernel_rfl))
   refine Ops.call (l18Lengths_c A n c rs xss (gl xss 0).length A0 _ c0 (holeW k) _ (hT0.oldRows hR) (by omega) rfl (by omega) hs (hT0.rdI 0 rfl) (by omega) (fun i hi => by have := in_gi (holeW_in k) i (by rw [holeW_len]; exact hi); omega)) rfl (by exact congrArg (fun v => [Value.agg #[.slice A n c], v]) h21) rfl ?_
   rintro _ w9 ⟨A1, c1, rfl, hst⟩
   refine Ops.nil ?_
   exact AfterN.dn rfl hst.below ⟨A1, c1, by rw [wordL_len], by rw [wordL_len]; exact (hT0.call hst).sub (List.Sublist.cons_cons _ (List.nil_sublist _))⟩
  ·intro e1 w1 cc hlo hhi hb0 hp hun hq
   show Ops _ _ _ _ _ _ _
   replace hlo := le_of_lo hlo (b := 1) (by kernel_rfl)
   replace hhi := le_of_hi hhi (b := 1) (by kernel_rfl)
   obtain rfl : cc = 1 := by omega
   have hph := hp 8 _ _ (by kernel_rfl) rfl rfl (by kernel_rfl)
   obtain ⟨A1, c1, h22, hT⟩ := (hp 9 _ _ (by kernel_rfl) rfl rfl (by kernel_rfl))
   refine Ops.mv_sl rfl (by exact h22) rfl ?_
   refine Ops.nil ?_
   exact AfterN.dn rfl (Below.refl _ _) ⟨A1, c1, rfl, hT⟩
  ·intro e1 w1 cc hlo hhi hb0 hp hun hq
   show Ops _ _ _ _ _ _ _
   refine Ops.mv_int rfl rfl rfl ?_
   refine Ops.nil ?_
   exact AfterN.dn rfl (Below.refl _ _) (by exact rfl)
  intro u w9 _ hu
  obtain ⟨A9, c9, h4, hT⟩ := hu 10 _ rfl (by kernel_rfl)
  refine thenQ_n ?_
  refine Cd.ret ?_
  refine ret2_si (by exact h4) rfl ?_
  rw [holeL, if_pos hK, hK, hk, Int.toNat_natCast]
  exact ⟨A9, c9, rfl, hT⟩

theorem implHoleLengths_c (A : Option Addr) (n c : Nat) (rs : List SlV) (xss : List (List Int)) (j : Int) (w : World) (hR : RowsI w A n rs xss) (hn : n ≤ c) (hc : c ≤ 9223372036854775807) :
  Ret Tryz.prog 30 [.agg #[.slice A n c], .int .i64 j] w (AnsR (holeL xss j) (holeK xss j) w) := by
 have hl := hR.len
 refine Ret.of_cd Tryz.func30 rfl Tryz.ntmps30 rfl (post2 rfl) ?_
 refine Cd.seq ?_
 refine Cd.region ?_
 refine Ops.box1 (St.refl w) rfl rfl ?_
 intro Ab w1 hS1
 refine Ops.mv_sl rfl rfl rfl ?_
 refine Ops.mv_int rfl rfl rfl ?_
 refine Ops.nil ?_
 refine thenQ_n ?_
 refine Cd.seq ?_
 refine Cd.seq ?_
 refine Cd.region ?_
 refine Ops.ld_agg 0 (hS1.rd 0 rfl) rfl rfl rfl ?_
 refine Ops.mv_int rfl rfl rfl ?_
 refine Ops.call (holeCode_c A n c rs xss j _ (hS1.oldRows hR) hn hc) rfl rfl rfl ?_
 rintro _ w2 ⟨rfl, hst⟩
 have hS2 := hS1.later hst.below
 refine Ops.mv_int rfl rfl rfl ?_
 refine Ops.nil ?_
 refine thenQ_n ?_
 refine Cd.seq ?_
 refine Cd.region ?_
 refine Ops.mv_int rfl rfl rfl ?_
 refine Ops.neq rfl rfl rfl ?_
 refine Ops.nil ?_
 refine thenQ_n ?_
 refine Cd.cond_p _ rfl (fun h => ?_) (fun h => ?_)
 ·refine Cd.seq ?_
  refine Cd.region ?_
  refine Ops.mv_int rfl rfl rfl ?_
  refine Ops.mv_sl rfl rfl rfl ?_
  refine Ops.mv_int rfl rfl rfl ?_
  refine Ops.nil ?_
  refine thenQ_n ?_
  refine Cd.ret ?_
  refine thenQ_r ?_
  refine ret2_si rfl rfl ?_
  rw [holeL, if_neg h]
  exact AnsR.none hS2
 ·have hK : holeK xss j = 0 := Classical.not_not.1 h
  obtain ⟨hG, hj, h3⟩ := holeK_zero hK
  have hMa := hG.1
  have hs := hMa.2.2.1.sys
  have h40 := hMa.2.1
  obtain ⟨k, hk⟩ : ∃ k : Nat, j - 1 = (k : Int) := ⟨(j - 1).toNat, by omega⟩
  have hk16 : k ≤ 15 := by omega
  have hw : ∀ i : Nat, i < 1 + 2 * k + 1 → 0 ≤ gi (holeW k) i ∧ gi (holeW k) i < n := fun i hi => by have := in_gi (holeW_in k) i (by rw [holeW_len]; exact hi); omega
  refine Cd.skip ?_
  refine thenQ_n ?_
  refine Cd.seq ?_
  refine Cd.region ?_
  refine Ops.mv_int rfl rfl rfl ?_
  refine Ops.sub rfl rfl rfl (by omega) ?_
  rw [hk]
  refine Ops.call (zigzagWord_c k _ (by omega)) rfl rfl rfl ?_
  rintro _ w3 ⟨A3, c3, rfl, hst⟩
  have hS3 := hS2.call hst
  refine Ops.bs1I hS3 rfl rfl rfl ?_
  intro A4 w4 hS4
  refine Ops.appI 1 hS4 rfl (hS4.rdI 0 rfl) rfl rfl rfl (by omega) (by omega) rfl ?_
  intro A5 c5 w5 hS5
  have hS5 : St w w5 (CkI 2 A5 (1 + 2 * k + 1) c5 (holeW k) :: Bx 32 1 Ab [.slice A n c] :: []) := hS5.tail
  refine Ops.call (does_c Ab A n c rs xss (gl xss 0).length A5 _ c5 (holeW k) _ (Rd.congr (hS5.rd 1 rfl) (fun j hj => by obtain rfl : j = 0 := by { have : j < 1 := hj; omega }; rfl)) (hS5.oldRows hR) (by omega) rfl (by omega) hs (hS5.rdI 0 rfl) (by omega) hw) rfl rfl rfl ?_
  rintro _ w6 ⟨A6, rfl, hst⟩
  have hS6 := hS5.call hst
  refine Ops.call (CycleLengths_c A6 _ _ _ _ (hS6.rdI 0 rfl) (by omega) (does_perm hs hMa.2.2.1.inj (by omega) (fun i hi => by have := holeW_in k i hi; omega))) rfl rfl rfl ?_
  rintro _ w7 ⟨A7, c7, rfl, hst⟩
  have hS7 := hS6.call hst
  refine Ops.extract rfl rfl rfl ?_
  refine Ops.extract rfl rfl rfl ?_
  refine Ops.mv_sl rfl rfl rfl ?_
  refine Ops.mv_int rfl rfl rfl ?_
  refine Ops.nil ?_
  refine thenQ_n ?_
  refine Cd.ret ?_
  refine ret2_si rfl rfl ?_
  rw [holeL, if_pos hK, hK, hk, Int.toNat_natCast]
  exact AnsR.word hS7

theorem specZigzagLengths_c (A : Option Addr) (n c : Nat) (rs : List SlV) (xss : List (List Int)) (j : Int) (w : World) (hR : RowsI w A n rs xss) (hn : n ≤ 9223372036854775807) :
  Ret Tryz.prog 33 [.agg #[.slice A n c], .int .i64 j] w (AnsR (zigL xss j) (holeK xss j) w) := by
 have hl := hR.len
 refine Ret.of_cd Tryz.func33 rfl Tryz.ntmps33 rfl (post2 rfl) ?_
 refine Cd.seq ?_
 refine Cd.region ?_
 refine Ops.box1 (St.refl w) rfl rfl ?_
 intro Ab w1 hS1
 refine Ops.mv_sl rfl rfl rfl ?_
 refine Ops.mv_int rfl rfl rfl ?_
 refine Ops.nil ?_
 refine thenQ_n ?_
 refine Cd.seq ?_
 refine Cd.seq ?_
 refine Cd.region ?_
 refine Ops.ld_agg 0 (hS1.rd 0 rfl) rfl rfl rfl ?_
 refine Ops.mv_int rfl rfl rfl ?_
 refine Ops.call (l18Number_c A n c rs xss j _ (hS1.oldRows hR) hn) rfl rfl rfl ?_
 rintro _ w2 ⟨rfl, hst⟩
 have hS2 := hS1.later hst.below
 refine Ops.mv_int rfl rfl rfl ?_
 refine Ops.nil ?_
 refine thenQ_n ?_
 refine Cd.seq ?_
 refine Cd.region ?_
 refine Ops.mv_int rfl rfl rfl ?_
 refine Ops.neq rfl rfl rfl ?_
 refine Ops.nil ?_
 refine thenQ_n ?_
 refine Cd.cond_p _ rfl (fun h => ?_) (fun h => ?_)
 ·refine Cd.seq ?_
  refine Cd.region ?_
  refine Ops.mv_int rfl rfl rfl ?_
  refine Ops.mv_sl rfl rfl rfl ?_
  refine Ops.mv_int rfl rfl rfl ?_
  refine Ops.nil ?_
  refine thenQ_n ?_
  refine Cd.ret ?_
  refine thenQ_r ?_
  refine ret2_si rfl rfl ?_
  rw [zigL, if_neg h]
  exact AnsR.none hS2
 ·have hK : holeK xss j = 0 := Classical.not_not.1 h
  obtain ⟨hG, hj, h3⟩ := holeK_zero hK
  have hMa := hG.1
  have hs := hMa.2.2.1.sys
  have h40 := hMa.2.1
  obtain ⟨k, rfl⟩ : ∃ k : Nat, j = (k : Int) := ⟨j.toNat, by omega⟩
  have hk16 : k ≤ 16 := by omega
  refine Cd.skip ?_
  refine thenQ_n ?_
  refine Cd.seq ?_
  refine Cd.drawN [] [.ex (.agg #[.slice (A) (n) (c)]), .pr (fun v w' => ∃ A1, v = .slice A1 1 1 ∧ St w w' [CkI 2 A1 1 1 [0]]), .pr (fun v w' => ∃ A1, v = .slice A1 2 2 ∧ RdI w' A1 2 [1, 2]), .ex (.int .i64 ((k : Int))), .pr (fun v w' => ∃ A1 c1, v = .slice A1 (2 * k) c1 ∧ RdI w' A1 (2 * k) (pow [1, 2] k)), .pr (fun v w' => ∃ A1 c1, v = .slice A1 (1 + 2 * k) c1 ∧ St w w' [CkI 2 A1 (1 + 2 * k) c1 (zigW k)]), .pr (fun v w' => ∃ A1 c1, v = .slice A1 (wordL xss (zigW k)).length c1 ∧ St w w' [CkI 2 A1 (wordL xss (zigW k)).length c1 (wordL xss (zigW k))]), .pr (fun v w' => ∃ A1 c1, v = .slice A1 (wordL xss (zigW k)).length c1 ∧ St w w' [CkI 2 A1 (wordL xss (zigW k)).length c1 (wordL xss (zigW k))]), .ex (.int .i64 ((0 : Int)))] (by kernel_rfl) (by kernel_rfl) (List.forall_mem_cons.2 ⟨Yd.lasts_ex _, (List.forall_mem_cons.2 ⟨Yd.lasts_pr (fun v w w' h hb => by obtain ⟨A1, hv, hT⟩ := h; exact ⟨A1, hv, hT.later hb⟩), (List.forall_mem_cons.2 ⟨Yd.lasts_pr (fun v w w' h hb => by obtain ⟨A1, hv, hT⟩ := h; exact ⟨A1, hv, hT.later hb⟩), (List.forall_mem_cons.2 ⟨Yd.lasts_ex _, (List.forall_mem_cons.2 ⟨Yd.lasts_pr (fun v w w' h hb => by obtain ⟨A1, c1, hv, hT⟩ := h; exact ⟨A1, c1, hv, hT.later hb⟩), (List.forall_mem_cons.2 ⟨Yd.lasts_pr (fun v w w' h hb => by obtain ⟨A1, c1, hv, hT⟩ := h; exact ⟨A1, c1, hv, hT.later hb⟩), (List.forall_mem_cons.2 ⟨Yd.lasts_pr (fun v w w' h hb => by obtain ⟨A1, c1, hv, hT⟩ := h; exact ⟨A1, c1, hv, hT.later hb⟩), (List.forall_mem_cons.2 ⟨Yd.lasts_pr (fun v w w' h hb => by obtain ⟨A1, c1, hv, hT⟩ := h; exact ⟨A1, c1, hv, hT.later hb⟩), (List.forall_mem_cons.2 ⟨Yd.lasts_ex _, (fun _ h => by cases h)⟩)⟩)⟩)⟩)⟩)⟩)⟩)⟩)⟩) ⟨?_, ?_, ?_, ?_, ?_, ?_, ?_, ?_, ?_, trivial⟩ ?_
  ·intro e1 w1 cc hlo hhi hb0 hp hun hq
   show Ops _ _ _ _ _ _ _
   replace hlo := le_of_lo hlo (b := 0) (by kernel_rfl)
   replace hhi := le_of_hi hhi (b := 0) (by kernel_rfl)
   obtain rfl : cc = 0 := by omega
   have hb := hb0 rfl
   refine Ops.ld_agg 0 ((hS2.rd 0 rfl).below hb) rfl rfl rfl ?_
   refine Ops.nil ?_
   exact AfterN.dn rfl (Below.refl _ _) (by exact rfl)
  ·intro e1 w1 cc hlo hhi hb0 hp hun hq
   show Ops _ _ _ _ _ _ _
   replace hlo := le_of_lo hlo (b := 0) (by kernel_rfl)
   replace hhi := le_of_hi hhi (b := 0) (by kernel_rfl)
   obtain rfl : cc = 0 := by omega
   have hb := hb0 rfl
   refine Ops.bs1I (St.refl _) rfl rfl rfl ?_
   intro A1 w9 hst
   refine Ops.nil ?_
   exact AfterN.dn rfl hst.below ⟨A1, rfl, ((hS2.later hb).call hst).sub (List.Sublist.cons_cons _ (List.nil_sublist _))⟩
  ·intro e1 w1 cc hlo hhi hb0 hp hun hq
   show Ops _ _ _ _ _ _ _
   refine Ops.bs2 (St.refl _) rfl rfl rfl rfl rfl rfl ?_
   intro A1 w9 hst
   refine Ops.nil ?_
   exact AfterN.dn rfl hst.below ⟨A1, rfl, (show St _ _ [CkI 2 A1 2 2 [1, 2]] from hst).rdI 0 rfl⟩
  ·intro e1 w1 cc hlo hhi hb0 hp hun hq
   show Ops _ _ _ _ _ _ _
   refine Ops.mv_int rfl rfl rfl ?_
   refine Ops.nil ?_
   exact AfterN.dn rfl (Below.refl _ _) (by exact rfl)
  ·intro e1 w1 cc hlo hhi hb0 hp hun hq
   show Ops _ _ _ _ _ _ _
   replace hlo := le_of_lo hlo (b := 0) (by kernel_rfl)
   replace hhi := le_of_hi hhi (b := 0) (by kernel_rfl)
   obtain rfl : cc = 0 := by omega
   have hb := hb0 rfl
   obtain ⟨A0, h15, hT0⟩ := (hp 2 _ _ (by kernel_rfl) rfl rfl (by kernel_rfl))
   have hb := hb0 rfl
   refine Ops.call (l11Power_c A0 2 2 [1, 2] k _ hT0 (by omega) (by omega)) rfl (by exact congrArg (fun v => [v, Value.int .i64 (k : Int)]) h15) rfl ?_
   rintro _ w9 ⟨A1, c1, rfl, hst⟩
   refine Ops.nil ?_
   exact AfterN.dn rfl hst.below ⟨A1, c1, rfl, hst.rdI 0 rfl⟩
  ·intro e1 w1 cc hlo hhi hb0 hp hun hq
   show Ops _ _ _ _ _ _ _
   replace hlo := le_of_lo hlo (b := 0) (by kernel_rfl)
   replace hhi := le_of_hi hhi (b := 0) (by kernel_rfl)
   obtain rfl : cc = 0 := by omega
   have hb := hb0 rfl
   obtain ⟨A0, h14, hT0⟩ := (hp 1 _ _ (by kernel_rfl) rfl rfl (by kernel_rfl))
   obtain ⟨A2, c2, h17, hT2⟩ := (hp 4 _ _ (by kernel_rfl) rfl rfl (by kernel_rfl))
   have hb := hb0 rfl
   refine Ops.appFI 0 rfl hT0 rfl hT2 (by exact h14) (by exact h17) rfl (by omega) (by omega) rfl ?_
   intro A1 c1 w9 hbl hst
   refine Ops.nil ?_
   exact AfterN.dn rfl hbl ⟨A1, c1, rfl, hst⟩
  ·intro e1 w1 cc hlo hhi hb0 hp hun hq
   show Ops _ _ _ _ _ _ _
   replace hlo := le_of_lo hlo (b := 0) (by kernel_rfl)
   replace hhi := le_of_hi hhi (b := 0) (by kernel_rfl)
   obtain rfl : cc = 0 := by omega
   have hb := hb0 rfl
   obtain ⟨A0, c0, h18, hT0⟩ := (hp 5 _ _ (by kernel_rfl) rfl rfl (by kernel_rfl))
   refine Ops.call (l18Lengths_c A n c rs xss (gl xss 0).length A0 _ c0 (zigW k) _ (hT0.oldRows hR) (by omega) rfl (by omega) hs (hT0.rdI 0 rfl) (by omega) (fun i hi => by have := in_gi (zigW_in k) i (by rw [zigW_len]; exact hi); omega)) rfl (by exact congrArg (fun v => [Value.agg #[.slice A n c], v]) h18) rfl ?_
   rintro _ w9 ⟨A1, c1, rfl, hst⟩
   refine Ops.nil ?_
   exact AfterN.dn rfl hst.below ⟨A1, c1, by rw [wordL_len], by rw [wordL_len]; exact (hT0.call hst).sub (List.Sublist.cons_cons _ (List.nil_sublist _))⟩
  ·intro e1 w1 cc hlo hhi hb0 hp hun hq
   show Ops _ _ _ _ _ _ _
   replace hlo := le_of_lo hlo (b := 0) (by kernel_rfl)
   replace hhi := le_of_hi hhi (b := 0) (by kernel_rfl)
   obtain rfl : cc = 0 := by omega
   have hb := hb0 rfl
   obtain ⟨A1, c1, h19, hT⟩ := (hp 6 _ _ (by kernel_rfl) rfl rfl (by kernel_rfl))
   refine Ops.mv_sl rfl (by exact h19) rfl ?_
   refine Ops.nil ?_
   exact AfterN.dn rfl (Below.refl _ _) ⟨A1, c1, rfl, hT⟩
  ·intro e1 w1 cc hlo hhi hb0 hp hun hq
   show Ops _ _ _ _ _ _ _
   refine Ops.mv_int rfl rfl rfl ?_
   refine Ops.nil ?_
   exact AfterN.dn rfl (Below.refl _ _) (by exact rfl)
  intro u w9 _ hu
  obtain ⟨A9, c9, h4, hT⟩ := hu 7 _ rfl (by kernel_rfl)
  refine thenQ_n ?_
  refine Cd.ret ?_
  refine ret2_si (by exact h4) rfl ?_
  rw [zigL, if_pos hK, hK, Int.toNat_natCast]
  exact ⟨A9, c9, rfl, hT⟩

theorem implZigzagLengths_c (A : Option Addr) (n c : Nat) (rs : List SlV) (xss : List (List Int)) (j : Int) (w : World) (hR : RowsI w A n rs xss) (hn : n ≤ c) (hc : c ≤ 9223372036854775807) :
  Ret Tryz.prog 31 [.agg #[.slice A n c], .int .i64 j] w (AnsR (zigL xss j) (holeK xss j) w) := by
 have hl := hR.len
 refine Ret.of_cd Tryz.func31 rfl Tryz.ntmps31 rfl (post2 rfl) ?_
 refine Cd.seq ?_
 refine Cd.region ?_
 refine Ops.box1 (St.refl w) rfl rfl ?_
 intro Ab w1 hS1
 refine Ops.mv_sl rfl rfl rfl ?_
 refine Ops.mv_int rfl rfl rfl ?_
 refine Ops.nil ?_
 refine thenQ_n ?_
 refine Cd.seq ?_
 refine Cd.seq ?_
 refine Cd.region ?_
 refine Ops.ld_agg 0 (hS1.rd 0 rfl) rfl rfl rfl ?_
 refine Ops.mv_int rfl rfl rfl ?_
 refine Ops.call (holeCode_c A n c rs xss j _ (hS1.oldRows hR) hn hc) rfl rfl rfl ?_
 rintro _ w2 ⟨rfl, hst⟩
 have hS2 := hS1.later hst.below
 refine Ops.mv_int rfl rfl rfl ?_
 refine Ops.nil ?_
 refine thenQ_n ?_
 refine Cd.seq ?_
 refine Cd.region ?_
 refine Ops.mv_int rfl rfl rfl ?_
 refine Ops.neq rfl rfl rfl ?_
 refine Ops.nil ?_
 refine thenQ_n ?_
 refine Cd.cond_p _ rfl (fun h => ?_) (fun h => ?_)
 ·refine Cd.seq ?_
  refine Cd.region ?_
  refine Ops.mv_int rfl rfl rfl ?_
  refine Ops.mv_sl rfl rfl rfl ?_
  refine Ops.mv_int rfl rfl rfl ?_
  refine Ops.nil ?_
  refine thenQ_n ?_
  refine Cd.ret ?_
  refine thenQ_r ?_
  refine ret2_si rfl rfl ?_
  rw [zigL, if_neg h]
  exact AnsR.none hS2
 ·have hK : holeK xss j = 0 := Classical.not_not.1 h
  obtain ⟨hG, hj, h3⟩ := holeK_zero hK
  have hMa := hG.1
  have hs := hMa.2.2.1.sys
  have h40 := hMa.2.1
  obtain ⟨k, rfl⟩ : ∃ k : Nat, j = (k : Int) := ⟨j.toNat, by omega⟩
  have hk16 : k ≤ 16 := by omega
  have hw : ∀ i : Nat, i < 1 + 2 * k → 0 ≤ gi (zigW k) i ∧ gi (zigW k) i < n := fun i hi => by have := in_gi (zigW_in k) i (by rw [zigW_len]; exact hi); omega
  refine Cd.skip ?_
  refine thenQ_n ?_
  refine Cd.seq ?_
  refine Cd.region ?_
  refine Ops.mv_int rfl rfl rfl ?_
  refine Ops.call (zigzagWord_c k _ (by omega)) rfl rfl rfl ?_
  rintro _ w3 ⟨A3, c3, rfl, hst⟩
  have hS3 := hS2.call hst
  refine Ops.call (does_c Ab A n c rs xss (gl xss 0).length A3 _ c3 (zigW k) _ (Rd.congr (hS3.rd 1 rfl) (fun j hj => by obtain rfl : j = 0 := by { have : j < 1 := hj; omega }; rfl)) (hS3.oldRows hR) (by omega) rfl (by omega) hs (hS3.rdI 0 rfl) (by omega) hw) rfl rfl rfl ?_
  rintro _ w6 ⟨A6, rfl, hst⟩
  have hS6 := hS3.call hst
  refine Ops.call (CycleLengths_c A6 _ _ _ _ (hS6.rdI 0 rfl) (by omega) (does_perm hs hMa.2.2.1.inj (by omega) (fun i hi => by have := zigW_in k i hi; omega))) rfl rfl rfl ?_
  rintro _ w7 ⟨A7, c7, rfl, hst⟩
  have hS7 := hS6.call hst
  refine Ops.extract rfl rfl rfl ?_
  refine Ops.extract rfl rfl rfl ?_
  refine Ops.mv_sl rfl rfl rfl ?_
  refine Ops.mv_int rfl rfl rfl ?_
  refine Ops.nil ?_
  refine thenQ_n ?_
  refine Cd.ret ?_
  refine ret2_si rfl rfl ?_
  rw [zigL, if_pos hK, hK, Int.toNat_natCast]
  exact AnsR.word hS7
end Go.Proofs.YtjpkmpihmilgoaaGreat.Vc
/-
 The walks of the lengths of a word on both sides. Conditions: as each states them.
-/
namespace Go.Proofs.YtjpkmpihmilgoaaGreat.Vc
open Go.RowKit
section
variable {P : Program} {N : Nat} {ops : Array Oper} {K : Env → World → Prop} {rest : List Oper} {e : Env} {w : World} {d : Nat} {ty : TypeId} {pos : String} {af : Array Edge}
theorem Ops.fn2 {F : FuncId} {x y : Operand} {v1 v2 : Value} (hx : ev e x = v1) (hy : ev e y = v2) (hb : Nat.blt d N = true) (hK : Ops P N ops K rest (upd e d (.func (.func F) #[] #[v1, v2])) w) :
  Ops P N ops K (⟨some d, .makeFunc (.func F) #[] #[x, y], ty, pos, af, none⟩ :: rest) e w :=
 .val (by simp [execOp, Instr.makeFunc, hx, hy]) hb hK
end

def allIn (lo hi : Int) (xs : List Int) : Prop := ∀ x ∈ xs, lo ≤ x ∧ x ≤ hi
instance (lo hi : Int) (xs : List Int) : Decidable (allIn lo hi xs) := by unfold allIn; exact inferInstance

theorem areWithin1_c (x lo hi : Int) (P1 P2 : Option Addr) (w : World) (h1 : Rd w P1 1 (fun _ => .int .i64 lo)) (h2 : Rd w P2 1 (fun _ => .int .i64 hi)) :
  Ret Tryz.prog 156 [.int .i64 x, .pointer P1, .pointer P2] w (fun v w' => v = .bool (decide (¬ (lo ≤ x ∧ x ≤ hi))) ∧ w' = w) := by
 refine Ret.of_cd Tryz.func156 rfl Tryz.ntmps156 rfl (post1 rfl) ?_
 refine Cd.seq ?_
 refine Cd.region ?_
 refine Ops.mv_bool rfl rfl rfl ?_
 refine Ops.nil ?_
 refine thenQ_n ?_
 refine Cd.seq ?_
 refine Cd.region ?_
 refine Ops.mv_int rfl rfl rfl ?_
 refine Ops.ld h1 (by exact congrArg Value.pointer (ptrAt_zero P1).symm) (by decide) rfl rfl rfl ?_
 refine Ops.ld h2 (by exact congrArg Value.pointer (ptrAt_zero P2).symm) (by decide) rfl rfl rfl ?_
 refine Ops.call (within_c _ _ _ _) rfl rfl rfl ?_
 rintro _ w ⟨rfl, rfl⟩
 first | refine Ops.not_p rfl rfl ?_ | refine Ops.not rfl rfl ?_
 refine Ops.mv_bool rfl rfl rfl ?_
 refine Ops.nil ?_
 refine thenQ_n ?_
 refine Cd.ret ?_
 refine ret1_b rfl ?_
 exact ⟨rfl, rfl⟩

theorem IndexFunc_c (A : Option Addr) (n c : Nat) (xs : List Int) (lo hi : Int) (P1 P2 : Option Addr) (w : World) (hR : RdI w A n xs) (hn : n ≤ 9223372036854775807) (h1 : Rd w P1 1 (fun _ => .int .i64 lo)) (h2 : Rd w P2 1 (fun _ => .int .i64 hi)) :
  Ret Tryz.prog 186 [.slice A n c, .func (.func 156) #[] #[.pointer P1, .pointer P2]] w (fun v w' => (∃ i : Int, v = .int .i64 i ∧ (0 ≤ i ↔ ¬ allIn lo hi xs)) ∧ w' = w) := by
 have hxl := hR.1
 refine Ret.of_cd Tryz.func186 rfl Tryz.ntmps186 rfl (post1 rfl) ?_
 refine Cd.seq ?_
 refine Cd.region ?_
 refine Ops.mv_int rfl rfl rfl ?_
 refine Ops.nil ?_
 refine thenQ_n ?_
 refine Cd.seq ?_
 refine Cd.seq ?_
 refine Cd.region ?_
 refine Ops.mv_sl rfl rfl rfl ?_
 refine Ops.len rfl rfl ?_
 refine Ops.mv_int rfl rfl rfl ?_
 refine Ops.nil ?_
 refine thenQ_n ?_
 refine Cd.block ?_
 refine Cd.loop (α := Nat) (fun k => [(0, .slice A n c), (1, .func (.func 156) #[] #[.pointer P1, .pointer P2]), (7, .int .i64 (n : Int)), (8, .int .i64 (k : Int))]) (fun k w' => w' = w ∧ k ≤ n ∧ ∀ j, j < k → lo ≤ gi xs (j : Nat) ∧ gi xs (j : Nat) ≤ hi) (fun k => n - k) 0 ⟨rfl, rfl, rfl, rfl, trivial⟩ ⟨rfl, Nat.zero_le _, fun j hj => by omega⟩ ?_
 rintro k e w ⟨rfl, hk, hK⟩
 refine Cd.seq ?_
 refine Cd.region ?_
 refine Ops.lss rfl rfl rfl ?_
 refine Ops.nil ?_
 refine thenQ_n ?_
 refine Cd.seq ?_
 refine Cd.cond_p _ rfl (fun h3 => ?_) (fun h3 => ?_)
 ·refine Cd.skip ?_
  refine thenQ_n ?_
  refine Cd.seq ?_
  refine Cd.block ?_
  refine Cd.seq ?_
  refine Cd.region ?_
  refine Ops.mv_int rfl rfl rfl ?_
  refine Ops.mv_int rfl rfl rfl ?_
  refine Ops.nil ?_
  refine thenQ_n ?_
  refine Cd.seq ?_
  refine Cd.region ?_
  refine Ops.mv_fn rfl rfl rfl ?_
  refine Ops.mv_sl rfl rfl rfl ?_
  refine Ops.mv_int rfl rfl rfl ?_
  refine Ops.idx hR.2 rfl rfl rfl (by omega) (by omega) ?_
  refine Ops.ld_int hR rfl (by omega) rfl rfl ?_
  refine Ops.call (areWithin1_c _ lo hi P1 P2 _ h1 h2) rfl rfl rfl ?_
  rintro _ w ⟨rfl, rfl⟩
  refine Ops.nil ?_
  refine thenQ_n ?_
  refine Cd.cond_p _ rfl (fun h4 => ?_) (fun h4 => ?_)
  ·refine Cd.seq ?_
   refine Cd.region ?_
   refine Ops.mv_int rfl rfl rfl ?_
   refine Ops.mv_int rfl rfl rfl ?_
   refine Ops.nil ?_
   refine thenQ_n ?_
   refine Cd.ret ?_
   refine blockQ_r ?_
   refine thenQ_r ?_
   refine thenQ_r ?_
   refine blockQ_r ?_
   refine thenQ_r ?_
   refine ret1_i rfl ?_
   exact ⟨⟨(k : Int), rfl, ⟨fun _ ha => h4 (by rw [gi_mem (by omega)]; exact ha _ (List.getElem_mem _)), fun _ => by omega⟩⟩, rfl⟩
  ·refine Cd.skip ?_
   refine blockQ_n ?_
   refine thenQ_n ?_
   refine Cd.region ?_
   refine Ops.add rfl rfl rfl (by omega) ?_
   refine Ops.mv_int rfl rfl rfl ?_
   refine Ops.nil ?_
   refine thenQ_n ?_
   refine ⟨k + 1, by show n - (k + 1) < n - k; omega, ⟨rfl, rfl, rfl, rfl, trivial⟩, rfl, by omega, fun j hj => ?_⟩
   by_cases ej : j = k
   ·subst ej; exact Classical.not_not.1 h4
   ·exact hK j (by omega)
 ·refine Cd.exit ?_
  refine thenQ_x ?_
  refine thenQ_x ?_
  refine blockQ_x ?_
  refine thenQ_n ?_
  refine Cd.seq ?_
  refine Cd.region ?_
  refine Ops.mv_int rfl rfl rfl ?_
  refine Ops.nil ?_
  refine thenQ_n ?_
  refine Cd.ret ?_
  refine ret1_i rfl ?_
  refine ⟨⟨-1, rfl, ⟨fun h => absurd h (by decide), fun h => absurd (fun x hx => ?_) h⟩⟩, rfl⟩
  obtain ⟨j, hj, rfl⟩ := List.mem_iff_getElem.1 hx
  have := hK j (by omega)
  rwa [gi_mem hj] at this

theorem ContainsFunc_c (A : Option Addr) (n c : Nat) (xs : List Int) (lo hi : Int) (P1 P2 : Option Addr) (w : World) (hR : RdI w A n xs) (hn : n ≤ 9223372036854775807) (h1 : Rd w P1 1 (fun _ => .int .i64 lo)) (h2 : Rd w P2 1 (fun _ => .int .i64 hi)) :
  Ret Tryz.prog 155 [.slice A n c, .func (.func 156) #[] #[.pointer P1, .pointer P2]] w (fun v w' => v = .bool (decide (¬ allIn lo hi xs)) ∧ w' = w) := by
 refine Ret.of_cd Tryz.func155 rfl Tryz.ntmps155 rfl (post1 rfl) ?_
 refine Cd.seq ?_
 refine Cd.region ?_
 refine Ops.mv_bool rfl rfl rfl ?_
 refine Ops.nil ?_
 refine thenQ_n ?_
 refine Cd.seq ?_
 refine Cd.region ?_
 refine Ops.mv_sl rfl rfl rfl ?_
 refine Ops.mv_fn rfl rfl rfl ?_
 refine Ops.call (IndexFunc_c A n c xs lo hi P1 P2 _ hR hn h1 h2) rfl rfl rfl ?_
 rintro _ w ⟨⟨i, rfl, hi'⟩, rfl⟩
 refine Ops.geq rfl rfl rfl ?_
 refine Ops.mv_bool rfl rfl rfl ?_
 refine Ops.nil ?_
 refine thenQ_n ?_
 refine Cd.ret ?_
 refine ret1_b rfl ?_
 exact ⟨congrArg Value.bool (decide_eq_decide.2 hi'), rfl⟩

theorem areWithin_c (A : Option Addr) (n c : Nat) (xs : List Int) (lo hi : Int) (w : World) (hR : RdI w A n xs) (hn : n ≤ 9223372036854775807) :
  Ret Tryz.prog 113 [.slice A n c, .int .i64 lo, .int .i64 hi] w (fun v w' => v = .bool (decide (allIn lo hi xs)) ∧ St w w' []) := by
 refine Ret.of_cd Tryz.func113 rfl Tryz.ntmps113 rfl (post1 rfl) ?_
 refine Cd.seq ?_
 refine Cd.region ?_
 refine Ops.box (v := .int .i64 lo) (St.refl w) rfl rfl (by show (1 : Nat) ≤ maxLen; simp [maxLen]) ?_
 intro P1 w1 hS1
 have hS1 : St w w1 [Bx 2 1 P1 [.int .i64 lo]] := hS1
 refine Ops.box (v := .int .i64 hi) hS1 rfl rfl (by show (1 : Nat) ≤ maxLen; simp [maxLen]) ?_
 intro P2 w2 hS2
 have hS2 : St w w2 [Bx 2 1 P2 [.int .i64 hi], Bx 2 1 P1 [.int .i64 lo]] := hS2
 refine Ops.mv_bool rfl rfl rfl ?_
 refine Ops.nil ?_
 refine thenQ_n ?_
 refine Cd.seq ?_
 refine Cd.region ?_
 refine Ops.mv_sl rfl rfl rfl ?_
 refine Ops.fn2 rfl rfl rfl ?_
 skip
 refine Ops.call (ContainsFunc_c A n c xs lo hi P1 P2 _ (hS2.oldI hR) hn (Rd.one (hS2.rd 1 rfl)) (Rd.one (hS2.rd 0 rfl))) rfl rfl rfl ?_
 rintro _ w2 ⟨rfl, rfl⟩
 first | refine Ops.not_p rfl rfl ?_ | refine Ops.not rfl rfl ?_
 refine Ops.mv_bool rfl rfl rfl ?_
 refine Ops.nil ?_
 refine thenQ_n ?_
 refine Cd.ret ?_
 refine ret1_b rfl ?_
 exact ⟨by simp, hS2.none⟩

/-- a word of n moves -/
def IsW (n : Nat) (ws : List Int) : Prop := allIn 0 ((n : Int) - 1) ws ∧ ws.length ≤ 64
instance (n : Nat) (ws : List Int) : Decidable (IsW n ws) := by unfold IsW; exact inferInstance

theorem l02Word_c (A : Option Addr) (n c : Nat) (Aw : Option Addr) (nw cw : Nat) (ws : List Int) (w : World) (hW : RdI w Aw nw ws) (hnw : nw ≤ 9223372036854775807) (hn : n ≤ 9223372036854775807) :
  Ret Tryz.prog 71 [.agg #[.slice A n c], .slice Aw nw cw] w (fun v w' => v = .bool (decide (IsW n ws)) ∧ St w w' []) := by
 have hwl := hW.1
 refine Ret.of_cd Tryz.func71 rfl Tryz.ntmps71 rfl (post1 rfl) ?_
 refine Cd.seq ?_
 refine Cd.region ?_
 refine Ops.box1 (St.refl w) rfl rfl ?_
 intro Ab w1 hS1
 refine Ops.mv_bool rfl rfl rfl ?_
 refine Ops.nil ?_
 refine thenQ_n ?_
 refine Cd.seq ?_
 refine Cd.seq ?_
 refine Cd.region ?_
 refine Ops.mv_int rfl rfl rfl ?_
 refine Ops.nil ?_
 refine thenQ_n ?_
 refine Cd.block ?_
 refine Cd.loop (α := Nat) (fun k => [(1, .slice Aw nw cw), (2, .pointer Ab), (5, .int .i64 (k : Int))]) (fun k w' => St w w' [Bx 32 1 Ab [.slice A n c]] ∧ k ≤ nw ∧ ∀ j, j < k → 0 ≤ gi ws (j : Nat) ∧ gi ws (j : Nat) ≤ (n : Int) - 1) (fun k => nw - k) 0 ⟨rfl, rfl, rfl, trivial⟩ ⟨hS1, Nat.zero_le _, fun j hj => by omega⟩ ?_
 rintro k e w2 ⟨hS2, hk, hK⟩
 have hW2 := hS2.oldI hW
 refine Cd.seq ?_
 refine Cd.seq ?_
 refine Cd.region ?_
 refine Ops.mv_int rfl rfl rfl ?_
 refine Ops.mv_sl rfl rfl rfl ?_
 refine Ops.len rfl rfl ?_
 refine Ops.lss rfl rfl rfl ?_
 refine Ops.nil ?_
 refine thenQ_n ?_
 refine Cd.cond_p _ rfl (fun h1 => ?_) (fun h1 => ?_)
 ·refine Cd.skip ?_
  refine thenQ_n ?_
  refine Cd.seq ?_
  refine Cd.block ?_
  refine Cd.seq ?_
  refine Cd.draw [.ex (.slice (Aw) (nw) (cw)), .ex (.int .i64 ((k : Int))), .ex (.pointer (ptrAt (Aw) ((k : Int)).toNat)), .ex (.int .i64 (gi (ws) ((k : Int)))), .ex (.pointer (ptrAt (Ab) 0)), .ex (.slice (A) (n) (c)), .ex (.int .i64 (((n : Nat) : Int))), .ex (.int .i64 ((((n : Nat) : Int)) - ((1 : Int)))), .ex (.bool (decide (0 ≤ gi ws (k : Int) ∧ gi ws (k : Int) ≤ (n : Int) - 1))), .ex (.bool (decide (¬ (0 ≤ gi ws (k : Int) ∧ gi ws (k : Int) ≤ (n : Int) - 1))))] (by kernel_rfl) (by kernel_rfl) rfl (List.forall_mem_cons.2 ⟨Yd.lasts_ex _, (List.forall_mem_cons.2 ⟨Yd.lasts_ex _, (List.forall_mem_cons.2 ⟨Yd.lasts_ex _, (List.forall_mem_cons.2 ⟨Yd.lasts_ex _, (List.forall_mem_cons.2 ⟨Yd.lasts_ex _, (List.forall_mem_cons.2 ⟨Yd.lasts_ex _, (List.forall_mem_cons.2 ⟨Yd.lasts_ex _, (List.forall_mem_cons.2 ⟨Yd.lasts_ex _, (List.forall_mem_cons.2 ⟨Yd.lasts_ex _, (List.forall_mem_cons.2 ⟨Yd.lasts_ex _, (fun _ h => by cases h)⟩)⟩)⟩)⟩)⟩)⟩)⟩)⟩)⟩)⟩) ⟨?_, ?_, ?_, ?_, ?_, ?_, ?_, ?_, ?_, ?_, trivial⟩ ?_
  ·intro e1 w1 hb hp hun
   refine Ops.mv_sl rfl rfl rfl ?_
   refine Ops.nil ?_
   exact After.dn (Below.refl _ _) (by exact rfl)
  ·intro e1 w1 hb hp hun
   refine Ops.mv_int rfl rfl rfl ?_
   refine Ops.nil ?_
   exact After.dn (Below.refl _ _) (by exact rfl)
  ·intro e1 w1 hb hp hun
   refine Ops.idx (hW2.later hb).2 rfl rfl rfl (by omega) (by omega) ?_
   refine Ops.nil ?_
   exact After.dn (Below.refl _ _) (by exact rfl)
  ·intro e1 w1 hb hp hun
   refine Ops.ld_int (hW2.later hb) rfl (by omega) rfl rfl ?_
   refine Ops.nil ?_
   exact After.dn (Below.refl _ _) (by exact rfl)
  ·intro e1 w1 hb hp hun
   refine Ops.fld ((hS2.rd 0 rfl).below hb) rfl rfl rfl rfl inferInstance ?_
   refine Ops.nil ?_
   exact After.dn (Below.refl _ _) (by exact rfl)
  ·intro e1 w1 hb hp hun
   refine Ops.ldf_s ((hS2.rd 0 rfl).below hb) rfl rfl rfl rfl rfl ?_
   refine Ops.nil ?_
   exact After.dn (Below.refl _ _) (by exact rfl)
  ·intro e1 w1 hb hp hun
   refine Ops.len rfl rfl ?_
   refine Ops.nil ?_
   exact After.dn (Below.refl _ _) (by exact rfl)
  ·intro e1 w1 hb hp hun
   refine Ops.sub rfl rfl rfl (by omega) ?_
   refine Ops.nil ?_
   exact After.dn (Below.refl _ _) (by exact rfl)
  ·intro e1 w1 hb hp hun
   refine Ops.call (l01In_c _ _ _ _) rfl rfl rfl ?_
   rintro _ w2 ⟨rfl, hst⟩
   subst hst
   refine Ops.nil ?_
   exact After.dn (Below.refl _ _) (by exact rfl)
  ·intro e1 w1 hb hp hun
   refine Ops.not_p rfl rfl ?_
   refine Ops.nil ?_
   exact After.dn (Below.refl _ _) (by exact rfl)
  intro u w3 hb3 _
  have hS3 := hS2.later hb3
  refine thenQ_n ?_
  refine Cd.cond_p _ rfl (fun h2 => ?_) (fun h2 => ?_)
  ·refine Cd.seq ?_
   refine Cd.region ?_
   refine Ops.mv_bool rfl rfl rfl ?_
   refine Ops.nil ?_
   refine thenQ_n ?_
   refine Cd.ret ?_
   refine blockQ_r ?_
   refine thenQ_r ?_
   refine thenQ_r ?_
   refine blockQ_r ?_
   refine thenQ_r ?_
   refine ret1_b rfl ?_
   refine ⟨?_, hS3.none⟩
   rw [decide_eq_false (fun hI : IsW n ws => h2 (by rw [gi_mem (by omega)]; exact hI.1 _ (List.getElem_mem _)))]
  ·refine Cd.skip ?_
   refine blockQ_n ?_
   refine thenQ_n ?_
   refine Cd.region ?_
   refine Ops.mv_int rfl rfl rfl ?_
   refine Ops.add rfl rfl rfl (by omega) ?_
   refine Ops.mv_int rfl rfl rfl ?_
   refine Ops.nil ?_
   refine thenQ_n ?_
   refine ⟨k + 1, by show nw - (k + 1) < nw - k; omega, ⟨rfl, rfl, rfl, trivial⟩, hS3, by omega, fun j hj => ?_⟩
   by_cases ej : j = k
   ·subst ej; exact Classical.not_not.1 h2
   ·exact hK j (by omega)
 ·refine Cd.exit ?_
  refine thenQ_x ?_
  refine thenQ_x ?_
  refine blockQ_x ?_
  refine thenQ_n ?_
  refine Cd.seq ?_
  refine Cd.region ?_
  refine Ops.mv_sl rfl rfl rfl ?_
  refine Ops.len rfl rfl ?_
  refine Ops.leq rfl rfl rfl ?_
  refine Ops.mv_bool rfl rfl rfl ?_
  refine Ops.nil ?_
  refine thenQ_n ?_
  refine Cd.ret ?_
  refine ret1_b rfl ?_
  have hall : allIn 0 ((n : Int) - 1) ws := fun x hx => by
   obtain ⟨j, hj, rfl⟩ := List.mem_iff_getElem.1 hx
   have := hK j (by omega)
   rwa [gi_mem hj] at this
  refine ⟨congrArg Value.bool (decide_eq_decide.2 ⟨fun h => ⟨hall, by omega⟩, fun h => by have := h.2; omega⟩), hS2.none⟩

theorem isWord_c (Ab A : Option Addr) (n c : Nat) (Aw : Option Addr) (nw cw : Nat) (ws : List Int) (w : World) (hB : Rd w Ab 1 (fun _ => .slice A n c)) (hW : RdI w Aw nw ws) (hnw : nw ≤ 9223372036854775807) (hn : n ≤ 9223372036854775807) :
    Ret Tryz.prog 67 [.pointer Ab, .slice Aw nw cw] w (fun v w' => v = .bool (decide (IsW n ws)) ∧ St w w' []) := by
  have hwl := hW.1
  refine Ret.of_cd Tryz.func67 rfl Tryz.ntmps67 rfl (post1 rfl) ?_
  refine Cd.seq ?_
  refine Cd.region ?_
  refine Ops.mv_bool rfl rfl rfl ?_
  refine Ops.nil ?_
  refine thenQ_n ?_
  refine Cd.seq ?_
  refine Cd.region ?_
  refine Ops.mv_sl rfl rfl rfl ?_
  refine Ops.len rfl rfl ?_
  refine Ops.leq rfl rfl rfl ?_
  refine Ops.mv_bool rfl rfl rfl ?_
  refine Ops.split_p 8 rfl (fun h1 => ?_) (fun h1 => ?_)
  · refine Ops.rung rfl rfl rfl ?_
    refine Ops.mv_sl rfl rfl rfl ?_
    refine Ops.rung rfl rfl rfl ?_
    refine Ops.mv_ptr rfl rfl rfl ?_
    refine Ops.rung rfl rfl rfl ?_
    refine Ops.call (rank_c Ab A n c _ _ hB rfl) rfl rfl rfl ?_
    rintro _ w ⟨rfl, rfl⟩
    refine Ops.rung rfl rfl rfl ?_
    refine Ops.sub rfl rfl rfl (by omega) ?_
    refine Ops.rung rfl rfl rfl ?_
    refine Ops.call (areWithin_c Aw nw cw ws 0 _ _ hW hnw) rfl rfl rfl ?_
    rintro _ w2 ⟨rfl, hst⟩
    refine Ops.pick_t rfl rfl rfl ?_
    refine Ops.mv_bool rfl rfl rfl ?_
    refine Ops.nil ?_
    refine thenQ_n ?_
    refine Cd.ret ?_
    refine ret1_b rfl ?_
    exact ⟨by have : ws.length ≤ 64 := by omega
              simp [IsW, this], hst⟩
  · refine Ops.skipg rfl rfl rfl rfl rfl ?_
    refine Ops.skipg rfl rfl rfl rfl rfl ?_
    refine Ops.skipg rfl rfl rfl rfl rfl ?_
    refine Ops.skipg rfl rfl rfl rfl rfl ?_
    refine Ops.skipg rfl rfl rfl rfl rfl ?_
    refine Ops.pick_f rfl rfl rfl ?_
    refine Ops.mv_bool rfl rfl rfl ?_
    refine Ops.nil ?_
    refine thenQ_n ?_
    refine Cd.ret ?_
    refine ret1_b rfl ?_
    exact ⟨by have : ¬ ws.length ≤ 64 := by omega
              simp [IsW, this], St.refl _⟩

def lowK (xss : List (List Int)) (ws : List Int) : Int := if ¬ Grph xss then 1 else if ¬ IsW xss.length ws then 2 else 0
def lowL (xss : List (List Int)) (ws : List Int) : List Int := if Grph xss ∧ IsW xss.length ws then wordL xss ws else []

theorem specLengthsOfWord_c (A : Option Addr) (n c : Nat) (rs : List SlV) (xss : List (List Int)) (Aw : Option Addr) (nw cw : Nat) (ws : List Int) (w : World) (hR : RowsI w A n rs xss) (hn : n ≤ 9223372036854775807) (hW : RdI w Aw nw ws) (hnw : nw ≤ 9223372036854775807) :
  Ret Tryz.prog 26 [.agg #[.slice A n c], .slice Aw nw cw] w (AnsR (lowL xss ws) (lowK xss ws) w) := by
 have hl := hR.len
 have hwl := hW.1
 refine Ret.of_cd Tryz.func26 rfl Tryz.ntmps26 rfl (post2 rfl) ?_
 refine Cd.seq ?_
 refine Cd.region ?_
 refine Ops.box1 (St.refl w) rfl rfl ?_
 intro Ab w1 hS1
 refine Ops.mv_sl rfl rfl rfl ?_
 refine Ops.mv_int rfl rfl rfl ?_
 refine Ops.nil ?_
 refine thenQ_n ?_
 refine Cd.seq ?_
 refine Cd.block ?_
 refine Cd.seq ?_
 refine Cd.region ?_
 refine Ops.ld_agg 0 (hS1.rd 0 rfl) rfl rfl rfl ?_
 refine Ops.call (l18Is_c A n c rs xss _ (hS1.oldRows hR) hn) rfl rfl rfl ?_
 rintro _ w2 ⟨rfl, hst⟩
 have hS2 := hS1.later hst.below
 first | refine Ops.not_p rfl rfl ?_ | refine Ops.not rfl rfl ?_
 refine Ops.mv_bool rfl rfl rfl ?_
 refine Ops.nil ?_
 refine thenQ_n ?_
 refine Cd.cond_p _ rfl (fun h => ?_) (fun h => ?_)
 ·refine Cd.seq ?_
  refine Cd.region ?_
  refine Ops.mv_sl rfl rfl rfl ?_
  refine Ops.mv_int rfl rfl rfl ?_
  refine Ops.nil ?_
  refine thenQ_n ?_
  refine Cd.ret ?_
  refine blockQ_r ?_
  refine thenQ_r ?_
  refine ret2_si rfl rfl ?_
  rw [lowK, if_pos h, lowL, if_neg (fun h2 => h h2.1)]
  exact AnsR.none hS2
 ·have hG : Grph xss := Classical.not_not.1 h
  refine Cd.seq ?_
  refine Cd.region ?_
  refine Ops.ld_agg 0 (hS2.rd 0 rfl) rfl rfl rfl ?_
  refine Ops.mv_sl rfl rfl rfl ?_
  refine Ops.call (l02Word_c A n c Aw nw cw ws _ (hS2.oldI hW) hnw hn) rfl rfl rfl ?_
  rintro _ w3 ⟨rfl, hst⟩
  have hS3 := hS2.later hst.below
  first | refine Ops.not_p rfl rfl ?_ | refine Ops.not rfl rfl ?_
  refine Ops.mv_bool rfl rfl rfl ?_
  refine Ops.nil ?_
  refine thenQ_n ?_
  refine Cd.cond_p _ rfl (fun h2 => ?_) (fun h2 => ?_)
  ·refine Cd.seq ?_
   refine Cd.region ?_
   refine Ops.mv_sl rfl rfl rfl ?_
   refine Ops.mv_int rfl rfl rfl ?_
   refine Ops.nil ?_
   refine thenQ_n ?_
   refine Cd.ret ?_
   refine blockQ_r ?_
   refine thenQ_r ?_
   refine ret2_si rfl rfl ?_
   rw [lowK, if_neg h, if_pos (by rw [hl]; exact h2), lowL, if_neg (fun h3 => h2 (by rw [← hl]; exact h3.2))]
   exact AnsR.none hS3
  ·have hI : IsW n ws := Classical.not_not.1 h2
   have hMa := hG.1
   have hs := hMa.2.2.1.sys
   have h40 := hMa.2.1
   have h5 := hMa.1
   refine Cd.skip ?_
   refine blockQ_n ?_
   refine thenQ_n ?_
   refine Cd.seq ?_
   refine Cd.region ?_
   refine Ops.ld_agg 0 (hS3.rd 0 rfl) rfl rfl rfl ?_
   refine Ops.mv_sl rfl rfl rfl ?_
   refine Ops.call (l18Lengths_c A n c rs xss (gl xss 0).length Aw nw cw ws _ (hS3.oldRows hR) (by omega) rfl (by omega) hs (hS3.oldI hW) hnw (fun k hk => by have := hI.1 (gi ws k) (by rw [gi_mem (by omega)]; exact List.getElem_mem _); omega)) rfl rfl rfl ?_
   rintro _ w4 ⟨A9, c9, rfl, hst⟩
   have hS4 := hS3.call hst
   refine Ops.mv_sl rfl rfl rfl ?_
   refine Ops.mv_int rfl rfl rfl ?_
   refine Ops.nil ?_
   refine thenQ_n ?_
   refine Cd.ret ?_
   refine ret2_si rfl rfl ?_
   rw [lowK, if_neg h, if_neg (by rw [hl]; exact h2), lowL, if_pos ⟨hG, by rw [hl]; exact hI⟩]
   exact AnsR.word hS4

theorem implLengthsOfWord_c (A : Option Addr) (n c : Nat) (rs : List SlV) (xss : List (List Int)) (Aw : Option Addr) (nw cw : Nat) (ws : List Int) (w : World) (hR : RowsI w A n rs xss) (hn : n ≤ c) (hc : c ≤ 9223372036854775807) (hW : RdI w Aw nw ws) (hnw : nw ≤ 9223372036854775807) :
  Ret Tryz.prog 25 [.agg #[.slice A n c], .slice Aw nw cw] w (AnsR (lowL xss ws) (lowK xss ws) w) := by
 have hl := hR.len
 have hwl := hW.1
 refine Ret.of_cd Tryz.func25 rfl Tryz.ntmps25 rfl (post2 rfl) ?_
 refine Cd.seq ?_
 refine Cd.region ?_
 refine Ops.box1 (St.refl w) rfl rfl ?_
 intro Ab w1 hS1
 refine Ops.mv_sl rfl rfl rfl ?_
 refine Ops.mv_int rfl rfl rfl ?_
 refine Ops.nil ?_
 refine thenQ_n ?_
 refine Cd.seq ?_
 refine Cd.block ?_
 refine Cd.seq ?_
 refine Cd.region ?_
 refine Ops.ld_agg 0 (hS1.rd 0 rfl) rfl rfl rfl ?_
 refine Ops.call (isGraphed_c A n c rs xss _ (hS1.oldRows hR) hn hc) rfl rfl rfl ?_
 rintro _ w2 ⟨rfl, hst⟩
 have hS2 := hS1.later hst.below
 first | refine Ops.not_p rfl rfl ?_ | refine Ops.not rfl rfl ?_
 refine Ops.mv_bool rfl rfl rfl ?_
 refine Ops.nil ?_
 refine thenQ_n ?_
 refine Cd.cond_p _ rfl (fun h => ?_) (fun h => ?_)
 ·refine Cd.seq ?_
  refine Cd.region ?_
  refine Ops.mv_sl rfl rfl rfl ?_
  refine Ops.mv_int rfl rfl rfl ?_
  refine Ops.nil ?_
  refine thenQ_n ?_
  refine Cd.ret ?_
  refine blockQ_r ?_
  refine thenQ_r ?_
  refine ret2_si rfl rfl ?_
  rw [lowK, if_pos h, lowL, if_neg (fun h2 => h h2.1)]
  exact AnsR.none hS2
 ·have hG : Grph xss := Classical.not_not.1 h
  refine Cd.seq ?_
  refine Cd.region ?_
  refine Ops.mv_sl rfl rfl rfl ?_
  refine Ops.call (isWord_c Ab A n c Aw nw cw ws _ (Rd.one (hS2.rd 0 rfl)) (hS2.oldI hW) hnw (by omega)) rfl rfl rfl ?_
  rintro _ w3 ⟨rfl, hst⟩
  have hS3 := hS2.later hst.below
  first | refine Ops.not_p rfl rfl ?_ | refine Ops.not rfl rfl ?_
  refine Ops.mv_bool rfl rfl rfl ?_
  refine Ops.nil ?_
  refine thenQ_n ?_
  refine Cd.cond_p _ rfl (fun h2 => ?_) (fun h2 => ?_)
  ·refine Cd.seq ?_
   refine Cd.region ?_
   refine Ops.mv_sl rfl rfl rfl ?_
   refine Ops.mv_int rfl rfl rfl ?_
   refine Ops.nil ?_
   refine thenQ_n ?_
   refine Cd.ret ?_
   refine blockQ_r ?_
   refine thenQ_r ?_
   refine ret2_si rfl rfl ?_
   rw [lowK, if_neg h, if_pos (by rw [hl]; exact h2), lowL, if_neg (fun h3 => h2 (by rw [← hl]; exact h3.2))]
   exact AnsR.none hS3
  ·have hI : IsW n ws := Classical.not_not.1 h2
   have hMa := hG.1
   have hs := hMa.2.2.1.sys
   have h40 := hMa.2.1
   have h5 := hMa.1
   have hw : ∀ k : Nat, k < nw → 0 ≤ gi ws k ∧ gi ws k < n := fun k hk => by have := hI.1 (gi ws k) (by rw [gi_mem (by omega)]; exact List.getElem_mem _); omega
   refine Cd.skip ?_
   refine blockQ_n ?_
   refine thenQ_n ?_
   refine Cd.seq ?_
   refine Cd.region ?_
   refine Ops.mv_sl rfl rfl rfl ?_
   refine Ops.call (does_c Ab A n c rs xss (gl xss 0).length Aw nw cw ws _ (Rd.one (hS3.rd 0 rfl)) (hS3.oldRows hR) (by omega) rfl (by omega) hs (hS3.oldI hW) hnw hw) rfl rfl rfl ?_
   rintro _ w6 ⟨A6, rfl, hst⟩
   have hS6 := hS3.call hst
   refine Ops.call (CycleLengths_c A6 _ _ _ _ (hS6.rdI 0 rfl) (by omega) (does_perm hs hMa.2.2.1.inj (by omega) (fun i hi => by have := hI.1 i hi; omega))) rfl rfl rfl ?_
   rintro _ w7 ⟨A7, c7, rfl, hst⟩
   have hS7 := hS6.call hst
   refine Ops.extract rfl rfl rfl ?_
   refine Ops.extract rfl rfl rfl ?_
   refine Ops.mv_sl rfl rfl rfl ?_
   refine Ops.mv_int rfl rfl rfl ?_
   refine Ops.nil ?_
   refine thenQ_n ?_
   refine Cd.ret ?_
   refine ret2_si rfl rfl ?_
   rw [lowK, if_neg h, if_neg (by rw [hl]; exact h2), lowL, if_pos ⟨hG, by rw [hl]; exact hI⟩]
   exact AnsR.word hS7
end Go.Proofs.YtjpkmpihmilgoaaGreat.Vc
/-
 Distances in a graph: the search, and the walks of it on both sides. Conditions: as each states them.
-/
namespace Go.Proofs.YtjpkmpihmilgoaaGreat.Vc
open Go.RowKit

/-- one neighbour met: the distances, and the queue -/
def stepB (wo u : Int) (st : List Int × List Int) (x : Int) : List Int × List Int := if gi st.1 x < 0 ∧ x ≠ wo then (st.1.set x.toNat (gi st.1 u + 1), st.2 ++ [x]) else st
def rowB (wo u : Int) (r : List Int) (st : List Int × List Int) : List Int × List Int := r.foldl (stepB wo u) st
theorem rowB_snoc (wo u : Int) (r : List Int) (x : Int) (st : List Int × List Int) : rowB wo u (r ++ [x]) st = stepB wo u (rowB wo u r st) x := by simp [rowB, List.foldl_append]
def bfsD (next : List (List Int)) (wo : Int) : Nat → Nat → List Int × List Int → List Int × List Int
 | 0, _, st => st
 | f + 1, i, st => if i < st.2.length then bfsD next wo f (i + 1) (rowB wo (gi st.2 (i : Int)) (gl next (gi st.2 (i : Int))) st) else st
def initB (n : Nat) (v : Int) : List Int × List Int := ((List.replicate n (-1)).set v.toNat 0, [v])
def distP (next : List (List Int)) (wo v : Int) : List Int × List Int := bfsD next wo (next.length + 1) 0 (initB next.length v)

structure BF (n : Nat) (st : List Int × List Int) : Prop where
 len : st.1.length = n
 rng : ∀ x ∈ st.2, 0 ≤ x ∧ x < n
 cnt : st.2.length + unl st.1 = n
 val : ∀ x ∈ st.1, -1 ≤ x ∧ x < st.2.length
 pos : ∀ x ∈ st.2, 0 ≤ gi st.1 x
theorem gi_in2 {l : List Int} {x : Int} (h0 : 0 ≤ x) (h1 : x < l.length) : gi l x ∈ l := by
 obtain ⟨k, rfl⟩ : ∃ k : Nat, x = k := ⟨x.toNat, by omega⟩
 exact gi_in (by omega)
theorem gi_setI {l : List Int} {i : Nat} {v : Int} {x : Int} (hi : i < l.length) (hx : 0 ≤ x) : gi (l.set i v) x = if (i : Int) = x then v else gi l x := by
 obtain ⟨k, rfl⟩ : ∃ k : Nat, x = k := ⟨x.toNat, by omega⟩
 simp only [gi, Int.toNat_natCast, List.getD_eq_getElem?_getD, List.getElem?_set]
 by_cases h : i = k
 ·subst h; rw [if_pos rfl, if_pos hi, if_pos rfl]; rfl
 ·rw [if_neg h, if_neg (by omega)]
theorem BF.step {n : Nat} {st : List Int × List Int} (h : BF n st) {wo u x : Int} (hu : u ∈ st.2) (h0 : 0 ≤ x) (h1 : x < n) : BF n (stepB wo u st x) ∧ st.2 <+: (stepB wo u st x).2 := by
 unfold stepB
 split
 ·rename_i hx
  have hlen := h.len
  have hxn : x.toNat < st.1.length := by omega
  have hgu := h.pos u hu
  have hur := h.rng u hu
  have hgu2 := h.val _ (gi_in2 hur.1 (by omega))
  have hunl := unl_set (L := st.1) (x := x) (c := gi st.1 u + 1) h0 (by omega) hx.1 (by omega)
  have hcnt := h.cnt
  refine ⟨⟨by simp [h.len], fun y hy => ?_, by simp; omega, fun y hy => ?_, fun y hy => ?_⟩, List.prefix_append _ _⟩
  ·rcases List.mem_append.1 hy with hy | hy
   ·exact h.rng y hy
   ·simp at hy; subst hy; exact ⟨h0, h1⟩
  ·rw [List.length_append, List.length_singleton]
   rcases List.mem_or_eq_of_mem_set hy with hy | rfl
   ·have := h.val y hy; omega
   ·omega
  ·have hy0 : 0 ≤ y := by
    rcases List.mem_append.1 hy with hy | hy
    ·exact (h.rng y hy).1
    ·simp at hy; omega
   rw [gi_setI hxn hy0]
   split
   ·omega
   ·rename_i hne
    rcases List.mem_append.1 hy with hy | hy
    ·exact h.pos y hy
    ·simp at hy; omega
 ·exact ⟨h, List.prefix_rfl⟩
theorem BF.row {n : Nat} {wo u : Int} (r : List Int) : ∀ {st : List Int × List Int}, BF n st → u ∈ st.2 → (∀ x ∈ r, 0 ≤ x ∧ x < n) → BF n (rowB wo u r st) ∧ st.2 <+: (rowB wo u r st).2 := by
 induction r using snoc_ind with
 | h0 => intro st h _ _; exact ⟨h, List.prefix_rfl⟩
 | h1 l a ih =>
  intro st h hu hr
  obtain ⟨h1, h2⟩ := ih h hu (fun x hx => hr x (by simp [hx]))
  have ha := hr a (by simp)
  rw [rowB_snoc]
  obtain ⟨h3, h4⟩ := h1.step (wo := wo) (h2.subset hu) ha.1 ha.2
  exact ⟨h3, h2.trans h4⟩
theorem BF.len2 {n : Nat} {st : List Int × List Int} (h : BF n st) : st.2.length ≤ n := by have := h.cnt; omega
/-- a graph's lists -/
structure Gr (n : Nat) (next : List (List Int)) : Prop where
 len : next.length = n
 small : n ≤ 400
 row : ∀ u : Int, 0 ≤ u → (∀ x ∈ gl next u, 0 ≤ x ∧ x < n) ∧ (gl next u).length ≤ 1000

end Go.Proofs.YtjpkmpihmilgoaaGreat.Vc
/-
 Distances and what is reached: the program's walks. Conditions: as each states them.
-/
namespace Go.Proofs.YtjpkmpihmilgoaaGreat.Vc
open Go.RowKit

end Go.Proofs.YtjpkmpihmilgoaaGreat.Vc
/-
 The graph of a maniplex with its code, and distances from a vertex on both sides. Conditions: as each states them.
-/
namespace Go.Proofs.YtjpkmpihmilgoaaGreat.Vc
open Go.RowKit

def goK (xss : List (List Int)) (vs : List Int) : Int := if ¬ Grph xss then 1 else if ¬ allIn 0 ((vertsN xss : Int) - 1) vs then 2 else 0
def goL (xss : List (List Int)) (vs : List Int) : List (List Int) := if Grph xss ∧ allIn 0 ((vertsN xss : Int) - 1) vs then nbL xss else []
def vdL (xss : List (List Int)) (v : Int) : List Int := if goK xss [v] = 0 then (distP (nbL xss) (-1) v).1 else []
end Go.Proofs.YtjpkmpihmilgoaaGreat.Vc
