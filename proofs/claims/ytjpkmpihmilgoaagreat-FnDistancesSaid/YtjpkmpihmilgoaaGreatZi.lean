/-
  The texts Srf, K2, D6, K3, K4, Anx, K5, Di, Two, Cs8, Cs9, Uni, Dj, Dk, Dl, Dm, C9, C11, E1, E2, E3, Dst in one. Conditions: as each part states them.
-/
import Derived.Test.YtjpkmpihmilgoaaGreatLayc
import Derived.Shelf.SlSortCmp.NoneTotal
import Derived.Test.YtjpkmpihmilgoaaGreatZc
import Derived.Test.YtjpkmpihmilgoaaGreatZh
import Derived.Test.YtjpkmpihmilgoaaGreatZf
import Derived.Test.YtjpkmpihmilgoaaGreatZa
import Derived.Test.YtjpkmpihmilgoaaGreatZg
import Derived.Test.YtjpkmpihmilgoaaGreatZd
import Derived.Test.YtjpkmpihmilgoaaGreatZe
/-
 The library's sort by a function, of a row of one's own whose elements are structs of one slice. Conditions: the function's contract, and that it is a strict weak order.
-/
namespace Go.Proofs.YtjpkmpihmilgoaaGreat.Vc
open Go.RowKit Go.Sort

/-- the place at a number -/
def sv (ss : List SlV) (j : Nat) : SlV := ss.getD j slNil
def encA (ss : List SlV) (n : Nat) (j : Fin n) : List Value := [(sv ss j).v]
end Go.Proofs.YtjpkmpihmilgoaaGreat.Vc
/-
 The program's list of a rank and a number of flags. Conditions: none.
-/
namespace Go.Proofs.YtjpkmpihmilgoaaGreat.Vc
open Go.RowKit

def matNo : MatV := ⟨slNil, [], []⟩
def mv (ms : List MatV) (j : Nat) : MatV := ms.getD j matNo
def lstI (rank flags : Int) : List Mx := if Small rank flags then listL rank.toNat flags.toNat else []
def lstK (rank flags : Int) : Int := if Small rank flags then 0 else 2

end Go.Proofs.YtjpkmpihmilgoaaGreat.Vc
/-
 The laws' marks over lists of lists, told exactly. Conditions: as each states them.
-/
namespace Go.Proofs.YtjpkmpihmilgoaaGreat.Vc
open Go.RowKit

def tot (xss : List (List Int)) : Int := ((xss.map List.length).sum : Nat)
def mkSS (k : Int) : List (List Int) → List (List Int)
 | [] => []
 | x :: xs => marks k x.length :: mkSS (k + x.length) xs
def mixM (k : Int) (xs : List (List Int)) (i : Nat) : List (List Int) := mkSS k (xs.take i) ++ xs.drop i
end Go.Proofs.YtjpkmpihmilgoaaGreat.Vc
/-
 Lists of maniplexes compared, marked and found marked; and the answers of CountManiplexes, AllManiplexes and ManiplexAt on both sides. Conditions: as each states them.
-/
namespace Go.Proofs.YtjpkmpihmilgoaaGreat.Vc
open Go.RowKit

/-- a list of matrices, read -/
structure MsR (w : World) (A : Option Addr) (ms : List MatV) : Prop where
 top : RdR w A ms.length (ms.map (·.top))
 row : ∀ m ∈ ms, RowsI w m.top.a m.top.n m.rs m.xss
/-! marks -/
def totM (ms : List MatV) : Int := ((ms.map fun m => (m.xss.map List.length).sum).sum : Nat)
theorem totM_cons (ms : List MatV) (m : MatV) : totM (m :: ms) = tot m.xss + totM ms := by simp [totM, tot]
def mkV (k : Int) : List MatV → List MatV
 | [] => []
 | m :: ms => { m with xss := mkSS k m.xss } :: mkV (k + tot m.xss) ms
/-- small matrices -/
def SmV (m : MatV) : Prop := m.rs.length = m.top.n ∧ m.xss.length = m.top.n ∧ m.top.n ≤ 4 ∧ ∀ x ∈ m.xss, x.length ≤ 12
end Go.Proofs.YtjpkmpihmilgoaaGreat.Vc
/-
 CountManiplexes and AllManiplexes on both sides, and the walks of their laws. Conditions: none.
-/
namespace Go.Proofs.YtjpkmpihmilgoaaGreat.Vc
open Go.RowKit

/-- an answer: a list of maniplexes, and a code -/
def AnsM (L : List Mx) (K : Int) (w : World) (v : Value) (w' : World) : Prop := ∃ A c, ∃ ms : List MatV, v = .tuple #[.slice A ms.length c, .int .i64 K] ∧ ms.map (·.xss) = L ∧ (∀ m ∈ ms, m.ok) ∧
      St w w' (CkR 32 A ms.length c (ms.map (·.top)) :: matsCk 34 2 ms)
/-! counts -/
def cnK (rank flags : Int) : Int := ((lstI rank flags).length : Nat)
/-! the lists -/
end Go.Proofs.YtjpkmpihmilgoaaGreat.Vc
/-
 An answer: a maniplex and a code. Conditions: none.
-/
namespace Go.Proofs.YtjpkmpihmilgoaaGreat.Vc
open Go.RowKit

/-- an answer: a maniplex, or none, and a code -/
def AnsX (L : List (List Int)) (K : Int) (w : World) (v : Value) (w' : World) : Prop := ∃ A c, ∃ rs : List SlV, v = .tuple #[.agg #[.slice A L.length c], .int .i64 K] ∧ rs.length = L.length ∧ St w w' (mat 34 2 A L.length c rs L)
end Go.Proofs.YtjpkmpihmilgoaaGreat.Vc
/-
 ManiplexAt on both sides, and the walk of its law. Conditions: none.
-/
namespace Go.Proofs.YtjpkmpihmilgoaaGreat.Vc
open Go.RowKit

/-! marks on one maniplex, exact -/
/-! the answers -/
def atK (rank flags i : Int) : Int := if ¬ Small rank flags ∨ i < 0 then 2 else if ((lstI rank flags).length : Int) ≤ i then 4 else 0
def atL (rank flags i : Int) : Mx := if i < 0 then [] else (lstI rank flags).getD i.toNat []
end Go.Proofs.YtjpkmpihmilgoaaGreat.Vc
/-
 The draws of maniplexes, walked: the map of a rotation. Conditions: as each states them.
-/
namespace Go.Proofs.YtjpkmpihmilgoaaGreat.Vc
open Go.RowKit

/-- an answer: a code and rows of numbers in memory of its own -/
def AnsQ (w : World) (v : Value) (w' : World) : Prop :=
 ∃ (n : Nat) (A : Option Addr) (c : Nat) (rs : List SlV) (xss : List (List Int)) (code : Int), v = .tuple #[.agg #[.slice A n c], .int .i64 code] ∧ n ≤ 6 ∧ rs.length = n ∧ xss.length = n ∧ (∀ p ∈ xss, p.length ≤ 20001 ∧ ∀ x ∈ p, -1 ≤ x ∧ x ≤ 20001) ∧ St w w' (mat 34 2 A n c rs xss)

def Qb (M : Nat) (y : List Int) : Prop := y.length = M ∧ ∀ x ∈ y, -1 ≤ x ∧ x ≤ 20001
theorem Qb.set {M : Nat} {y : List Int} {i : Nat} {v : Int} (h : Qb M y) (hv : -1 ≤ v ∧ v ≤ 20001) : Qb M (y.set i v) :=
 ⟨by rw [List.length_set]; exact h.1, fun z hz => (List.mem_or_eq_of_mem_set hz).elim (h.2 z) (fun e => e ▸ hv)⟩
theorem Qb.zero {M : Nat} : Qb M (List.replicate M 0) := ⟨by simp, fun x hx => by obtain ⟨_, rfl⟩ := List.mem_replicate.1 hx; decide⟩

/-- how far the open statement is -/
structure Mr4 (w0 : World) (n M : Nat) (A : Option Addr) (c : Nat) (A2 : Option Addr) (S : Nat → Bool) (e : Env) (w : World) : Prop where
  f0 : e 0 = .slice A n c
  f2 : e 2 = .pointer A2
  f4 : e 4 = .int .i64 (n : Int)
  p0 : S 0 = true → e 15 = .int .i64 (n : Int)
  p1 : S 1 = true → e 16 = .int .i64 (M : Int)
  p3 : S 3 = true → e 18 = .int .i64 (n : Int)
  p4 : S 4 = true → e 19 = .int .i64 (M : Int)
  p6 : S 6 = true → e 21 = .int .i64 (n : Int)
  p7 : S 7 = true → e 22 = .int .i64 (M : Int)
  mem : ∃ (B0 B1 B2 A24 A5 : Option Addr) (b0 b1 b2 b3 b5 : List Ck) (vs : List Value),
    (S 2 = true → e 17 = .slice B0 M M ∧ b0 = [CkI 2 B0 M M (List.replicate M 0)]) ∧
    (S 5 = true → e 20 = .slice B1 M M ∧ b1 = [CkI 2 B1 M M (List.replicate M 0)]) ∧
    (S 8 = true → e 23 = .slice B2 M M ∧ b2 = [CkI 2 B2 M M (List.replicate M 0)]) ∧
    (S 9 = true → e 24 = .slice A24 3 3 ∧ b3 = [CkR 34 A24 3 3 [⟨B0, M, M⟩, ⟨B1, M, M⟩, ⟨B2, M, M⟩]]) ∧
    (S 10 = true → e 25 = .agg #[.slice A24 3 3]) ∧
    (S 11 = true → e 5 = .pointer A5 ∧ b5 = [Bx 32 1 A5 vs]) ∧
    (S 12 = false → vs = [.slice none 0 0]) ∧
    (S 12 = true → vs = [.slice A24 3 3]) ∧
    St w0 w (b3 ++ (b0 ++ (b1 ++ (b2 ++ (b5 ++ [Bx 32 1 A2 [.slice none 0 0]])))))

theorem MapOfRotation_c (A : Option Addr) (n c : Nat) (p : List Int) (w : World) (hR : RdI w A n p) (hn : n ≤ 9223372036854775807) :
  Ret Tryz.prog 163 [.slice A n c] w (AnsQ w) := by
 refine Ret.of_cd Tryz.func163 rfl Tryz.ntmps163 rfl (postc2 rfl rfl) ?_
 refine Cd.seq ?_
 refine Cd.region ?_
 refine Ops.new1 (St.refl w) rfl ?_
 intro A2 w1 hS1
 refine Ops.mv_int rfl rfl rfl ?_
 refine Ops.nil ?_
 refine thenQ_n ?_
 refine Cd.seq ?_
 refine Cd.seq ?_
 refine Cd.region ?_
 refine Ops.mv_sl rfl rfl rfl ?_
 refine Ops.call (IsRotation_c A n c p w1 (hS1.oldI hR) hn) rfl rfl rfl ?_
 rintro _ w2 ⟨⟨b, rfl, hb⟩, hT⟩
 have hS2 := hS1.later hT.below
 first | refine Ops.not_p rfl rfl ?_ | refine Ops.not rfl rfl ?_
 refine Ops.nil ?_
 refine thenQ_n ?_
 refine Cd.cond_p (b = false) (congrArg Value.bool (by cases b <;> rfl)) (fun h1 => ?_) (fun h1 => ?_)
 ·refine Cd.seq ?_
  refine Cd.region ?_
  refine Ops.bld0 (by exact inferInstance) rfl ?_
  skip
  refine Ops.st_agg 1 0 hS2 rfl rfl rfl rfl rfl rfl rfl ?_
  intro w3 hS3
  refine Ops.mv_int rfl rfl rfl ?_
  refine Ops.nil ?_
  refine thenQ_n ?_
  refine Cd.ret ?_
  refine thenQ_r ?_
  skip
  refine retc2_r rfl (hS3.rd 0 rfl) rfl ?_
  exact ⟨0, none, 0, [], [], 1, rfl, by decide, rfl, rfl, fun p hp => (nomatch hp), hS3.none.nil _⟩
 ·have hb2 : b = true := by cases b <;> simp at h1 ⊢
  obtain ⟨hn2, hpl, hpr, _⟩ := hb hb2
  have hpn := hR.1
  refine Cd.skip ?_
  refine thenQ_n ?_
  refine Cd.seq ?_
  refine Cd.region ?_
  refine Ops.mv_sl rfl rfl rfl ?_
  refine Ops.len rfl rfl ?_
  refine Ops.mv_int rfl rfl rfl ?_
  refine Ops.nil ?_
  refine thenQ_n ?_
  refine Cd.seq ?_
  obtain ⟨M, hM⟩ : ∃ M : Nat, M = 2 * n := ⟨_, rfl⟩
  refine Cd.drawS (by kernel_rfl) (by kernel_rfl) (fun S e1 w1 => Mr4 w n M A c A2 S e1 w1) (fun w4 hb => ⟨rfl, rfl, rfl, fun h => (nomatch h), fun h => (nomatch h), fun h => (nomatch h), fun h => (nomatch h), fun h => (nomatch h), fun h => (nomatch h), none, none, none, none, none, [], [], [], [], [], [.slice none 0 0], fun h => (nomatch h), fun h => (nomatch h), fun h => (nomatch h), fun h => (nomatch h), fun h => (nomatch h), fun h => (nomatch h), fun _ => rfl, fun h => (nomatch h), hS2.later hb⟩) ?_ ?_
  ·intro S i o e1 w4 hq hSk hd hcl hI
   obtain ⟨f0, f2, f4, p0, p1, p3, p4, p6, p7, B0, B1, B2, A24, A5, b0, b1, b2, b3, b5, vs, m2, m5, m8, m9, m10, m11, m12f, m12, hT⟩ := hI
   match i, hq, hSk with
   | 0, hq, hSk =>
    obtain rfl := Option.some.inj hq
    refine Ops.mv_int rfl (by exact f4) rfl ?_
    refine Ops.nil ?_
    exact ⟨f0, f2, f4, fun _ => rfl, p1, p3, p4, p6, p7, B0, B1, B2, A24, A5, b0, b1, b2, b3, b5, vs, m2, m5, m8, m9, m10, m11, m12f, m12, hT⟩
   | 1, hq, hSk =>
    obtain rfl := Option.some.inj hq
    refine Ops.mul rfl (by exact p0 (deps_of hd 0 rfl)) rfl (by omega) ?_
    refine Ops.nil ?_
    exact ⟨f0, f2, f4, p0, fun _ => congrArg (Value.int .i64) (by omega), p3, p4, p6, p7, B0, B1, B2, A24, A5, b0, b1, b2, b3, b5, vs, m2, m5, m8, m9, m10, m11, m12f, m12, hT⟩
   | 2, hq, hSk =>
    obtain rfl := Option.some.inj hq
    have n9 : S 9 = false := (notyet hSk fun h => deps_of (hcl 9 _ h rfl) 2 rfl)
    refine Ops.mkI M (hT.sub (ks' := b3 ++ (b1 ++ (b2 ++ (b5 ++ [Bx 32 1 A2 [.slice none 0 0]])))) ((List.Sublist.refl _).append (List.sublist_append_right _ _))) (by exact p1 (deps_of hd 1 rfl)) rfl (by omega) ?_
    intro A' w5 hT5
    have hT6 : St w w5 (b3 ++ ([CkI 2 A' M M (List.replicate M 0)] ++ (b1 ++ (b2 ++ (b5 ++ [Bx 32 1 A2 [.slice none 0 0]]))))) := by
     refine hT5.perm ?_
     have := (List.perm_middle (a := CkI 2 A' M M (List.replicate M 0)) (l₁ := b3) (l₂ := b1 ++ (b2 ++ ((b5 ++ [Bx 32 1 A2 [.slice none 0 0]]))))).symm
     simpa only [List.append_assoc, List.singleton_append, List.cons_append, List.nil_append] using this
    refine Ops.nil ?_
    exact ⟨f0, f2, f4, p0, p1, p3, p4, p6, p7, A', B1, B2, A24, A5, _, b1, b2, b3, b5, vs, fun _ => ⟨rfl, rfl⟩, m5, m8, fun h => (nomatch n9.symm.trans h), m10, m11, m12f, m12, hT6⟩
   | 3, hq, hSk =>
    obtain rfl := Option.some.inj hq
    refine Ops.mv_int rfl (by exact f4) rfl ?_
    refine Ops.nil ?_
    exact ⟨f0, f2, f4, p0, p1, fun _ => rfl, p4, p6, p7, B0, B1, B2, A24, A5, b0, b1, b2, b3, b5, vs, m2, m5, m8, m9, m10, m11, m12f, m12, hT⟩
   | 4, hq, hSk =>
    obtain rfl := Option.some.inj hq
    refine Ops.mul rfl (by exact p3 (deps_of hd 3 rfl)) rfl (by omega) ?_
    refine Ops.nil ?_
    exact ⟨f0, f2, f4, p0, p1, p3, fun _ => congrArg (Value.int .i64) (by omega), p6, p7, B0, B1, B2, A24, A5, b0, b1, b2, b3, b5, vs, m2, m5, m8, m9, m10, m11, m12f, m12, hT⟩
   | 5, hq, hSk =>
    obtain rfl := Option.some.inj hq
    have n9 : S 9 = false := (notyet hSk fun h => deps_of (hcl 9 _ h rfl) 5 rfl)
    refine Ops.mkI M (hT.sub (ks' := b3 ++ (b0 ++ (b2 ++ (b5 ++ [Bx 32 1 A2 [.slice none 0 0]])))) ((List.Sublist.refl _).append ((List.Sublist.refl _).append (List.sublist_append_right _ _)))) (by exact p4 (deps_of hd 4 rfl)) rfl (by omega) ?_
    intro A' w5 hT5
    have hT6 : St w w5 (b3 ++ (b0 ++ ([CkI 2 A' M M (List.replicate M 0)] ++ (b2 ++ (b5 ++ [Bx 32 1 A2 [.slice none 0 0]]))))) := by
     refine hT5.perm ?_
     have := (List.perm_middle (a := CkI 2 A' M M (List.replicate M 0)) (l₁ := b3 ++ b0) (l₂ := b2 ++ ((b5 ++ [Bx 32 1 A2 [.slice none 0 0]])))).symm
     simpa only [List.append_assoc, List.singleton_append, List.cons_append, List.nil_append] using this
    refine Ops.nil ?_
    exact ⟨f0, f2, f4, p0, p1, p3, p4, p6, p7, B0, A', B2, A24, A5, b0, _, b2, b3, b5, vs, m2, fun _ => ⟨rfl, rfl⟩, m8, fun h => (nomatch n9.symm.trans h), m10, m11, m12f, m12, hT6⟩
   | 6, hq, hSk =>
    obtain rfl := Option.some.inj hq
    refine Ops.mv_int rfl (by exact f4) rfl ?_
    refine Ops.nil ?_
    exact ⟨f0, f2, f4, p0, p1, p3, p4, fun _ => rfl, p7, B0, B1, B2, A24, A5, b0, b1, b2, b3, b5, vs, m2, m5, m8, m9, m10, m11, m12f, m12, hT⟩
   | 7, hq, hSk =>
    obtain rfl := Option.some.inj hq
    refine Ops.mul rfl (by exact p6 (deps_of hd 6 rfl)) rfl (by omega) ?_
    refine Ops.nil ?_
    exact ⟨f0, f2, f4, p0, p1, p3, p4, p6, fun _ => congrArg (Value.int .i64) (by omega), B0, B1, B2, A24, A5, b0, b1, b2, b3, b5, vs, m2, m5, m8, m9, m10, m11, m12f, m12, hT⟩
   | 8, hq, hSk =>
    obtain rfl := Option.some.inj hq
    have n9 : S 9 = false := (notyet hSk fun h => deps_of (hcl 9 _ h rfl) 8 rfl)
    refine Ops.mkI M (hT.sub (ks' := b3 ++ (b0 ++ (b1 ++ (b5 ++ [Bx 32 1 A2 [.slice none 0 0]])))) ((List.Sublist.refl _).append ((List.Sublist.refl _).append ((List.Sublist.refl _).append (List.sublist_append_right _ _))))) (by exact p7 (deps_of hd 7 rfl)) rfl (by omega) ?_
    intro A' w5 hT5
    have hT6 : St w w5 (b3 ++ (b0 ++ (b1 ++ ([CkI 2 A' M M (List.replicate M 0)] ++ (b5 ++ [Bx 32 1 A2 [.slice none 0 0]]))))) := by
     refine hT5.perm ?_
     have := (List.perm_middle (a := CkI 2 A' M M (List.replicate M 0)) (l₁ := b3 ++ b0 ++ b1) (l₂ := (b5 ++ [Bx 32 1 A2 [.slice none 0 0]]))).symm
     simpa only [List.append_assoc, List.singleton_append, List.cons_append, List.nil_append] using this
    refine Ops.nil ?_
    exact ⟨f0, f2, f4, p0, p1, p3, p4, p6, p7, B0, B1, A', A24, A5, b0, b1, _, b3, b5, vs, m2, m5, fun _ => ⟨rfl, rfl⟩, fun h => (nomatch n9.symm.trans h), m10, m11, m12f, m12, hT6⟩
   | 9, hq, hSk =>
    obtain rfl := Option.some.inj hq
    obtain ⟨h17, rfl⟩ := m2 (deps_of hd 2 rfl)
    obtain ⟨h20, rfl⟩ := m5 (deps_of hd 5 rfl)
    obtain ⟨h23, rfl⟩ := m8 (deps_of hd 8 rfl)
    have n10 : S 10 = false := (notyet hSk fun h => deps_of (hcl 10 _ h rfl) 9 rfl)
    have n12 : S 12 = false := (notyet hSk fun h => deps_of (hcl 12 _ h rfl) 9 rfl)
    refine Ops.bs3R (s0 := ⟨B0, M, M⟩) (s1 := ⟨B1, M, M⟩) (s2 := ⟨B2, M, M⟩) (hT.sub (List.sublist_append_right _ _)) (by exact h17) (by exact h20) (by exact h23) rfl ?_
    intro A24 w5 hT5
    refine Ops.nil ?_
    exact ⟨f0, f2, f4, p0, p1, p3, p4, p6, p7, B0, B1, B2, A24, A5, _, _, _, [CkR 34 A24 3 3 [⟨B0, M, M⟩, ⟨B1, M, M⟩, ⟨B2, M, M⟩]], b5, vs, fun _ => ⟨h17, rfl⟩, fun _ => ⟨h20, rfl⟩, fun _ => ⟨h23, rfl⟩, fun _ => ⟨rfl, rfl⟩, fun h => (nomatch n10.symm.trans h), m11, m12f, fun h => (nomatch n12.symm.trans h), hT5⟩
   | 10, hq, hSk =>
    obtain rfl := Option.some.inj hq
    obtain ⟨h24, hb3⟩ := m9 (deps_of hd 9 rfl)
    refine Ops.bld1 (by exact inferInstance) rfl (by exact h24) rfl rfl ?_
    refine Ops.nil ?_
    exact ⟨f0, f2, f4, p0, p1, p3, p4, p6, p7, B0, B1, B2, A24, A5, b0, b1, b2, b3, b5, vs, m2, m5, m8, m9, fun _ => rfl, m11, m12f, m12, hT⟩
   | 11, hq, hSk =>
    obtain rfl := Option.some.inj hq
    have n12 : S 12 = false := (notyet hSk fun h => deps_of (hcl 12 _ h rfl) 11 rfl)
    obtain rfl := m12f n12
    refine Ops.new1 (hT.sub (ks' := (b3 ++ (b0 ++ (b1 ++ b2))) ++ [Bx 32 1 A2 [.slice none 0 0]]) (by simp only [List.append_assoc]; exact (List.Sublist.refl _).append ((List.Sublist.refl _).append ((List.Sublist.refl _).append ((List.Sublist.refl _).append (List.sublist_append_right _ _)))))) rfl ?_
    intro A' w5 hT5
    have hT6 : St w w5 (b3 ++ (b0 ++ (b1 ++ (b2 ++ ([Bx 32 1 A' [.slice none 0 0]] ++ [Bx 32 1 A2 [.slice none 0 0]]))))) := by
     have := hT5.perm (List.perm_middle (l₁ := b3 ++ (b0 ++ (b1 ++ b2)))).symm
     simpa only [List.append_assoc, List.singleton_append] using this
    refine Ops.nil ?_
    exact ⟨f0, f2, f4, p0, p1, p3, p4, p6, p7, B0, B1, B2, A24, A', b0, b1, b2, b3, _, _, m2, m5, m8, m9, m10, fun _ => ⟨rfl, rfl⟩, fun _ => rfl, fun h => (nomatch n12.symm.trans h), hT6⟩
   | 12, hq, hSk =>
    obtain rfl := Option.some.inj hq
    obtain ⟨h5, rfl⟩ := m11 (deps_of hd 11 rfl)
    obtain ⟨h17, rfl⟩ := m2 (deps_of hd 2 rfl)
    obtain ⟨h20, rfl⟩ := m5 (deps_of hd 5 rfl)
    obtain ⟨h23, rfl⟩ := m8 (deps_of hd 8 rfl)
    obtain ⟨h24, rfl⟩ := m9 (deps_of hd 9 rfl)
    obtain rfl := m12f hSk
    refine Ops.st_agg 1 4 hT rfl (by exact h5) (by exact m10 (deps_of hd 10 rfl)) rfl rfl rfl rfl ?_
    intro w5 hT5
    refine Ops.nil ?_
    exact ⟨f0, f2, f4, p0, p1, p3, p4, p6, p7, B0, B1, B2, A24, A5, _, _, _, _, _, [.slice A24 3 3], fun _ => ⟨h17, rfl⟩, fun _ => ⟨h20, rfl⟩, fun _ => ⟨h23, rfl⟩, fun _ => ⟨h24, rfl⟩, m10, fun _ => ⟨h5, rfl⟩, fun h => (nomatch (show true = false from h)), fun _ => rfl, hT5⟩
   | i + 13, hq, _ => exact (nomatch hq)
  ·intro S e1 w4 hall hI
   obtain ⟨f0, f2, f4, p0, p1, p3, p4, p6, p7, B0, B1, B2, A24, A5, b0, b1, b2, b3, b5, vs, m2, m5, m8, m9, m10, m11, m12f, m12, hT⟩ := hI
   obtain ⟨h5, rfl⟩ := m11 (hall 11 (by decide))
   obtain ⟨_, rfl⟩ := m2 (hall 2 (by decide))
   obtain ⟨_, rfl⟩ := m5 (hall 5 (by decide))
   obtain ⟨_, rfl⟩ := m8 (hall 8 (by decide))
   obtain ⟨_, rfl⟩ := m9 (hall 9 (by decide))
   obtain rfl := m12 (hall 12 (by decide))
   refine thenQ_ext (F := [(0, .slice A n c), (2, .pointer A2), (4, .int .i64 (n : Int)), (5, .pointer A5)]) ⟨f0, f2, f4, h5, trivial⟩ ?_
   have hT : St w w4 (mat 34 2 A24 3 3 [⟨B0, M, M⟩, ⟨B1, M, M⟩, ⟨B2, M, M⟩] [(List.replicate M 0), (List.replicate M 0), (List.replicate M 0)] ++ [Bx 32 1 A5 [.slice A24 3 3], Bx 32 1 A2 [.slice none 0 0]]) := hT
   refine thenQ_n ?_
   refine Cd.seq ?_
   refine Cd.seq ?_
   refine Cd.region ?_
   refine Ops.mv_int rfl rfl rfl ?_
   refine Ops.nil ?_
   refine thenQ_n ?_
   refine Cd.block ?_
   refine Cd.loop (α := Nat × List Int × List Int × List Int) (fun s => [(0, .slice A n c), (2, .pointer A2), (4, .int .i64 (n : Int)), (5, .pointer A5), (6, .int .i64 (s.1 : Int))]) (fun s w' => St w w' (mat 34 2 A24 3 3 [⟨B0, M, M⟩, ⟨B1, M, M⟩, ⟨B2, M, M⟩] [s.2.1, s.2.2.1, s.2.2.2] ++ [Bx 32 1 A5 [.slice A24 3 3], Bx 32 1 A2 [.slice none 0 0]]) ∧ s.1 ≤ n ∧ Qb M s.2.1 ∧ Qb M s.2.2.1 ∧ Qb M s.2.2.2) (fun s => n - s.1) (0, (List.replicate M 0), (List.replicate M 0), (List.replicate M 0)) ⟨rfl, rfl, rfl, rfl, rfl, trivial⟩ ⟨hT, Nat.zero_le _, Qb.zero, Qb.zero, Qb.zero⟩ ?_
   rintro ⟨f, y0, y1, y2⟩ e w5 ⟨hT5, hf, q0, q1, q2⟩
   dsimp only at hT5 hf q0 q1 q2 ⊢
   refine Cd.seq ?_
   refine Cd.seq ?_
   refine Cd.region ?_
   refine Ops.mv_int rfl rfl rfl ?_
   refine Ops.mv_int rfl rfl rfl ?_
   refine Ops.lss rfl rfl rfl ?_
   refine Ops.nil ?_
   refine thenQ_n ?_
   refine Cd.cond_p _ rfl (fun h2 => ?_) (fun h2 => ?_)
   ·have hP5 := hT5.oldI hR
    have hv : 0 ≤ gi p (f : Int) ∧ gi p (f : Int) < (n : Int) := by
     rw [gi_mem (by omega)]
     have := hpr _ (List.getElem_mem (l := p) (n := f) (by omega))
     omega
    generalize hV : gi p (f : Int) = v at hv
    refine Cd.skip ?_
    refine thenQ_n ?_
    refine Cd.seq ?_
    refine Cd.block ?_
    refine Cd.seq ?_
    refine Cd.draw [.ex (.int .i64 ((f : Int))), .ex (.int .i64 (((f : Int)) + ((1 : Int)))), .ex (.int .i64 ((f : Int))), .ex (.int .i64 ((f : Int) % 2)), .ex (.int .i64 (((2 : Int)) * ((f : Int) % 2))), .ex (.int .i64 ((((f : Int)) + ((1 : Int))) - (((2 : Int)) * ((f : Int) % 2)))), .ex (.slice (A) (n) (c)), .ex (.int .i64 ((f : Int))), .ex (.pointer (ptrAt (A) ((f : Int)).toNat)), .ex (.int .i64 (gi (p) ((f : Int)))), .ex (.int .i64 ((((f : Int)) + ((1 : Int))) - (((2 : Int)) * ((f : Int) % 2)))), .ex (.int .i64 (gi (p) ((f : Int))))] (by kernel_rfl) (by kernel_rfl) rfl (List.forall_mem_cons.2 ⟨Yd.lasts_ex _, (List.forall_mem_cons.2 ⟨Yd.lasts_ex _, (List.forall_mem_cons.2 ⟨Yd.lasts_ex _, (List.forall_mem_cons.2 ⟨Yd.lasts_ex _, (List.forall_mem_cons.2 ⟨Yd.lasts_ex _, (List.forall_mem_cons.2 ⟨Yd.lasts_ex _, (List.forall_mem_cons.2 ⟨Yd.lasts_ex _, (List.forall_mem_cons.2 ⟨Yd.lasts_ex _, (List.forall_mem_cons.2 ⟨Yd.lasts_ex _, (List.forall_mem_cons.2 ⟨Yd.lasts_ex _, (List.forall_mem_cons.2 ⟨Yd.lasts_ex _, (List.forall_mem_cons.2 ⟨Yd.lasts_ex _, (fun _ h => by cases h)⟩)⟩)⟩)⟩)⟩)⟩)⟩)⟩)⟩)⟩)⟩)⟩) ⟨?_, ?_, ?_, ?_, ?_, ?_, ?_, ?_, ?_, ?_, ?_, ?_, trivial⟩ ?_
    ·intro e1 w1 hb hp hun
     refine Ops.mv_int rfl rfl rfl ?_
     refine Ops.nil ?_
     exact After.dn (Below.refl _ _) (by exact rfl)
    ·intro e1 w1 hb hp hun
     refine Ops.add rfl rfl rfl (by omega) ?_
     refine Ops.nil ?_
     exact After.dn (Below.refl _ _) (by exact rfl)
    ·intro e1 w1 hb hp hun
     refine Ops.mv_int rfl rfl rfl ?_
     refine Ops.nil ?_
     exact After.dn (Below.refl _ _) (by exact rfl)
    ·intro e1 w1 hb hp hun
     refine Ops.rem rfl rfl rfl (by omega) ?_
     refine Ops.nil ?_
     exact After.dn (Below.refl _ _) (by exact rfl)
    ·intro e1 w1 hb hp hun
     refine Ops.mul rfl rfl rfl (by omega) ?_
     refine Ops.nil ?_
     exact After.dn (Below.refl _ _) (by exact rfl)
    ·intro e1 w1 hb hp hun
     refine Ops.sub rfl rfl rfl (by omega) ?_
     refine Ops.nil ?_
     exact After.dn (Below.refl _ _) (by exact rfl)
    ·intro e1 w1 hb hp hun
     refine Ops.mv_sl rfl rfl rfl ?_
     refine Ops.nil ?_
     exact After.dn (Below.refl _ _) (by exact rfl)
    ·intro e1 w1 hb hp hun
     refine Ops.mv_int rfl rfl rfl ?_
     refine Ops.nil ?_
     exact After.dn (Below.refl _ _) (by exact rfl)
    ·intro e1 w1 hb hp hun
     refine Ops.idx (hP5.later hb).2 rfl rfl rfl (by omega) (by omega) ?_
     refine Ops.nil ?_
     exact After.dn (Below.refl _ _) (by exact rfl)
    ·intro e1 w1 hb hp hun
     refine Ops.ld_int (hP5.later hb) rfl (by omega) rfl rfl ?_
     refine Ops.nil ?_
     exact After.dn (Below.refl _ _) (by exact rfl)
    ·intro e1 w1 hb hp hun
     refine Ops.mv_int rfl rfl rfl ?_
     refine Ops.nil ?_
     exact After.dn (Below.refl _ _) (by exact rfl)
    ·intro e1 w1 hb hp hun
     refine Ops.mv_int rfl rfl rfl ?_
     refine Ops.nil ?_
     exact After.dn (Below.refl _ _) (by exact rfl)
    intro u w6 hb6 _
    rw [hV]
    have hU0 := hT5.later hb6
    refine thenQ_n ?_
    refine Cd.seq ?_
    refine Cd.region ?_
    refine Ops.fld (hU0.rd 4 rfl) rfl rfl rfl rfl inferInstance ?_
    refine Ops.ldf_s (hU0.rd 4 rfl) rfl rfl rfl rfl rfl ?_
    skip
    refine Ops.idx (hU0.rd 0 rfl) rfl rfl rfl (by omega) (by show (0 : Int) < (3 : Int); decide) ?_
    refine Ops.ld_sl (i := 0) (hU0.rdR 0 rfl) rfl (by show 0 < 3; decide) rfl rfl ?_
    refine Ops.mv_int rfl rfl rfl ?_
    refine Ops.mul rfl rfl rfl (by omega) ?_
    refine Ops.mv_int rfl rfl rfl ?_
    refine Ops.mul rfl rfl rfl (by omega) ?_
    refine Ops.add rfl rfl rfl (by omega) ?_
    refine Ops.idx (hU0.rd 1 rfl) rfl rfl rfl (by omega) (by show 2 * (f : Int) < (M : Int); omega) ?_
    refine Ops.st_int (i := 2 * (f : Int)) 1 hU0 rfl rfl rfl (by show (2 * (f : Int)).toNat < M; omega) ?_
    intro x0 hU1
    have hU1 : St w x0 (mat 34 2 A24 3 3 [⟨B0, M, M⟩, ⟨B1, M, M⟩, ⟨B2, M, M⟩] [(y0.set (2 * (f : Int)).toNat (2 * ((f : Int) + 1 - 2 * ((f : Int) % 2)) + 1)), y1, y2] ++ [Bx 32 1 A5 [.slice A24 3 3], Bx 32 1 A2 [.slice none 0 0]]) := hU1
    refine Ops.nil ?_
    refine thenQ_n ?_
    refine Cd.seq ?_
    refine Cd.region ?_
    refine Ops.fld (hU1.rd 4 rfl) rfl rfl rfl rfl inferInstance ?_
    refine Ops.ldf_s (hU1.rd 4 rfl) rfl rfl rfl rfl rfl ?_
    skip
    refine Ops.idx (hU1.rd 0 rfl) rfl rfl rfl (by omega) (by show (0 : Int) < (3 : Int); decide) ?_
    refine Ops.ld_sl (i := 0) (hU1.rdR 0 rfl) rfl (by show 0 < 3; decide) rfl rfl ?_
    refine Ops.mv_int rfl rfl rfl ?_
    refine Ops.mul rfl rfl rfl (by omega) ?_
    refine Ops.add rfl rfl rfl (by omega) ?_
    refine Ops.mv_int rfl rfl rfl ?_
    refine Ops.mul rfl rfl rfl (by omega) ?_
    refine Ops.idx (hU1.rd 1 rfl) rfl rfl rfl (by omega) (by show 2 * (f : Int) + 1 < (M : Int); omega) ?_
    refine Ops.st_int (i := 2 * (f : Int) + 1) 1 hU1 rfl rfl rfl (by show (2 * (f : Int) + 1).toNat < M; omega) ?_
    intro x1 hU2
    have hU2 : St w x1 (mat 34 2 A24 3 3 [⟨B0, M, M⟩, ⟨B1, M, M⟩, ⟨B2, M, M⟩] [((y0.set (2 * (f : Int)).toNat (2 * ((f : Int) + 1 - 2 * ((f : Int) % 2)) + 1)).set (2 * (f : Int) + 1).toNat (2 * ((f : Int) + 1 - 2 * ((f : Int) % 2)))), y1, y2] ++ [Bx 32 1 A5 [.slice A24 3 3], Bx 32 1 A2 [.slice none 0 0]]) := hU2
    refine Ops.nil ?_
    refine thenQ_n ?_
    refine Cd.seq ?_
    refine Cd.region ?_
    refine Ops.fld (hU2.rd 4 rfl) rfl rfl rfl rfl inferInstance ?_
    refine Ops.ldf_s (hU2.rd 4 rfl) rfl rfl rfl rfl rfl ?_
    skip
    refine Ops.idx (hU2.rd 0 rfl) rfl rfl rfl (by omega) (by show (1 : Int) < (3 : Int); decide) ?_
    refine Ops.ld_sl (i := 1) (hU2.rdR 0 rfl) rfl (by show 1 < 3; decide) rfl rfl ?_
    refine Ops.mv_int rfl rfl rfl ?_
    refine Ops.mul rfl rfl rfl (by omega) ?_
    refine Ops.mv_int rfl rfl rfl ?_
    refine Ops.mul rfl rfl rfl (by omega) ?_
    refine Ops.add rfl rfl rfl (by omega) ?_
    refine Ops.idx (hU2.rd 2 rfl) rfl rfl rfl (by omega) (by show 2 * (f : Int) < (M : Int); omega) ?_
    refine Ops.st_int (i := 2 * (f : Int)) 2 hU2 rfl rfl rfl (by show (2 * (f : Int)).toNat < M; omega) ?_
    intro x2 hU3
    have hU3 : St w x2 (mat 34 2 A24 3 3 [⟨B0, M, M⟩, ⟨B1, M, M⟩, ⟨B2, M, M⟩] [((y0.set (2 * (f : Int)).toNat (2 * ((f : Int) + 1 - 2 * ((f : Int) % 2)) + 1)).set (2 * (f : Int) + 1).toNat (2 * ((f : Int) + 1 - 2 * ((f : Int) % 2)))), (y1.set (2 * (f : Int)).toNat (2 * v + 1)), y2] ++ [Bx 32 1 A5 [.slice A24 3 3], Bx 32 1 A2 [.slice none 0 0]]) := hU3
    refine Ops.nil ?_
    refine thenQ_n ?_
    refine Cd.seq ?_
    refine Cd.region ?_
    refine Ops.fld (hU3.rd 4 rfl) rfl rfl rfl rfl inferInstance ?_
    refine Ops.ldf_s (hU3.rd 4 rfl) rfl rfl rfl rfl rfl ?_
    skip
    refine Ops.idx (hU3.rd 0 rfl) rfl rfl rfl (by omega) (by show (1 : Int) < (3 : Int); decide) ?_
    refine Ops.ld_sl (i := 1) (hU3.rdR 0 rfl) rfl (by show 1 < 3; decide) rfl rfl ?_
    refine Ops.mv_int rfl rfl rfl ?_
    refine Ops.mul rfl rfl rfl (by omega) ?_
    refine Ops.add rfl rfl rfl (by omega) ?_
    refine Ops.mv_int rfl rfl rfl ?_
    refine Ops.mul rfl rfl rfl (by omega) ?_
    refine Ops.idx (hU3.rd 2 rfl) rfl rfl rfl (by omega) (by show 2 * v + 1 < (M : Int); omega) ?_
    refine Ops.st_int (i := 2 * v + 1) 2 hU3 rfl rfl rfl (by show (2 * v + 1).toNat < M; omega) ?_
    intro x3 hU4
    have hU4 : St w x3 (mat 34 2 A24 3 3 [⟨B0, M, M⟩, ⟨B1, M, M⟩, ⟨B2, M, M⟩] [((y0.set (2 * (f : Int)).toNat (2 * ((f : Int) + 1 - 2 * ((f : Int) % 2)) + 1)).set (2 * (f : Int) + 1).toNat (2 * ((f : Int) + 1 - 2 * ((f : Int) % 2)))), ((y1.set (2 * (f : Int)).toNat (2 * v + 1)).set (2 * v + 1).toNat (2 * (f : Int))), y2] ++ [Bx 32 1 A5 [.slice A24 3 3], Bx 32 1 A2 [.slice none 0 0]]) := hU4
    refine Ops.nil ?_
    refine thenQ_n ?_
    refine Cd.seq ?_
    refine Cd.region ?_
    refine Ops.fld (hU4.rd 4 rfl) rfl rfl rfl rfl inferInstance ?_
    refine Ops.ldf_s (hU4.rd 4 rfl) rfl rfl rfl rfl rfl ?_
    skip
    refine Ops.idx (hU4.rd 0 rfl) rfl rfl rfl (by omega) (by show (2 : Int) < (3 : Int); decide) ?_
    refine Ops.ld_sl (i := 2) (hU4.rdR 0 rfl) rfl (by show 2 < 3; decide) rfl rfl ?_
    refine Ops.mv_int rfl rfl rfl ?_
    refine Ops.mul rfl rfl rfl (by omega) ?_
    refine Ops.mv_int rfl rfl rfl ?_
    refine Ops.mul rfl rfl rfl (by omega) ?_
    refine Ops.add rfl rfl rfl (by omega) ?_
    refine Ops.idx (hU4.rd 3 rfl) rfl rfl rfl (by omega) (by show 2 * (f : Int) < (M : Int); omega) ?_
    refine Ops.st_int (i := 2 * (f : Int)) 3 hU4 rfl rfl rfl (by show (2 * (f : Int)).toNat < M; omega) ?_
    intro x4 hU5
    have hU5 : St w x4 (mat 34 2 A24 3 3 [⟨B0, M, M⟩, ⟨B1, M, M⟩, ⟨B2, M, M⟩] [((y0.set (2 * (f : Int)).toNat (2 * ((f : Int) + 1 - 2 * ((f : Int) % 2)) + 1)).set (2 * (f : Int) + 1).toNat (2 * ((f : Int) + 1 - 2 * ((f : Int) % 2)))), ((y1.set (2 * (f : Int)).toNat (2 * v + 1)).set (2 * v + 1).toNat (2 * (f : Int))), (y2.set (2 * (f : Int)).toNat (2 * (f : Int) + 1))] ++ [Bx 32 1 A5 [.slice A24 3 3], Bx 32 1 A2 [.slice none 0 0]]) := hU5
    refine Ops.nil ?_
    refine thenQ_n ?_
    refine Cd.region ?_
    refine Ops.fld (hU5.rd 4 rfl) rfl rfl rfl rfl inferInstance ?_
    refine Ops.ldf_s (hU5.rd 4 rfl) rfl rfl rfl rfl rfl ?_
    skip
    refine Ops.idx (hU5.rd 0 rfl) rfl rfl rfl (by omega) (by show (2 : Int) < (3 : Int); decide) ?_
    refine Ops.ld_sl (i := 2) (hU5.rdR 0 rfl) rfl (by show 2 < 3; decide) rfl rfl ?_
    refine Ops.mv_int rfl rfl rfl ?_
    refine Ops.mul rfl rfl rfl (by omega) ?_
    refine Ops.add rfl rfl rfl (by omega) ?_
    refine Ops.mv_int rfl rfl rfl ?_
    refine Ops.mul rfl rfl rfl (by omega) ?_
    refine Ops.idx (hU5.rd 3 rfl) rfl rfl rfl (by omega) (by show 2 * (f : Int) + 1 < (M : Int); omega) ?_
    refine Ops.st_int (i := 2 * (f : Int) + 1) 3 hU5 rfl rfl rfl (by show (2 * (f : Int) + 1).toNat < M; omega) ?_
    intro x5 hU6
    have hU6 : St w x5 (mat 34 2 A24 3 3 [⟨B0, M, M⟩, ⟨B1, M, M⟩, ⟨B2, M, M⟩] [((y0.set (2 * (f : Int)).toNat (2 * ((f : Int) + 1 - 2 * ((f : Int) % 2)) + 1)).set (2 * (f : Int) + 1).toNat (2 * ((f : Int) + 1 - 2 * ((f : Int) % 2)))), ((y1.set (2 * (f : Int)).toNat (2 * v + 1)).set (2 * v + 1).toNat (2 * (f : Int))), ((y2.set (2 * (f : Int)).toNat (2 * (f : Int) + 1)).set (2 * (f : Int) + 1).toNat (2 * (f : Int)))] ++ [Bx 32 1 A5 [.slice A24 3 3], Bx 32 1 A2 [.slice none 0 0]]) := hU6
    refine Ops.nil ?_
    refine blockQ_n ?_
    refine thenQ_n ?_
    refine Cd.region ?_
    refine Ops.mv_int rfl rfl rfl ?_
    refine Ops.add rfl rfl rfl (by omega) ?_
    refine Ops.mv_int rfl rfl rfl ?_
    refine Ops.nil ?_
    refine thenQ_n ?_
    exact ⟨(f + 1, ((y0.set (2 * (f : Int)).toNat (2 * ((f : Int) + 1 - 2 * ((f : Int) % 2)) + 1)).set (2 * (f : Int) + 1).toNat (2 * ((f : Int) + 1 - 2 * ((f : Int) % 2)))), ((y1.set (2 * (f : Int)).toNat (2 * v + 1)).set (2 * v + 1).toNat (2 * (f : Int))), ((y2.set (2 * (f : Int)).toNat (2 * (f : Int) + 1)).set (2 * (f : Int) + 1).toNat (2 * (f : Int)))), by show n - (f + 1) < n - f; omega, ⟨rfl, rfl, rfl, rfl, rfl, trivial⟩, hU6, by show f + 1 ≤ n; omega, (q0.set (by omega)).set (by omega), (q1.set (by omega)).set (by omega), (q2.set (by omega)).set (by omega)⟩
   ·have hrows : RowsI w5 A24 3 [⟨B0, M, M⟩, ⟨B1, M, M⟩, ⟨B2, M, M⟩] [y0, y1, y2] := St.rowsI hT5 rfl
    refine Cd.exit ?_
    refine thenQ_x ?_
    refine thenQ_x ?_
    refine blockQ_x ?_
    refine thenQ_n ?_
    refine Cd.seq ?_
    refine Cd.seq ?_
    refine Cd.region ?_
    refine Ops.ld_agg 0 (hT5.rd 4 rfl) rfl rfl rfl ?_
    skip
    refine Ops.call (l14Is_c A24 3 3 _ [y0, y1, y2] w5 hrows (by decide)) rfl rfl rfl ?_
    rintro _ w6 ⟨rfl, hT'⟩
    have hT6 := hT5.later hT'.below
    first | refine Ops.not_p rfl rfl ?_ | refine Ops.not rfl rfl ?_
    refine Ops.nil ?_
    refine thenQ_n ?_
    refine Cd.cond_p (¬ (Mani [y0, y1, y2] ∧ 3 = 3)) (congrArg Value.bool (by simp)) (fun h3 => ?_) (fun h3 => ?_)
    ·refine Cd.seq ?_
     refine Cd.region ?_
     refine Ops.bld0 (by exact inferInstance) rfl ?_
     skip
     refine Ops.st_agg 1 5 hT6 rfl rfl rfl rfl rfl rfl rfl ?_
     intro w7 hT7
     refine Ops.mv_int rfl rfl rfl ?_
     refine Ops.nil ?_
     refine thenQ_n ?_
     refine Cd.ret ?_
     refine thenQ_r ?_
     skip
     refine retc2_r rfl (hT7.rd 5 rfl) rfl ?_
     exact ⟨0, none, 0, [], [], 5, rfl, by decide, rfl, rfl, fun p hp => (nomatch hp), hT7.none.nil _⟩
    ·refine Cd.skip ?_
     refine thenQ_n ?_
     refine Cd.seq ?_
     refine Cd.region ?_
     refine Ops.ld_agg 0 (hT6.rd 4 rfl) rfl rfl rfl ?_
     skip
     refine Ops.st_agg 1 5 hT6 rfl rfl rfl rfl rfl rfl rfl ?_
     intro w7 hT7
     refine Ops.mv_int rfl rfl rfl ?_
     refine Ops.nil ?_
     refine thenQ_n ?_
     refine Cd.ret ?_
     skip
     refine retc2_r rfl (hT7.rd 5 rfl) rfl ?_
     refine ⟨3, A24, 3, _, [y0, y1, y2], 0, rfl, by decide, rfl, rfl, fun p hp => ?_, hT7.sub (ks' := mat 34 2 A24 3 3 [⟨B0, M, M⟩, ⟨B1, M, M⟩, ⟨B2, M, M⟩] [y0, y1, y2]) (List.sublist_append_left (mat 34 2 A24 3 3 [⟨B0, M, M⟩, ⟨B1, M, M⟩, ⟨B2, M, M⟩] [y0, y1, y2]) _)⟩
     have hq : Qb M p := by
      simp only [List.mem_cons, List.not_mem_nil, or_false] at hp
      rcases hp with rfl | rfl | rfl <;> assumption
     exact ⟨by have := hq.1; omega, hq.2⟩
end Go.Proofs.YtjpkmpihmilgoaaGreat.Vc
/-
 Rows of structs of two cells, a slice and a number: the rules of the operations on them. Conditions: as each rule names them.
-/
namespace Go.Proofs.YtjpkmpihmilgoaaGreat.Vc
open Go.RowKit

structure CV where
 s : SlV
 v : Int
def flatC : List CV → List Value
 | [] => []
 | x :: r => x.s.v :: .int .i64 x.v :: flatC r
/-- a row of such structs of one's own: k of them, room for q -/
def CkC (t : TypeId) (A : Option Addr) (k q : Nat) (cs : List CV) : Ck := ⟨A, 2 * k, min (2 * q) maxLen, t, flatC cs⟩
/-- .. that can be read -/
def RdC (w : World) (A : Option Addr) (k : Nat) (cs : List CV) : Prop := cs.length = k ∧ Rd w A (2 * k) (fun j => (flatC cs).getD j undef)
/-- the address behind some -/
def cutC (A : Option Addr) (q l : Nat) : Option Addr := if q = l then A else ptrAt A (l * 2)
section
variable {w0 w : World} {ks : List Ck} {i : Nat} {t : TypeId} {A : Option Addr} {k q : Nat} {cs : List CV}
end
section
variable {P : Program} {N : Nat} {ops : Array Oper} {K : Env → World → Prop} {rest : List Oper} {e : Env} {w0 w w' : World} {ks : List Ck} {d : Nat} {ty : TypeId} {pos : String} {af : Array Edge}
theorem Ops.bld2c {t : TypeId} {f0 f1 : Field} {z0 z1 y0 y1 : Value} {b b0 b1 : Nat} [Und P t (.struct #[f0, f1])] [Inf P t (.agg #[z0, z1]) 2 b] {x0 x1 : Operand} {v0 v1 : Value} (hI0 : Inf P f0.type y0 1 b0) (hI1 : Inf P f1.type y1 1 b1) (ho : f0.offset = 0) (ho1 : f1.offset = 1) (h0 : ev e x0 = v0) (h1 : ev e x1 = v1) (c0 : v0.oneCell' = true) (c1 : v1.oneCell' = true) (hb : Nat.blt d N = true)
    (hK : Ops P N ops K rest (upd e d (.agg #[v0, v1])) w) : Ops P N ops K (⟨some d, .build t #[(0, x0), (1, x1)], ty, pos, af, none⟩ :: rest) e w := by
  obtain ⟨inf, hi, hz0, hs, hby⟩ := Inf.get P t
  obtain ⟨inf0, hi0, hz00, hs0, hby0⟩ := hI0.get P f0.type
  obtain ⟨inf1, hi1, hz01, hs1, hby1⟩ := hI1.get P f1.type
  have e0 : v0.cells = #[v0] := by cases v0 <;> simp [Value.oneCell'] at c0 <;> rfl
  have e1 : v1.cells = #[v1] := by cases v1 <;> simp [Value.oneCell'] at c1 <;> rfl
  have ez : (Value.agg #[z0, z1]).cells = #[z0, z1] := rfl
  refine .val (w' := w) ?_ hb hK
  simp [execOp, Instr.build, run_underlying (Und.out (P := P) (t := t)), sizeOf, typeInfo, zeroValue, hi, hz0, hi0, hs0, hi1, hs1, ho, ho1, h0, h1, e0, e1, ez, Instr.fill]

end
end Go.Proofs.YtjpkmpihmilgoaaGreat.Vc
/-
 The reference's tests of diagrams and presentations, where they hold, and its universal polytope, walked. Conditions: as each states them.
-/
namespace Go.Proofs.YtjpkmpihmilgoaaGreat.Vc
open Go.RowKit

theorem l12Is_c (A : Option Addr) (n c : Nat) (labels : List Int) (w : World) (hR : RdI w A n labels) (hn : n < 5) (hl : ∀ x ∈ labels, x = 0 ∨ (2 ≤ x ∧ x ≤ 32)) :
  Ret Tryz.prog 196 [.slice A n c] w (fun v w' => v = .bool true ∧ w' = w) := by
 have hll := hR.1
 refine Ret.of_cd Tryz.func196 rfl Tryz.ntmps196 rfl (post1 rfl) ?_
 refine Cd.seq ?_
 refine Cd.region ?_
 refine Ops.mv_bool rfl rfl rfl ?_
 refine Ops.nil ?_
 refine thenQ_n ?_
 refine Cd.seq ?_
 refine Cd.seq ?_
 refine Cd.region ?_
 refine Ops.mv_int rfl rfl rfl ?_
 refine Ops.nil ?_
 refine thenQ_n ?_
 refine Cd.block ?_
 refine Cd.loop (α := Nat) (fun i => [(0, .slice A n c), (3, .int .i64 (i : Int))]) (fun i w' => w' = w ∧ i ≤ n) (fun i => n - i) 0 ⟨rfl, rfl, trivial⟩ ⟨rfl, Nat.zero_le _⟩ ?_
 rintro i e w1 ⟨rfl, hi⟩
 refine Cd.seq ?_
 refine Cd.seq ?_
 refine Cd.region ?_
 refine Ops.mv_int rfl rfl rfl ?_
 refine Ops.mv_sl rfl rfl rfl ?_
 refine Ops.len rfl rfl ?_
 refine Ops.lss rfl rfl rfl ?_
 refine Ops.nil ?_
 refine thenQ_n ?_
 refine Cd.cond_p _ rfl (fun h1 => ?_) (fun h1 => ?_)
 ·have hx := hl (gi labels (i : Int)) (by rw [gi_mem (by omega)]; exact List.getElem_mem _)
  refine Cd.skip ?_
  refine thenQ_n ?_
  refine Cd.seq ?_
  refine Cd.block ?_
  refine Cd.seq ?_
  refine Cd.region ?_
  refine Ops.mv_sl rfl rfl rfl ?_
  refine Ops.mv_int rfl rfl rfl ?_
  refine Ops.idx hR.2 rfl rfl rfl (by omega) (by omega) ?_
  refine Ops.ld_int hR rfl (by omega) rfl rfl ?_
  refine Ops.neq rfl rfl rfl ?_
  refine Ops.mv_bool rfl rfl rfl ?_
  refine Ops.split_p 15 rfl (fun h2 => ?_) (fun h2 => ?_)
  ·refine Ops.rung rfl rfl rfl ?_
   refine Ops.mv_sl rfl rfl rfl ?_
   refine Ops.rung rfl rfl rfl ?_
   refine Ops.mv_int rfl rfl rfl ?_
   refine Ops.rung rfl rfl rfl ?_
   refine Ops.idx hR.2 rfl rfl rfl (by omega) (by omega) ?_
   refine Ops.rung rfl rfl rfl ?_
   refine Ops.ld_int hR rfl (by omega) rfl rfl ?_
   refine Ops.rung rfl rfl rfl ?_
   refine Ops.call (l01In_c _ _ _ _) rfl rfl rfl ?_
   rintro _ w2 ⟨rfl, rfl⟩
   refine Ops.rung rfl rfl rfl ?_
   first | refine Ops.not_p rfl rfl ?_ | refine Ops.not rfl rfl ?_
   refine Ops.pick_t rfl rfl rfl ?_
   refine Ops.nil ?_
   refine thenQ_n ?_
   refine Cd.cond_pf rfl (fun h => h (by omega)) ?_
   refine Cd.skip ?_
   refine blockQ_n ?_
   refine thenQ_n ?_
   refine Cd.region ?_
   refine Ops.mv_int rfl rfl rfl ?_
   refine Ops.add rfl rfl rfl (by omega) ?_
   refine Ops.mv_int rfl rfl rfl ?_
   refine Ops.nil ?_
   refine thenQ_n ?_
   exact ⟨i + 1, by omega, ⟨rfl, rfl, trivial⟩, rfl, by omega⟩
  ·refine Ops.skipg rfl rfl rfl rfl rfl ?_
   refine Ops.skipg rfl rfl rfl rfl rfl ?_
   refine Ops.skipg rfl rfl rfl rfl rfl ?_
   refine Ops.skipg rfl rfl rfl rfl rfl ?_
   refine Ops.skipg rfl rfl rfl rfl rfl ?_
   refine Ops.skipg rfl rfl rfl rfl rfl ?_
   refine Ops.pick_f rfl rfl rfl ?_
   refine Ops.nil ?_
   refine thenQ_n ?_
   refine Cd.cond_f rfl ?_
   refine Cd.skip ?_
   refine blockQ_n ?_
   refine thenQ_n ?_
   refine Cd.region ?_
   refine Ops.mv_int rfl rfl rfl ?_
   refine Ops.add rfl rfl rfl (by omega) ?_
   refine Ops.mv_int rfl rfl rfl ?_
   refine Ops.nil ?_
   refine thenQ_n ?_
   exact ⟨i + 1, by omega, ⟨rfl, rfl, trivial⟩, rfl, by omega⟩
 ·refine Cd.exit ?_
  refine thenQ_x ?_
  refine thenQ_x ?_
  refine blockQ_x ?_
  refine thenQ_n ?_
  refine Cd.seq ?_
  refine Cd.region ?_
  refine Ops.mv_sl rfl rfl rfl ?_
  refine Ops.len rfl rfl ?_
  refine Ops.lss rfl rfl rfl ?_
  refine Ops.mv_bool rfl rfl rfl ?_
  refine Ops.nil ?_
  refine thenQ_n ?_
  refine Cd.ret ?_
  refine ret1_b rfl ?_
  exact ⟨by rw [decide_eq_true (by omega)], rfl⟩

theorem l11Word_c (letters : Int) (A : Option Addr) (n c : Nat) (ws : List Int) (w : World) (hR : RdI w A n ws) (hlt : 0 ≤ letters ∧ letters ≤ 1000) (hn : n ≤ 64) (hw : ∀ x ∈ ws, 0 ≤ x ∧ x < letters) :
  Ret Tryz.prog 221 [.int .i64 letters, .slice A n c] w (fun v w' => v = .bool true ∧ w' = w) := by
 have hll := hR.1
 refine Ret.of_cd Tryz.func221 rfl Tryz.ntmps221 rfl (post1 rfl) ?_
 refine Cd.seq ?_
 refine Cd.region ?_
 refine Ops.mv_bool rfl rfl rfl ?_
 refine Ops.nil ?_
 refine thenQ_n ?_
 refine Cd.seq ?_
 refine Cd.seq ?_
 refine Cd.region ?_
 refine Ops.mv_int rfl rfl rfl ?_
 refine Ops.nil ?_
 refine thenQ_n ?_
 refine Cd.block ?_
 refine Cd.loop (α := Nat) (fun i => [(0, .int .i64 letters), (1, .slice A n c), (5, .int .i64 (i : Int))]) (fun i w' => w' = w ∧ i ≤ n) (fun i => n - i) 0 ⟨rfl, rfl, rfl, trivial⟩ ⟨rfl, Nat.zero_le _⟩ ?_
 rintro i e w1 ⟨rfl, hi⟩
 refine Cd.seq ?_
 refine Cd.seq ?_
 refine Cd.region ?_
 refine Ops.mv_int rfl rfl rfl ?_
 refine Ops.mv_sl rfl rfl rfl ?_
 refine Ops.len rfl rfl ?_
 refine Ops.lss rfl rfl rfl ?_
 refine Ops.nil ?_
 refine thenQ_n ?_
 refine Cd.cond_p _ rfl (fun h1 => ?_) (fun h1 => ?_)
 ·have hx := hw (gi ws (i : Int)) (by rw [gi_mem (by omega)]; exact List.getElem_mem _)
  refine Cd.skip ?_
  refine thenQ_n ?_
  refine Cd.seq ?_
  refine Cd.block ?_
  refine Cd.seq ?_
  refine Cd.region ?_
  refine Ops.mv_sl rfl rfl rfl ?_
  refine Ops.mv_int rfl rfl rfl ?_
  refine Ops.idx hR.2 rfl rfl rfl (by omega) (by omega) ?_
  refine Ops.ld_int hR rfl (by omega) rfl rfl ?_
  refine Ops.mv_int rfl rfl rfl ?_
  refine Ops.sub rfl rfl rfl (by omega) ?_
  refine Ops.call (l01In_c _ _ _ _) rfl rfl rfl ?_
  rintro _ w2 ⟨rfl, rfl⟩
  first | refine Ops.not_p rfl rfl ?_ | refine Ops.not rfl rfl ?_
  refine Ops.nil ?_
  refine thenQ_n ?_
  refine Cd.cond_pf rfl (fun h => h (by omega)) ?_
  refine Cd.skip ?_
  refine blockQ_n ?_
  refine thenQ_n ?_
  refine Cd.region ?_
  refine Ops.mv_int rfl rfl rfl ?_
  refine Ops.add rfl rfl rfl (by omega) ?_
  refine Ops.mv_int rfl rfl rfl ?_
  refine Ops.nil ?_
  refine thenQ_n ?_
  exact ⟨i + 1, by omega, ⟨rfl, rfl, rfl, trivial⟩, rfl, by omega⟩
 ·refine Cd.exit ?_
  refine thenQ_x ?_
  refine thenQ_x ?_
  refine blockQ_x ?_
  refine thenQ_n ?_
  refine Cd.seq ?_
  refine Cd.region ?_
  refine Ops.mv_sl rfl rfl rfl ?_
  refine Ops.len rfl rfl ?_
  refine Ops.leq rfl rfl rfl ?_
  refine Ops.mv_bool rfl rfl rfl ?_
  refine Ops.nil ?_
  refine thenQ_n ?_
  refine Cd.ret ?_
  refine ret1_b rfl ?_
  exact ⟨by rw [decide_eq_true (by omega)], rfl⟩

/-- words that are words -/
def WordsOk (letters : Int) (least : Nat) (wss : List (List Int)) : Prop := wss.length ≤ 24 ∧ ∀ ws ∈ wss, least ≤ ws.length ∧ ws.length ≤ 64 ∧ ∀ x ∈ ws, 0 ≤ x ∧ x < letters
instance (letters : Int) (least : Nat) (wss : List (List Int)) : Decidable (WordsOk letters least wss) := by unfold WordsOk; exact inferInstance
theorem l11Words_c (letters : Int) (least : Nat) (A : Option Addr) (n c : Nat) (rs : List SlV) (wss : List (List Int)) (w : World) (hR : RowsI w A n rs wss) (hlt : 0 ≤ letters ∧ letters ≤ 1000) (hle : least ≤ 1) (hW : WordsOk letters least wss) :
  Ret Tryz.prog 218 [.int .i64 letters, .slice A n c, .int .i64 (least : Int)] w (fun v w' => v = .bool true ∧ w' = w) := by
 have hll := hR.len
 have hn := hW.1
 refine Ret.of_cd Tryz.func218 rfl Tryz.ntmps218 rfl (post1 rfl) ?_
 refine Cd.seq ?_
 refine Cd.region ?_
 refine Ops.mv_bool rfl rfl rfl ?_
 refine Ops.nil ?_
 refine thenQ_n ?_
 refine Cd.seq ?_
 refine Cd.seq ?_
 refine Cd.region ?_
 refine Ops.mv_int rfl rfl rfl ?_
 refine Ops.nil ?_
 refine thenQ_n ?_
 refine Cd.block ?_
 refine Cd.loop (α := Nat) (fun i => [(0, .int .i64 letters), (1, .slice A n c), (2, .int .i64 (least : Int)), (7, .int .i64 (i : Int))]) (fun i w' => w' = w ∧ i ≤ n) (fun i => n - i) 0 ⟨rfl, rfl, rfl, rfl, trivial⟩ ⟨rfl, Nat.zero_le _⟩ ?_
 rintro i e w1 ⟨rfl, hi⟩
 refine Cd.seq ?_
 refine Cd.seq ?_
 refine Cd.region ?_
 refine Ops.mv_int rfl rfl rfl ?_
 refine Ops.mv_sl rfl rfl rfl ?_
 refine Ops.len rfl rfl ?_
 refine Ops.lss rfl rfl rfl ?_
 refine Ops.nil ?_
 refine thenQ_n ?_
 refine Cd.cond_p _ rfl (fun h1 => ?_) (fun h1 => ?_)
 ·have hrow := hR.at_ (i := (i : Int)) (by omega) (by omega)
  have hx := hW.2 (gl wss (i : Int)) (by rw [gl_mem (by omega)]; exact List.getElem_mem _)
  have hrl := hrow.1
  refine Cd.skip ?_
  refine thenQ_n ?_
  refine Cd.seq ?_
  refine Cd.block ?_
  refine Cd.seq ?_
  refine Cd.region ?_
  refine Ops.mv_int rfl rfl rfl ?_
  refine Ops.mv_sl rfl rfl rfl ?_
  refine Ops.mv_int rfl rfl rfl ?_
  refine Ops.idx hR.top.2 rfl rfl rfl (by omega) (by omega) ?_
  refine Ops.ld_sl hR.top rfl (by omega) rfl rfl ?_
  skip
  refine Ops.call (l11Word_c letters _ _ _ (gl wss (i : Int)) _ hrow hlt (by omega) hx.2.2) rfl rfl rfl ?_
  rintro _ w2 ⟨rfl, rfl⟩
  first | refine Ops.not_p rfl rfl ?_ | refine Ops.not rfl rfl ?_
  refine Ops.mv_bool rfl rfl rfl ?_
  refine Ops.split 21 rfl (fun h => absurd h (by decide)) (fun _ => ?_) --f
  refine Ops.rung rfl rfl rfl ?_
  refine Ops.mv_sl rfl rfl rfl ?_
  refine Ops.rung rfl rfl rfl ?_
  refine Ops.mv_int rfl rfl rfl ?_
  refine Ops.rung rfl rfl rfl ?_
  refine Ops.idx hR.top.2 rfl rfl rfl (by omega) (by omega) ?_
  refine Ops.rung rfl rfl rfl ?_
  refine Ops.ld_sl hR.top rfl (by omega) rfl rfl ?_
  refine Ops.rung rfl rfl rfl ?_
  refine Ops.len rfl rfl ?_
  refine Ops.rung rfl rfl rfl ?_
  refine Ops.mv_int rfl rfl rfl ?_
  refine Ops.rung rfl rfl rfl ?_
  refine Ops.lss rfl rfl rfl ?_
  refine Ops.pick_f rfl rfl rfl ?_
  refine Ops.nil ?_
  refine thenQ_n ?_
  refine Cd.cond_pf rfl (by omega) ?_
  refine Cd.skip ?_
  refine blockQ_n ?_
  refine thenQ_n ?_
  refine Cd.region ?_
  refine Ops.mv_int rfl rfl rfl ?_
  refine Ops.add rfl rfl rfl (by omega) ?_
  refine Ops.mv_int rfl rfl rfl ?_
  refine Ops.nil ?_
  refine thenQ_n ?_
  exact ⟨i + 1, by omega, ⟨rfl, rfl, rfl, rfl, trivial⟩, rfl, by omega⟩
 ·refine Cd.exit ?_
  refine thenQ_x ?_
  refine thenQ_x ?_
  refine blockQ_x ?_
  refine thenQ_n ?_
  refine Cd.seq ?_
  refine Cd.region ?_
  refine Ops.mv_sl rfl rfl rfl ?_
  refine Ops.len rfl rfl ?_
  refine Ops.leq rfl rfl rfl ?_
  refine Ops.mv_bool rfl rfl rfl ?_
  refine Ops.nil ?_
  refine thenQ_n ?_
  refine Cd.ret ?_
  refine ret1_b rfl ?_
  exact ⟨by rw [decide_eq_true (by omega)], rfl⟩

theorem l11Is_c (gens : Nat) (Ar : Option Addr) (nr cr : Nat) (rsr : List SlV) (rel : List (List Int)) (w : World) (hR : RowsI w Ar nr rsr rel) (hg : 1 ≤ gens ∧ gens ≤ 5) (hW : WordsOk (gens : Int) 1 rel) :
  Ret Tryz.prog 217 [.agg #[.int .i64 (gens : Int), .slice Ar nr cr]] w (fun v w' => v = .bool true ∧ St w w' []) := by
 refine Ret.of_cd Tryz.func217 rfl Tryz.ntmps217 rfl (post1 rfl) ?_
 refine Cd.seq ?_
 refine Cd.region ?_
 refine Ops.box2 (St.refl w) rfl rfl ?_
 intro A1 w1 hS1
 refine Ops.mv_bool rfl rfl rfl ?_
 refine Ops.nil ?_
 refine thenQ_n ?_
 refine Cd.seq ?_
 refine Cd.region ?_
 refine Ops.fld (hS1.rd 0 rfl) rfl rfl rfl rfl inferInstance ?_
 refine Ops.ldf_i (hS1.rd 0 rfl) rfl rfl rfl rfl rfl ?_
 skip
 refine Ops.call (l01In_c _ _ _ _) rfl rfl rfl ?_
 rintro _ w2 ⟨rfl, rfl⟩
 refine Ops.mv_bool rfl rfl rfl ?_
 refine Ops.split_p 6 rfl (fun _ => ?_) (fun h => absurd (by omega) h) --t
 refine Ops.rung rfl rfl rfl ?_
 refine Ops.fld (hS1.rd 0 rfl) rfl rfl rfl rfl inferInstance ?_
 refine Ops.rung rfl rfl rfl ?_
 refine Ops.ldf_i (hS1.rd 0 rfl) rfl rfl rfl rfl rfl ?_
 refine Ops.rung rfl rfl rfl ?_
 refine Ops.fld (hS1.rd 0 rfl) rfl rfl rfl rfl inferInstance ?_
 refine Ops.rung rfl rfl rfl ?_
 refine Ops.ldf_s (hS1.rd 0 rfl) rfl rfl rfl rfl rfl ?_
 refine Ops.rung rfl rfl rfl ?_
 refine Ops.call (l11Words_c (gens : Int) 1 Ar nr cr rsr rel _ (hS1.oldRows hR) (by omega) (by decide) hW) rfl rfl rfl ?_
 rintro _ w2 ⟨rfl, rfl⟩
 refine Ops.pick_t rfl rfl rfl ?_
 refine Ops.mv_bool rfl rfl rfl ?_
 refine Ops.nil ?_
 refine thenQ_n ?_
 refine Cd.ret ?_
 refine ret1_b rfl ?_
 exact ⟨rfl, hS1.none⟩
theorem l11Code_c (gens : Nat) (Ar : Option Addr) (nr cr : Nat) (rsr : List SlV) (rel : List (List Int)) (w : World) (hR : RowsI w Ar nr rsr rel) (hg : 1 ≤ gens ∧ gens ≤ 5) (hW : WordsOk (gens : Int) 1 rel) :
  Ret Tryz.prog 213 [.agg #[.int .i64 (gens : Int), .slice Ar nr cr], .slice none 0 0] w (fun v w' => v = .int .i64 0 ∧ St w w' []) := by
 refine Ret.of_cd Tryz.func213 rfl Tryz.ntmps213 rfl (post1 rfl) ?_
 refine Cd.seq ?_
 refine Cd.region ?_
 refine Ops.box2 (St.refl w) rfl rfl ?_
 intro A1 w1 hS1
 refine Ops.mv_int rfl rfl rfl ?_
 refine Ops.nil ?_
 refine thenQ_n ?_
 refine Cd.seq ?_
 refine Cd.seq ?_
 refine Cd.region ?_
 refine Ops.ld_agg 1 (hS1.rd 0 rfl) rfl rfl rfl ?_
 skip
 refine Ops.call (l11Is_c gens Ar nr cr rsr rel _ (hS1.oldRows hR) hg hW) rfl rfl rfl ?_
 rintro _ w2 ⟨rfl, hst⟩
 have hS2 := hS1.later hst.below
 first | refine Ops.not_p rfl rfl ?_ | refine Ops.not rfl rfl ?_
 refine Ops.mv_bool rfl rfl rfl ?_
 refine Ops.split 8 rfl (fun h => absurd h (by decide)) (fun _ => ?_) --f
 refine Ops.rung rfl rfl rfl ?_
 refine Ops.fld (hS2.rd 0 rfl) rfl rfl rfl rfl inferInstance ?_
 refine Ops.rung rfl rfl rfl ?_
 refine Ops.ldf_i (hS2.rd 0 rfl) rfl rfl rfl rfl rfl ?_
 refine Ops.rung rfl rfl rfl ?_
 refine Ops.mv_sl rfl rfl rfl ?_
 refine Ops.rung rfl rfl rfl ?_
 refine Ops.call (l11Words_c (gens : Int) 0 none 0 0 [] [] _ (RowsI.nil _) (by omega) (by decide) ⟨by decide, fun x hx => (nomatch hx)⟩) rfl rfl rfl ?_
 rintro _ w3 ⟨rfl, rfl⟩
 refine Ops.rung rfl rfl rfl ?_
 first | refine Ops.not_p rfl rfl ?_ | refine Ops.not rfl rfl ?_
 refine Ops.pick_f rfl rfl rfl ?_
 refine Ops.nil ?_
 refine thenQ_n ?_
 refine Cd.cond_f rfl ?_
 refine Cd.skip ?_
 refine thenQ_n ?_
 refine Cd.seq ?_
 refine Cd.region ?_
 refine Ops.mv_int rfl rfl rfl ?_
 refine Ops.nil ?_
 refine thenQ_n ?_
 refine Cd.ret ?_
 refine ret1_i rfl ?_
 exact ⟨rfl, hS2.none⟩

/-- how far the open statement is -/
structure Wr4 (w0 : World) (A2 A4 : Option Addr) (gens : Nat) (Ar : Option Addr) (nr cr : Nat) (rel : List (List Int)) (S : Nat → Bool) (e : Env) (w : World) : Prop where
  f1 : e 1 = .slice none 0 0
  f2 : e 2 = .pointer A2
  f4 : e 4 = .pointer A4
  p0 : S 0 = true → e 16 = .pointer (ptrAt A2 0)
  p1 : S 1 = true → e 17 = .int .i64 (gens : Int)
  p2 : S 2 = true → e 18 = .pointer (ptrAt A2 1)
  p3 : S 3 = true → e 19 = .slice Ar nr cr
  mem : ∃ (B : Option Addr) (cB : Nat) (rsB : List SlV) (M bs : List Ck) (Ad : Option Addr), (S 4 = false → M = []) ∧ (S 4 = true → e 20 = .slice B nr cB ∧ rsB.length = nr ∧ M = mat 34 2 B nr cB rsB rel) ∧ (S 5 = true → e 21 = .agg #[.int .i64 (gens : Int), .slice B nr cB]) ∧ (S 6 = false → bs = []) ∧
    (S 6 = true → e 7 = .pointer Ad ∧ ((S 7 = false ∧ bs = [Bx 180 2 Ad [.int .i64 0, .slice none 0 0]]) ∨ (S 7 = true ∧ bs = [Bx 180 2 Ad [.int .i64 (gens : Int), .slice B nr cB]]))) ∧
    St w0 w (bs ++ (M ++ [Bx 180 2 A4 [.int .i64 0, .slice none 0 0], Bx 180 2 A2 [.int .i64 (gens : Int), .slice Ar nr cr]]))

theorem WithRelators_c (gens : Nat) (Ar : Option Addr) (nr cr : Nat) (rsr : List SlV) (rel : List (List Int)) (w : World) (hR : RowsI w Ar nr rsr rel) (hg : 1 ≤ gens ∧ gens ≤ 5) (hW : WordsOk (gens : Int) 1 rel) :
  Ret Tryz.prog 197 [.agg #[.int .i64 (gens : Int), .slice Ar nr cr], .slice none 0 0] w (fun v w' => ∃ B cB rsB, v = .tuple #[.agg #[.int .i64 (gens : Int), .slice B nr cB], .int .i64 0] ∧ rsB.length = nr ∧ St w w' (mat 34 2 B nr cB rsB rel)) := by
 have hrl := hR.len
 have h24 := hW.1
 refine Ret.of_cd Tryz.func197 rfl Tryz.ntmps197 rfl (postc2 rfl rfl) ?_
 refine Cd.seq ?_
 refine Cd.region ?_
 refine Ops.box2 (St.refl w) rfl rfl ?_
 intro A2 w1 hS1
 skip
 refine Ops.new2 hS1 rfl ?_
 intro A4 w2 hS2
 refine Ops.mv_int rfl rfl rfl ?_
 refine Ops.nil ?_
 refine thenQ_n ?_
 refine Cd.seq ?_
 refine Cd.seq ?_
 refine Cd.region ?_
 refine Ops.ld_agg 1 (hS2.rd 1 rfl) rfl rfl rfl ?_
 refine Ops.mv_sl rfl rfl rfl ?_
 refine Ops.call (l11Code_c gens Ar nr cr rsr rel _ (hS2.oldRows hR) hg hW) rfl rfl rfl ?_
 rintro _ w3 ⟨rfl, hst⟩
 have hS3 := hS2.later hst.below
 refine Ops.mv_int rfl rfl rfl ?_
 refine Ops.nil ?_
 refine thenQ_n ?_
 refine Cd.seq ?_
 refine Cd.region ?_
 refine Ops.mv_int rfl rfl rfl ?_
 refine Ops.neq rfl rfl rfl ?_
 refine Ops.nil ?_
 refine thenQ_n ?_
 refine Cd.cond_pf rfl (fun h => h rfl) ?_
 refine Cd.skip ?_
 refine thenQ_n ?_
 refine Cd.seq ?_
 refine Cd.drawS (by kernel_rfl) (by kernel_rfl) (fun S e1 w1 => Wr4 w A2 A4 gens Ar nr cr rel S e1 w1) (fun w4 hb => ⟨rfl, rfl, rfl, fun h => (nomatch h), fun h => (nomatch h), fun h => (nomatch h), fun h => (nomatch h), none, 0, [], [], [], none, fun _ => rfl, fun h => (nomatch h), fun h => (nomatch h), fun _ => rfl, fun h => (nomatch h), hS3.later hb⟩) ?_ ?_
 ·intro S k o e1 w4 hk hSk hd hcl hI
  obtain ⟨f1, f2, f4, p0, p1, p2, p3, B, cB, rsB, M, bs, Ad, m0, m1, m2, m3, m4, hT⟩ := hI
  have hRR : RowsI w4 Ar nr rsr rel := hT.oldRows hR
  have hB2 : Rd w4 A2 2 (fun j => [Value.int .i64 (gens : Int), .slice Ar nr cr].getD j undef) := (((hT.sub (List.sublist_append_right _ _)).sub (List.sublist_append_right _ _))).rd 1 rfl
  match k, hk, hSk with
  | 0, hk, hSk =>
   obtain rfl := Option.some.inj hk
   refine Ops.fld hB2 (by exact f2) rfl rfl rfl inferInstance ?_
   refine Ops.nil ?_
   exact ⟨f1, f2, f4, fun _ => rfl, p1, p2, p3, B, cB, rsB, M, bs, Ad, m0, m1, m2, m3, m4, hT⟩
  | 1, hk, hSk =>
   obtain rfl := Option.some.inj hk
   refine Ops.ldf_i hB2 (by exact p0 (deps_of hd 0 rfl)) rfl rfl rfl rfl ?_
   refine Ops.nil ?_
   exact ⟨f1, f2, f4, p0, fun _ => rfl, p2, p3, B, cB, rsB, M, bs, Ad, m0, m1, m2, m3, m4, hT⟩
  | 2, hk, hSk =>
   obtain rfl := Option.some.inj hk
   refine Ops.fld hB2 (by exact f2) rfl rfl rfl inferInstance ?_
   refine Ops.nil ?_
   exact ⟨f1, f2, f4, p0, p1, fun _ => rfl, p3, B, cB, rsB, M, bs, Ad, m0, m1, m2, m3, m4, hT⟩
  | 3, hk, hSk =>
   obtain rfl := Option.some.inj hk
   refine Ops.ldf_s hB2 (by exact p2 (deps_of hd 2 rfl)) rfl rfl rfl rfl ?_
   refine Ops.nil ?_
   exact ⟨f1, f2, f4, p0, p1, p2, fun _ => rfl, B, cB, rsB, M, bs, Ad, m0, m1, m2, m3, m4, hT⟩
  | 4, hk, hSk =>
   obtain rfl := Option.some.inj hk
   have hM := m0 hSk
   subst hM
   have n5 : S 5 = false := by
    cases h : S 5 with
    | false => rfl
    | true => rw [← hSk]; exact (deps_of (hcl 5 _ h rfl) 4 rfl).symm
   have n7 : S 7 = false := by
    cases h : S 7 with
    | false => rfl
    | true => rw [← n5]; exact (deps_of (hcl 7 _ h rfl) 5 rfl).symm
   refine Ops.call (l01Own2_c Ar nr cr rsr rel _ hRR (by omega) (fun j hj => by
    have hrow := hR.at_ (i := (j : Int)) (by omega) (by omega)
    have h1 := (hW.2 (gl rel (j : Int)) (by rw [gl_mem (by omega)]; exact List.getElem_mem _)).2.1
    have h2 := hrow.1
    have e : rg rsr (j : Int) = rsr.getD j slNil := by simp [rg]
    rw [← e]
    omega)) rfl (by exact congrArg (fun v => [v]) (p3 (deps_of hd 3 rfl))) rfl ?_
   rintro _ w5 ⟨B', c', rs', rfl, hrl', hst5⟩
   refine Ops.nil ?_
   refine ⟨f1, f2, f4, p0, p1, p2, p3, B', c', rs', _, bs, Ad, fun h => (nomatch (show true = false from h)), fun _ => ⟨rfl, hrl', rfl⟩, fun h => (nomatch n5.symm.trans h), m3, fun h => ?_, ?_⟩
   ·obtain ⟨h7, h8⟩ := m4 h
    refine ⟨h7, .inl ⟨n7, ?_⟩⟩
    rcases h8 with h8 | h8
    ·exact h8.2
    ·exact (nomatch n7.symm.trans h8.1)
   ·have h9 := hT.call hst5
    have h9 : St w w5 (mat 34 2 B' nr c' rs' rel ++ (bs ++ [Bx 180 2 A4 [.int .i64 0, .slice none 0 0], Bx 180 2 A2 [.int .i64 (gens : Int), .slice Ar nr cr]])) := h9
    exact h9.toBack
  | 5, hk, hSk =>
   obtain rfl := Option.some.inj hk
   obtain ⟨h20, hrB, hM⟩ := m1 (deps_of hd 4 rfl)
   refine Ops.bld2c (by exact inferInstance) (by exact inferInstance) rfl rfl (by exact p1 (deps_of hd 1 rfl)) (by exact h20) rfl rfl rfl ?_
   refine Ops.nil ?_
   exact ⟨f1, f2, f4, p0, p1, p2, p3, B, cB, rsB, M, bs, Ad, m0, m1, fun _ => rfl, m3, m4, hT⟩
  | 6, hk, hSk =>
   obtain rfl := Option.some.inj hk
   have hbs := m3 hSk
   subst hbs
   have n7 : S 7 = false := by
    cases h : S 7 with
    | false => rfl
    | true => rw [← hSk]; exact (deps_of (hcl 7 _ h rfl) 6 rfl).symm
   refine Ops.new2 hT rfl ?_
   intro Ae w5 hT5
   refine Ops.nil ?_
   exact ⟨f1, f2, f4, p0, p1, p2, p3, B, cB, rsB, M, [Bx 180 2 Ae [.int .i64 0, .slice none 0 0]], Ae, m0, m1, m2, fun h => (nomatch (show true = false from h)), fun _ => ⟨rfl, .inl ⟨n7, rfl⟩⟩, hT5⟩
  | 7, hk, hSk =>
   obtain rfl := Option.some.inj hk
   have hs6 := deps_of hd 6 rfl
   obtain ⟨h7, h8⟩ := m4 hs6
   rcases h8 with ⟨_, rfl⟩ | h8
   ·refine Ops.st_agg 2 0 hT rfl (by exact h7) (by exact m2 (deps_of hd 5 rfl)) rfl rfl rfl rfl ?_
    intro w5 hT5
    refine Ops.nil ?_
    exact ⟨f1, f2, f4, p0, p1, p2, p3, B, cB, rsB, M, [Bx 180 2 Ad [.int .i64 (gens : Int), .slice B nr cB]], Ad, m0, m1, m2, fun h => (nomatch hs6.symm.trans h), fun _ => ⟨h7, .inr ⟨rfl, rfl⟩⟩, hT5⟩
   ·exact (nomatch hSk.symm.trans h8.1)
  | q + 8, hk, _ => exact (nomatch hk)
 ·intro S e1 w4 hall hI
  obtain ⟨f1, f2, f4, p0, p1, p2, p3, B, cB, rsB, M, bs, Ad, m0, m1, m2, m3, m4, hT⟩ := hI
  obtain ⟨h7, h8⟩ := m4 (hall 6 (by decide))
  rcases h8 with h8 | ⟨_, rfl⟩
  ·exact (nomatch (hall 7 (by decide)).symm.trans h8.1)
  obtain ⟨_, hrB, hM⟩ := m1 (hall 4 (by decide))
  subst hM
  refine thenQ_ext (F := [(1, .slice none 0 0), (2, .pointer A2), (4, .pointer A4), (7, .pointer Ad)]) ⟨f1, f2, f4, h7, trivial⟩ ?_
  have hT := (hT : St w w4 ([Bx 180 2 Ad [.int .i64 (gens : Int), .slice B nr cB]] ++ (mat 34 2 B nr cB rsB rel ++ [Bx 180 2 A4 [.int .i64 0, .slice none 0 0], Bx 180 2 A2 [.int .i64 (gens : Int), .slice Ar nr cr]])))
  have hT2 : St w w4 ([Bx 180 2 Ad [.int .i64 (gens : Int), .slice B nr cB], Bx 180 2 A4 [.int .i64 0, .slice none 0 0], Bx 180 2 A2 [.int .i64 (gens : Int), .slice Ar nr cr]] ++ mat 34 2 B nr cB rsB rel) := hT.perm (List.Perm.cons _ (List.perm_append_comm (l₂ := [_, _])))
  refine thenQ_n ?_
  refine Cd.seq ?_
  refine Cd.seq ?_
  refine Cd.region ?_
  refine Ops.mv_int rfl rfl rfl ?_
  refine Ops.nil ?_
  refine thenQ_n ?_
  refine Cd.block ?_
  refine Cd.loop (α := Unit) (fun _ => [(1, .slice none 0 0), (4, .pointer A4), (7, .pointer Ad), (8, .int .i64 0)]) (fun _ w' => w' = w4) (fun _ => 0) () ⟨rfl, rfl, rfl, rfl, trivial⟩ rfl ?_
  rintro ⟨⟩ e w5 rfl
  refine Cd.seq ?_
  refine Cd.seq ?_
  refine Cd.region ?_
  refine Ops.mv_int rfl rfl rfl ?_
  refine Ops.mv_sl rfl rfl rfl ?_
  refine Ops.len rfl rfl ?_
  refine Ops.lss rfl rfl rfl ?_
  refine Ops.nil ?_
  refine thenQ_n ?_
  refine Cd.cond_pf rfl (by decide) ?_
  refine Cd.exit ?_
  refine thenQ_x ?_
  refine thenQ_x ?_
  refine blockQ_x ?_
  refine thenQ_n ?_
  refine Cd.seq ?_
  refine Cd.seq ?_
  refine Cd.region ?_
  refine Ops.fld (hT2.rd 0 rfl) rfl rfl rfl rfl inferInstance ?_
  refine Ops.ldf_s (hT2.rd 0 rfl) rfl rfl rfl rfl rfl ?_
  refine Ops.len rfl rfl ?_
  refine Ops.gtr rfl rfl rfl ?_
  refine Ops.nil ?_
  refine thenQ_n ?_
  refine Cd.cond_pf rfl (by omega) ?_
  refine Cd.skip ?_
  refine thenQ_n ?_
  refine Cd.seq ?_
  refine Cd.region ?_
  refine Ops.ld_agg 1 (hT2.rd 0 rfl) rfl rfl rfl ?_
  skip
  refine Ops.st_agg 2 1 hT2 rfl rfl rfl rfl rfl rfl rfl ?_
  intro w6 hT6
  refine Ops.mv_int rfl rfl rfl ?_
  refine Ops.nil ?_
  refine thenQ_n ?_
  refine Cd.ret ?_
  skip
  refine retc2_r rfl (hT6.rd 1 rfl) rfl ?_
  exact ⟨B, cB, rsB, rfl, hrB, ((hT6.sub ((List.Sublist.refl _).cons _)).sub ((List.Sublist.refl _).cons _)).sub ((List.Sublist.refl _).cons _)⟩
end Go.Proofs.YtjpkmpihmilgoaaGreat.Vc
/-
 The reference's universal polytope, walked. Conditions: as each states them.
-/
namespace Go.Proofs.YtjpkmpihmilgoaaGreat.Vc
open Go.RowKit

theorem l11Small_c (gens : Nat) (Ar : Option Addr) (nr cr : Nat) (rsr : List SlV) (rel : List (List Int)) (T : List (List Int)) (w : World) (hR : RowsI w Ar nr rsr rel) (hrel : ∀ x ∈ rel, x.length ≤ 1000000) (hnr : nr ≤ 1000000) (hp : tableP gens rel = some T) (hT0 : 0 < T.length) (hT4 : (gl T 0).length ≤ 400) :
  Ret Tryz.prog 199 [.agg #[.int .i64 (gens : Int), .slice Ar nr cr], .slice none 0 0] w (fun v w' => ∃ A c rs, v = .tuple #[.slice A T.length c, .int .i64 0] ∧ rs.length = T.length ∧ St w w' (mat 34 2 A T.length c rs T)) := by
 refine Ret.of_cd Tryz.func199 rfl Tryz.ntmps199 rfl (post2 rfl) ?_
 refine Cd.seq ?_
 refine Cd.region ?_
 refine Ops.box2 (St.refl w) rfl rfl ?_
 intro A2 w1 hS1
 refine Ops.mv_sl rfl rfl rfl ?_
 refine Ops.mv_int rfl rfl rfl ?_
 refine Ops.nil ?_
 refine thenQ_n ?_
 refine Cd.seq ?_
 refine Cd.region ?_
 refine Ops.ld_agg 1 (hS1.rd 0 rfl) rfl rfl rfl ?_
 refine Ops.mv_sl rfl rfl rfl ?_
 refine Ops.call (l11Table_c gens Ar nr cr rsr rel T _ (hS1.oldRows hR) hrel hnr hp) rfl rfl rfl ?_
 rintro _ w2 ⟨A, c, rs, rfl, hrl, hst⟩
 have hS2 := hS1.call hst
 have hRT : RowsI w2 A T.length rs T := St.rowsI hS2 rfl
 have hr0 := hRT.at_ (i := 0) (Int.le_refl _) (by omega)
 have hr1 := hr0.1
 refine Ops.mv_tup rfl rfl rfl ?_
 refine Ops.extract rfl rfl rfl ?_
 refine Ops.extract rfl rfl rfl ?_
 refine Ops.mv_sl rfl rfl rfl ?_
 refine Ops.mv_bool rfl rfl rfl ?_
 refine Ops.nil ?_
 refine thenQ_n ?_
 refine Cd.seq ?_
 refine Cd.seq ?_
 refine Cd.region ?_
 refine Ops.mv_bool rfl rfl rfl ?_
 first | refine Ops.not_p rfl rfl ?_ | refine Ops.not rfl rfl ?_
 refine Ops.mv_bool rfl rfl rfl ?_
 refine Ops.split 16 rfl (fun h => absurd h (by decide)) (fun _ => ?_) --f
 refine Ops.rung rfl rfl rfl ?_
 refine Ops.mv_sl rfl rfl rfl ?_
 refine Ops.rung rfl rfl rfl ?_
 refine Ops.idx hRT.top.2 rfl rfl rfl (by omega) (by omega) ?_
 refine Ops.rung rfl rfl rfl ?_
 refine Ops.ld_sl (i := 0) hRT.top rfl (by omega) rfl rfl ?_
 refine Ops.rung rfl rfl rfl ?_
 refine Ops.len rfl rfl ?_
 refine Ops.rung rfl rfl rfl ?_
 refine Ops.gtr rfl rfl rfl ?_
 refine Ops.pick_f rfl rfl rfl ?_
 refine Ops.nil ?_
 refine thenQ_n ?_
 refine Cd.cond_pf rfl (by omega) ?_
 refine Cd.skip ?_
 refine thenQ_n ?_
 refine Cd.seq ?_
 refine Cd.region ?_
 refine Ops.mv_sl rfl rfl rfl ?_
 refine Ops.mv_sl rfl rfl rfl ?_
 refine Ops.mv_int rfl rfl rfl ?_
 refine Ops.nil ?_
 refine thenQ_n ?_
 refine Cd.ret ?_
 refine ret2_si rfl rfl ?_
 exact ⟨A, c, rs, rfl, hrl, hS2.sub (List.sublist_append_left _ _)⟩

/-- what a diagram gives -/
structure UniOk (labels : List Int) (T : List (List Int)) : Prop where
 len : labels.length < 5
 lab : ∀ x ∈ labels, x = 0 ∨ (2 ≤ x ∧ x ≤ 32)
 words : WordsOk ((labels.length + 1 : Nat) : Int) 1 (presP labels)
 tab : tableP (labels.length + 1) (presP labels) = some T
 mani : Mani T

theorem specUniversalPolytope_c (Al : Option Addr) (nl cl : Nat) (labels : List Int) (T : List (List Int)) (w : World) (hR : RdI w Al nl labels) (hU : UniOk labels T) :
  Ret Tryz.prog 161 [.slice Al nl cl, .slice none 0 0] w (AnsX T 0 w) := by
 obtain ⟨u1, u2, u3, u4, u5⟩ := hU
 have hll := hR.1
 have hT5 := u5.1
 have hT40 := u5.2.1
 rw [hll] at u1 u3 u4
 refine Ret.of_cd Tryz.func161 rfl Tryz.ntmps161 rfl (postc2 rfl rfl) ?_
 refine Cd.seq ?_
 refine Cd.region ?_
 refine Ops.new1 (St.refl w) rfl ?_
 intro A4 w1 hS1
 refine Ops.mv_int rfl rfl rfl ?_
 refine Ops.nil ?_
 refine thenQ_n ?_
 refine Cd.seq ?_
 refine Cd.seq ?_
 refine Cd.region ?_
 refine Ops.mv_sl rfl rfl rfl ?_
 refine Ops.call (l12Is_c Al nl cl labels _ (hS1.oldI hR) u1 u2) rfl rfl rfl ?_
 rintro _ w2 ⟨rfl, rfl⟩
 first | refine Ops.not_p rfl rfl ?_ | refine Ops.not rfl rfl ?_
 refine Ops.nil ?_
 refine thenQ_n ?_
 refine Cd.cond_f rfl ?_
 refine Cd.skip ?_
 refine thenQ_n ?_
 refine Cd.seq ?_
 refine Cd.region ?_
 refine Ops.mv_sl rfl rfl rfl ?_
 refine Ops.call (l12Presentation_c Al nl cl labels _ (hS1.oldI hR) (by omega) (fun x hx => by have := u2 x hx; omega)) rfl rfl rfl ?_
 rintro _ w3 ⟨B, c, rs, rfl, hrl, hst3⟩
 have hS3 := hS1.call hst3
 have hRp : RowsI w3 B (presP labels).length rs (presP labels) := St.rowsI hS3 rfl
 have hgens : ((nl : Int) + 1) = ((nl + 1 : Nat) : Int) := by omega
 rw [hgens]
 refine Ops.mv_sl rfl rfl rfl ?_
 refine Ops.call (WithRelators_c (nl + 1) B (presP labels).length c rs (presP labels) _ hRp (by omega) u3) rfl rfl rfl ?_
 rintro _ w4 ⟨B2, c2, rs2, rfl, hrl2, hst4⟩
 have hS4 := hS3.call hst4
 refine Ops.mv_tup rfl rfl rfl ?_
 refine Ops.extract rfl rfl rfl ?_
 refine Ops.extract rfl rfl rfl ?_
 refine Ops.new2 hS4 rfl ?_
 intro A6 w5 hS5
 skip
 refine Ops.st_agg 2 0 hS5 rfl rfl rfl rfl rfl rfl rfl ?_
 intro w6 hS6
 have hS6 : St w w6 (Bx 180 2 A6 [.int .i64 ((nl + 1 : Nat) : Int), .slice B2 (presP labels).length c2] :: (mat 34 2 B2 (presP labels).length c2 rs2 (presP labels) ++ (mat 34 2 B (presP labels).length c rs (presP labels) ++ [Bx 32 1 A4 [.slice none 0 0]]))) := hS6
 have hRq : RowsI w6 B2 (presP labels).length rs2 (presP labels) := St.rowsI hS6.tail rfl
 refine Ops.mv_int rfl rfl rfl ?_
 refine Ops.nil ?_
 refine thenQ_n ?_
 refine Cd.seq ?_
 refine Cd.seq ?_
 refine Cd.region ?_
 refine Ops.mv_int rfl rfl rfl ?_
 refine Ops.neq rfl rfl rfl ?_
 refine Ops.nil ?_
 refine thenQ_n ?_
 refine Cd.cond_pf rfl (fun h => h rfl) ?_
 refine Cd.skip ?_
 refine thenQ_n ?_
 refine Cd.seq ?_
 refine Cd.region ?_
 refine Ops.ld_agg 1 (hS6.rd 0 rfl) rfl rfl rfl ?_
 skip
 refine Ops.call (l11Small_c (nl + 1) B2 (presP labels).length c2 rs2 (presP labels) T _ hRq (fun x hx => by have := (u3.2 x hx).2.1; omega) (by have := u3.1; omega) u4 (by omega) (by omega)) rfl rfl rfl ?_
 rintro _ w7 ⟨A, cA, rsA, rfl, hrlA, hst7⟩
 have hS7 := hS6.call hst7
 have hRT : RowsI w7 A T.length rsA T := St.rowsI hS7 rfl
 have hr0 := hRT.at_ (i := 0) (Int.le_refl _) (by omega)
 have hr1 := hr0.1
 refine Ops.mv_tup rfl rfl rfl ?_
 refine Ops.extract rfl rfl rfl ?_
 refine Ops.extract rfl rfl rfl ?_
 refine Ops.mv_sl rfl rfl rfl ?_
 refine Ops.mv_int rfl rfl rfl ?_
 refine Ops.nil ?_
 refine thenQ_n ?_
 refine Cd.seq ?_
 refine Cd.seq ?_
 refine Cd.region ?_
 refine Ops.mv_int rfl rfl rfl ?_
 refine Ops.neq rfl rfl rfl ?_
 refine Ops.mv_bool rfl rfl rfl ?_
 refine Ops.split_p 33 rfl (fun h => absurd rfl h) (fun _ => ?_) --f
 refine Ops.rung rfl rfl rfl ?_
 refine Ops.mv_sl rfl rfl rfl ?_
 refine Ops.rung rfl rfl rfl ?_
 refine Ops.idx hRT.top.2 rfl rfl rfl (by omega) (by omega) ?_
 refine Ops.rung rfl rfl rfl ?_
 refine Ops.ld_sl (i := 0) hRT.top rfl (by omega) rfl rfl ?_
 refine Ops.rung rfl rfl rfl ?_
 refine Ops.len rfl rfl ?_
 refine Ops.rung rfl rfl rfl ?_
 refine Ops.gtr rfl rfl rfl ?_
 refine Ops.pick_f rfl rfl rfl ?_
 refine Ops.nil ?_
 refine thenQ_n ?_
 refine Cd.cond_pf rfl (by omega) ?_
 refine Cd.skip ?_
 refine thenQ_n ?_
 refine Cd.seq ?_
 refine Cd.region ?_
 refine Ops.mv_sl rfl rfl rfl ?_
 refine Ops.bld1 (by exact inferInstance) rfl rfl rfl rfl ?_
 refine Ops.new1 hS7 rfl ?_
 intro A10 w8 hS8
 skip
 refine Ops.st_agg 1 0 hS8 rfl rfl rfl rfl rfl rfl rfl ?_
 intro w9 hS9
 have hS9 : St w w9 (Bx 32 1 A10 [.slice A T.length cA] :: (mat 34 2 A T.length cA rsA T ++ (Bx 180 2 A6 [.int .i64 ((nl + 1 : Nat) : Int), .slice B2 (presP labels).length c2] :: (mat 34 2 B2 (presP labels).length c2 rs2 (presP labels) ++ (mat 34 2 B (presP labels).length c rs (presP labels) ++ [Bx 32 1 A4 [.slice none 0 0]]))))) := hS9
 have hRT9 : RowsI w9 A T.length rsA T := St.rowsI hS9.tail rfl
 refine Ops.nil ?_
 refine thenQ_n ?_
 refine Cd.seq ?_
 refine Cd.seq ?_
 refine Cd.region ?_
 refine Ops.ld_agg 0 (hS9.rd 0 rfl) rfl rfl rfl ?_
 refine Ops.call (l02Is_c A T.length cA rsA T _ hRT9 (by omega)) rfl rfl rfl ?_
 rintro _ w10 ⟨rfl, hst10⟩
 have hS10 := hS9.later hst10.below
 have hS11 : St w w10 ([Bx 32 1 A10 [.slice A T.length cA], Bx 32 1 A4 [.slice none 0 0]] ++ mat 34 2 A T.length cA rsA T) := by
  have h1 : St w w10 (Bx 32 1 A10 [.slice A T.length cA] :: (mat 34 2 A T.length cA rsA T ++ [Bx 32 1 A4 [.slice none 0 0]])) :=
   hS10.sub (List.Sublist.cons_cons _ (List.Sublist.append_left (((List.sublist_append_right _ _).trans (List.sublist_append_right _ _)).cons _) _))
  exact h1.perm (List.Perm.cons _ (List.perm_append_comm (l₂ := [_])))
 first | refine Ops.not_p rfl rfl ?_ | refine Ops.not rfl rfl ?_
 refine Ops.nil ?_
 refine thenQ_n ?_
 refine Cd.cond_pf rfl (fun h => h u5) ?_
 refine Cd.skip ?_
 refine thenQ_n ?_
 refine Cd.seq ?_
 refine Cd.region ?_
 refine Ops.ld_agg 0 (hS11.rd 0 rfl) rfl rfl rfl ?_
 refine Ops.st_agg 1 1 hS11 rfl rfl rfl rfl rfl rfl rfl ?_
 intro w12 hS12
 refine Ops.mv_int rfl rfl rfl ?_
 refine Ops.nil ?_
 refine thenQ_n ?_
 refine Cd.ret ?_
 skip
 refine retc2_r rfl (hS12.rd 1 rfl) rfl ?_
 exact ⟨A, cA, rsA, rfl, hrlA, (hS12.sub ((List.Sublist.refl _).cons _)).sub ((List.Sublist.refl _).cons _)⟩
end Go.Proofs.YtjpkmpihmilgoaaGreat.Vc
/-
 Universal polytopes of small diagrams, computed. Conditions: none.
-/
namespace Go.Proofs.YtjpkmpihmilgoaaGreat.Vc
open Go.RowKit

def uniT (labels : List Int) : List (List Int) := (tableP (labels.length + 1) (presP labels)).getD []
def uniB (labels : List Int) : Bool := decide (labels.length < 5) && decide (∀ x ∈ labels, x = 0 ∨ (2 ≤ x ∧ x ≤ 32)) && decide (WordsOk ((labels.length + 1 : Nat) : Int) 1 (presP labels)) && (tableP (labels.length + 1) (presP labels)).isSome && decide (Mani (uniT labels))
theorem uniOk {labels : List Int} (h : uniB labels = true) : UniOk labels (uniT labels) := by
 simp only [uniB, Bool.and_eq_true, decide_eq_true_eq] at h
 obtain ⟨⟨⟨⟨h1, h2⟩, h3⟩, h4⟩, h5⟩ := h
 refine ⟨h1, h2, h3, ?_, h5⟩
 obtain ⟨T, hT⟩ := Option.isSome_iff_exists.1 h4
 rw [hT, uniT, hT]
 rfl
set_option maxRecDepth 100000 in
theorem uni_22 : uniB [2, 2] = true := by kernel_rfl
set_option maxRecDepth 100000 in
theorem uni_23 : uniB [2, 3] = true := by kernel_rfl
set_option maxRecDepth 100000 in
theorem uni_42 : uniB [4, 2] = true := by kernel_rfl
set_option maxRecDepth 100000 in
theorem uni_52 : uniB [5, 2] = true := by kernel_rfl
set_option maxRecDepth 100000 in
theorem uni_26 : uniB [2, 6] = true := by kernel_rfl
set_option maxRecDepth 100000 in
theorem uni_33 : uniB [3, 3] = true := by kernel_rfl
set_option maxRecDepth 100000 in
theorem uni_43 : uniB [4, 3] = true := by kernel_rfl
set_option maxRecDepth 100000 in
theorem uni_34 : uniB [3, 4] = true := by kernel_rfl
end Go.Proofs.YtjpkmpihmilgoaaGreat.Vc
/-
 The draws of maniplexes, walked: solids. Conditions: as each states them.
-/
namespace Go.Proofs.YtjpkmpihmilgoaaGreat.Vc
open Go.RowKit

section
variable {P : Program} {N : Nat} {ops : Array Oper} {K : Env → World → Prop} {rest : List Oper} {e : Env} {w0 w : World} {ks : List Ck} {d : Nat} {ty : TypeId} {pos : String} {af : Array Edge}
def idxR : Nat → List SlV → List (Nat × Value)
 | _, [] => []
 | k, v :: r => (k, v.v) :: idxR (k + 1) r
theorem fill_rows : ∀ (vs : List SlV) (k : Nat) (cells : Array Value), k + vs.length ≤ cells.size → ∃ out, Instr.fill (fun i => some (i * 1, 1)) cells (idxR k vs) = some out ∧ out.size = cells.size ∧ (∀ j, j < k → out[j]? = cells[j]?) ∧ (∀ j, j < vs.length → out[k + j]? = vs[j]?.map SlV.v) ∧ (∀ j, k + vs.length ≤ j → out[j]? = cells[j]?)
 | [], k, cells, _ => ⟨cells, rfl, rfl, fun _ _ => rfl, fun j hj => absurd hj (Nat.not_lt_zero _), fun _ _ => rfl⟩
 | v :: r, k, cells, h => by
  have hk : k < cells.size := by simp at h; omega
  obtain ⟨out, h1, h2, h3, h4, h5⟩ := fill_rows r (k + 1) (cells.setIfInBounds k v.v) (by simp at h ⊢; omega)
  refine ⟨out, ?_, by rw [h2]; simp, fun j hj => ?_, fun j hj => ?_, fun j hj => ?_⟩
  ·show Instr.fill _ cells ((k, v.v) :: idxR (k + 1) r) = some out
   rw [← h1]
   simp [Instr.fill, SlV.v, Value.cells, show ¬ cells.size < k + 1 by omega]
  ·rw [h3 j (by omega), Array.getElem?_setIfInBounds, if_neg (by omega)]
  ·cases j with
   | zero => rw [Nat.add_zero, h3 k (by omega), Array.getElem?_setIfInBounds, if_pos rfl, if_pos hk]; rfl
   | succ q =>
    have := h4 q (by simpa using hj)
    rw [show k + (q + 1) = k + 1 + q by omega, this]
    rfl
  ·rw [h5 j (by simp at hj ⊢; omega), Array.getElem?_setIfInBounds, if_neg (by simp at hj; omega)]
theorem fill_litR (vs : List SlV) (cells : Array Value) (h : cells.size = vs.length) : Instr.fill (fun i => some (i * 1, 1)) cells (idxR 0 vs) = some (vs.map SlV.v).toArray := by
 obtain ⟨out, h1, h2, _, h4, _⟩ := fill_rows vs 0 cells (by omega)
 rw [h1]
 congr 1
 apply Array.ext'
 apply List.ext_getElem?
 intro j
 by_cases hj : j < vs.length
 ·have := h4 j hj
  rw [Nat.zero_add] at this
  simpa using this
 ·rw [List.getElem?_eq_none (by simpa [h2, h] using hj), List.getElem?_eq_none (by simpa using hj)]
theorem Ops.bsLR {t el : TypeId} {z : Value} {b n : Nat} [Und P t (.slice el)] [Inf P el z 1 b] {ps : Array (Nat × Operand)} (vs : List SlV) (hS : St w0 w ks) (hv : (ps.toList.map fun p => (p.1, ev e p.2)) = idxR 0 vs) (hn : vs.length = n) (hn0 : n ≠ 0) (hn1 : n ≤ 1000) (hz : z.cells = #[z]) (hb : Nat.blt d N = true)
    (hK : ∀ A w', St w0 w' (CkR el A n n vs :: ks) → Ops P N ops K rest (upd e d (.slice A n n)) w') : Ops P N ops K (⟨some d, .buildSlice t n ps, ty, pos, af, none⟩ :: rest) e w := by
  subst hn
  obtain ⟨inf, hi, hz0, hs, hby⟩ := Inf.get P el
  have hA := hS.alloc (vs.map SlV.v) el (by simp [maxLen]; omega) (isM_R _)
  refine .val (w' := w.alloc (.cells (vs.map SlV.v).toArray el)) ?_ hb (hK _ _ (by simpa [CkR] using hA))
  have hf := fill_litR vs ((Array.range (vs.length * 1)).map ((#[z] : Array Value)[· % (#[z] : Array Value).size]!)) (by simp)
  have hv' : (ps.map fun p => (p.1, ev e p.2)).toList = idxR 0 vs := by rw [Array.toList_map]; exact hv
  have h24 : ¬ 16777216 < vs.length := by omega
  simp only [Nat.mul_one] at hf
  simp [execOp, Instr.buildSlice, run_underlying (Und.out (P := P) (t := t)), sizeOf, typeInfo, zeroValue, hi, hs, hz0, hz, newRow, hv, h24, hn0]
  simp at hf
  simp [hf]
end
theorem Mani.bound {xss : List (List Int)} (h : Mani xss) : xss.length ≤ 6 ∧ ∀ p ∈ xss, p.length ≤ 20001 ∧ ∀ x ∈ p, -1 ≤ x ∧ x ≤ 20001 := by
 obtain ⟨h1, h2, h3, _⟩ := h
 refine ⟨by omega, fun p hp => ?_⟩
 obtain ⟨q1, q2, _⟩ := h3 p hp
 obtain ⟨q3, q4, _⟩ := q2
 exact ⟨by omega, fun x hx => by have := q4 x hx; omega⟩

theorem uni_at : ∀ r : Nat, r < 8 → UniOk (gl [[3, 3], [3, 3], [4, 3], [3, 4], [2, 3], [4, 2], [5, 2], [2, 6]] (r : Int)) (uniT (gl [[3, 3], [3, 3], [4, 3], [3, 4], [2, 3], [4, 2], [5, 2], [2, 6]] (r : Int)))
 | 0, _ => uniOk uni_33
 | 1, _ => uniOk uni_33
 | 2, _ => uniOk uni_43
 | 3, _ => uniOk uni_34
 | 4, _ => uniOk uni_23
 | 5, _ => uniOk uni_42
 | 6, _ => uniOk uni_52
 | 7, _ => uniOk uni_26
 | r + 8, h => absurd h (by omega)

theorem l14DrawSolid_c {w0 w : World} {ks : List Ck} (ix : Nat) {As : Option Addr} {k : Ck} (most : Nat) (hS : St w0 w ks) (hk : ks[ix]? = some k) (hK : srcK w0 As k) (hm : 8 ≤ most ∧ most ≤ 1000) :
  Ret Tryz.prog 121 [.pointer As, .int .i64 (most : Int)] w (AnsS w0 ks ix As) := by
 refine Ret.of_cd Tryz.func121 rfl Tryz.ntmps121 rfl (postc rfl rfl) ?_
 refine Cd.seq ?_
 refine Cd.region ?_
 refine Ops.new1 hS rfl ?_
 intro A4 w1 hS1
 refine Ops.nil ?_
 refine thenQ_n ?_
 refine Cd.join (α := Ck) (fun _ => [(0, .pointer As), (1, .int .i64 (most : Int)), (4, .pointer A4)]) (fun k' w' => srcK w0 As k' ∧ St w0 w' (Bx 32 1 A4 [.slice none 0 0] :: ks.set ix k')) ?_ ?_
 ·refine Cd.seq ?_
  refine Cd.region ?_
  refine Ops.mv_ptr rfl rfl rfl ?_
  refine Ops.call (srcNext_c (ix + 1) 4 hS1 (by exact hk) hK) rfl rfl rfl ?_
  rintro _ w2 ⟨r, k1, rfl, hr, hK1, hS2⟩
  have hS2 : St w0 w2 (Bx 32 1 A4 [.slice none 0 0] :: ks.set ix k1) := hS2
  have hk1 := setK_get (k' := k1) hk
  refine Ops.nil ?_
  refine thenQ_n ?_
  refine Cd.block ?_
  refine Cd.seq ?_
  refine Cd.region ?_
  refine Ops.eql rfl rfl rfl ?_
  refine Ops.mv_bool rfl rfl rfl ?_
  refine Ops.nil ?_
  refine thenQ_n ?_
  refine Cd.cond_p _ rfl (fun h1 => ?_) (fun h1 => ?_)
  ·refine Cd.seq ?_
   refine Cd.region ?_
   refine Ops.bsL [3, 3] hS2 rfl rfl (by decide) (by decide) rfl rfl ?_
   intro L0 v0 hL0
   skip
   refine Ops.bsL [3, 3] hL0 rfl rfl (by decide) (by decide) rfl rfl ?_
   intro L1 v1 hL1
   skip
   refine Ops.bsL [4, 3] hL1 rfl rfl (by decide) (by decide) rfl rfl ?_
   intro L2 v2 hL2
   skip
   refine Ops.bsL [3, 4] hL2 rfl rfl (by decide) (by decide) rfl rfl ?_
   intro L3 v3 hL3
   skip
   refine Ops.bsL [2, 3] hL3 rfl rfl (by decide) (by decide) rfl rfl ?_
   intro L4 v4 hL4
   skip
   refine Ops.bsL [4, 2] hL4 rfl rfl (by decide) (by decide) rfl rfl ?_
   intro L5 v5 hL5
   skip
   refine Ops.bsL [5, 2] hL5 rfl rfl (by decide) (by decide) rfl rfl ?_
   intro L6 v6 hL6
   skip
   refine Ops.bsL [2, 6] hL6 rfl rfl (by decide) (by decide) rfl rfl ?_
   intro L7 v7 hL7
   skip
   refine Ops.bsLR [⟨L0, 2, 2⟩, ⟨L1, 2, 2⟩, ⟨L2, 2, 2⟩, ⟨L3, 2, 2⟩, ⟨L4, 2, 2⟩, ⟨L5, 2, 2⟩, ⟨L6, 2, 2⟩, ⟨L7, 2, 2⟩] hL7 rfl rfl (by decide) (by decide) rfl rfl ?_
   intro A27 w3 hS3
   refine Ops.mv_ptr rfl rfl rfl ?_
   refine Ops.call (srcNext_c (ix + 10) 8 hS3 (by exact hk1) hK1) rfl rfl rfl ?_
   rintro _ w4 ⟨g, k2, rfl, hg, hK2, hS4⟩
   obtain ⟨q, rfl⟩ : ∃ q : Nat, g = q := ⟨g.toNat, by omega⟩
   have hq : q < 8 := by omega
   have hrow : RdI w4 (rg [⟨L0, 2, 2⟩, ⟨L1, 2, 2⟩, ⟨L2, 2, 2⟩, ⟨L3, 2, 2⟩, ⟨L4, 2, 2⟩, ⟨L5, 2, 2⟩, ⟨L6, 2, 2⟩, ⟨L7, 2, 2⟩] (q : Int)).a (rg [⟨L0, 2, 2⟩, ⟨L1, 2, 2⟩, ⟨L2, 2, 2⟩, ⟨L3, 2, 2⟩, ⟨L4, 2, 2⟩, ⟨L5, 2, 2⟩, ⟨L6, 2, 2⟩, ⟨L7, 2, 2⟩] (q : Int)).n (gl [[3, 3], [3, 3], [4, 3], [3, 4], [2, 3], [4, 2], [5, 2], [2, 6]] (q : Int)) := by
    rcases (by omega : q = 0 ∨ q = 1 ∨ q = 2 ∨ q = 3 ∨ q = 4 ∨ q = 5 ∨ q = 6 ∨ q = 7) with rfl | rfl | rfl | rfl | rfl | rfl | rfl | rfl
    ·exact hS4.rdI 8 rfl
    ·exact hS4.rdI 7 rfl
    ·exact hS4.rdI 6 rfl
    ·exact hS4.rdI 5 rfl
    ·exact hS4.rdI 4 rfl
    ·exact hS4.rdI 3 rfl
    ·exact hS4.rdI 2 rfl
    ·exact hS4.rdI 1 rfl
   have hU := uni_at q hq
   skip
   refine Ops.idx (hS4.rd 0 rfl) rfl rfl rfl (by omega) (by show (q : Int) < (8 : Int); omega) ?_
   refine Ops.ld_sl (i := (q : Int)) (hS4.rdR 0 rfl) rfl (by show (q : Int).toNat < 8; omega) rfl rfl ?_
   have hS5 : St w0 w4 (Bx 32 1 A4 [.slice none 0 0] :: (ks.set ix k1).set ix k2) := hS4.tail.tail.tail.tail.tail.tail.tail.tail.tail
   rw [List.set_set] at hS5
   generalize uniT (gl [[3, 3], [3, 3], [4, 3], [3, 4], [2, 3], [4, 2], [5, 2], [2, 6]] (q : Int)) = T at hU
   generalize gl [[3, 3], [3, 3], [4, 3], [3, 4], [2, 3], [4, 2], [5, 2], [2, 6]] (q : Int) = L at hU hrow
   generalize rg [⟨L0, 2, 2⟩, ⟨L1, 2, 2⟩, ⟨L2, 2, 2⟩, ⟨L3, 2, 2⟩, ⟨L4, 2, 2⟩, ⟨L5, 2, 2⟩, ⟨L6, 2, 2⟩, ⟨L7, 2, 2⟩] (q : Int) = sl at hrow
   obtain ⟨La, ln, lc⟩ := sl
   refine Ops.mv_sl rfl rfl rfl ?_
   refine Ops.nil ?_
   refine thenQ_n ?_
   refine Cd.seq ?_
   refine Cd.region ?_
   refine Ops.mv_sl rfl rfl rfl ?_
   refine Ops.call (specUniversalPolytope_c La ln lc L T w4 hrow hU) rfl rfl rfl ?_
   rintro _ w5 ⟨A, c, rs, rfl, hrl, hT⟩
   have hMa := hU.mani
   have hS6 : St w0 w5 (Bx 32 1 A4 [.slice none 0 0] :: (mat 34 2 A T.length c rs T ++ ks.set ix k2)) := (hS5.call hT).perm List.perm_middle
   have hcap : T.length ≤ c ∧ c ≤ 9223372036854775807 := hS6.cap 1 rfl
   refine Ops.mv_tup rfl rfl rfl ?_
   refine Ops.extract rfl rfl rfl ?_
   refine Ops.extract rfl rfl rfl ?_
   refine Ops.new1 hS6 rfl ?_
   intro A6 w6 hS7
   skip
   refine Ops.st_agg 1 0 hS7 rfl rfl rfl rfl rfl rfl rfl ?_
   intro w7 hS8
   have hS8 : St w0 w7 (Bx 32 1 A6 [.slice A T.length c] :: Bx 32 1 A4 [.slice none 0 0] :: (mat 34 2 A T.length c rs T ++ ks.set ix k2)) := hS8
   have hM1 := hMa.1
   refine Ops.mv_int rfl rfl rfl ?_
   refine Ops.nil ?_
   refine thenQ_n ?_
   refine Cd.seq ?_
   refine Cd.region ?_
   refine Ops.mv_int rfl rfl rfl ?_
   refine Ops.eql rfl rfl rfl ?_
   refine Ops.mv_bool rfl rfl rfl ?_
   refine Ops.split_p 39 rfl (fun h2 => ?_) (fun h2 => ?_)
   ·refine Ops.rung rfl rfl rfl ?_
    refine Ops.ld_agg 0 (hS8.rd 0 rfl) rfl rfl rfl ?_
    refine Ops.rung rfl rfl rfl ?_
    refine Ops.call (l02Flags_c A T.length c rs T w7 (St.rowsI hS8.tail.tail rfl) (by omega)) rfl rfl rfl ?_
    rintro _ w8 ⟨rfl, hT'⟩
    have hS9 := hS8.later hT'.below
    refine Ops.rung rfl rfl rfl ?_
    refine Ops.mv_int rfl rfl rfl ?_
    refine Ops.rung rfl rfl rfl ?_
    refine Ops.leq rfl rfl rfl ?_
    refine Ops.pick_t rfl rfl rfl ?_
    refine Ops.nil ?_
    refine thenQ_n ?_
    refine Cd.cond_p _ rfl (fun h3 => ?_) (fun h3 => ?_)
    ·refine Cd.seq ?_
     refine Cd.region ?_
     refine Ops.ld_agg 0 (hS9.rd 0 rfl) rfl rfl rfl ?_
     skip
     refine Ops.st_agg 1 1 hS9 rfl rfl rfl rfl rfl rfl rfl ?_
     intro w9 hS10
     refine Ops.nil ?_
     refine thenQ_n ?_
     refine Cd.ret ?_
     refine blockQ_r ?_
     refine thenQ_r ?_
     skip
     refine retc_r rfl (hS10.rd 1 rfl) ?_
     exact ⟨T.length, A, c, rs, T, _, k2, rfl, hMa.bound.1, hcap, hMa.bound.2, hK2, fun w'' Y h => St.rowsI h rfl, hS10.tail.tail⟩
    ·refine Cd.skip ?_
     refine blockQ_n ?_
     refine thenQ_n ?_
     exact ⟨k2, ⟨rfl, rfl, rfl, trivial⟩, hK2, hS9.tail.sub (List.Sublist.cons_cons _ (List.sublist_append_right _ _))⟩
   ·exact absurd rfl h2 --x
  ·refine Cd.seq ?_
   refine Cd.region ?_
   refine Ops.eql rfl rfl rfl ?_
   refine Ops.mv_bool rfl rfl rfl ?_
   refine Ops.nil ?_
   refine thenQ_n ?_
   refine Cd.cond_p _ rfl (fun h2 => ?_) (fun h2 => ?_)
   ·refine Cd.seq ?_
    refine Cd.region ?_
    refine Ops.mv_ptr rfl rfl rfl ?_
    refine Ops.mv_int rfl rfl rfl ?_
    refine Ops.quo rfl rfl rfl (by omega) ?_
    skip
    refine Ops.minI rfl rfl rfl ?_
    skip
    refine Ops.call (l14DrawRotation_c (ix + 1) _ hS2 (by exact hk1) hK1 (by omega)) rfl rfl rfl ?_
    rintro _ w3 ⟨Ar, nr, cr, ps, k2, rfl, hnr, hps, hK2, hS3⟩
    have hS3 : St w0 w3 (CkI 2 Ar nr cr ps :: Bx 32 1 A4 [.slice none 0 0] :: (ks.set ix k1).set ix k2) := hS3
    rw [List.set_set] at hS3
    refine Ops.mv_sl rfl rfl rfl ?_
    refine Ops.nil ?_
    refine thenQ_n ?_
    refine Cd.seq ?_
    refine Cd.region ?_
    refine Ops.mv_sl rfl rfl rfl ?_
    refine Ops.call (MapOfRotation_c Ar nr cr ps w3 (hS3.rdI 0 rfl) (by omega)) rfl rfl rfl ?_
    rintro _ w4 ⟨n, A, c, rs, xss, code, rfl, hn, hrl, hxl, hb, hT⟩
    have hS4 : St w0 w4 (Bx 32 1 A4 [.slice none 0 0] :: (mat 34 2 A n c rs xss ++ ks.set ix k2)) := ((hS3.tail).call hT).perm (List.perm_middle (l₁ := mat 34 2 A n c rs xss))
    have hcap : n ≤ c ∧ c ≤ 9223372036854775807 := hS4.cap 1 rfl
    refine Ops.mv_tup rfl rfl rfl ?_
    refine Ops.extract rfl rfl rfl ?_
    refine Ops.extract rfl rfl rfl ?_
    refine Ops.new1 hS4 rfl ?_
    intro A9 w5 hS5
    skip
    refine Ops.st_agg 1 0 hS5 rfl rfl rfl rfl rfl rfl rfl ?_
    intro w6 hS6
    have hS6 : St w0 w6 (Bx 32 1 A9 [.slice A n c] :: Bx 32 1 A4 [.slice none 0 0] :: (mat 34 2 A n c rs xss ++ ks.set ix k2)) := hS6
    refine Ops.mv_int rfl rfl rfl ?_
    refine Ops.nil ?_
    refine thenQ_n ?_
    refine Cd.seq ?_
    refine Cd.region ?_
    refine Ops.mv_int rfl rfl rfl ?_
    refine Ops.eql rfl rfl rfl ?_
    refine Ops.nil ?_
    refine thenQ_n ?_
    refine Cd.cond_p _ rfl (fun h3 => ?_) (fun h3 => ?_)
    ·refine Cd.seq ?_
     refine Cd.region ?_
     refine Ops.ld_agg 0 (hS6.rd 0 rfl) rfl rfl rfl ?_
     skip
     refine Ops.st_agg 1 1 hS6 rfl rfl rfl rfl rfl rfl rfl ?_
     intro w7 hS7
     refine Ops.nil ?_
     refine thenQ_n ?_
     refine Cd.ret ?_
     refine blockQ_r ?_
     refine thenQ_r ?_
     skip
     refine retc_r rfl (hS7.rd 1 rfl) ?_
     exact ⟨n, A, c, rs, xss, _, k2, rfl, hn, hcap, hb, hK2, fun w'' Y h => St.rowsI h hxl, hS7.tail.tail⟩
    ·refine Cd.skip ?_
     refine blockQ_n ?_
     refine thenQ_n ?_
     exact ⟨k2, ⟨rfl, rfl, rfl, trivial⟩, hK2, hS6.tail.sub (List.Sublist.cons_cons _ (List.sublist_append_right _ _))⟩
   ·refine Cd.skip ?_
    refine blockQ_n ?_
    refine thenQ_n ?_
    exact ⟨k1, ⟨rfl, rfl, rfl, trivial⟩, hK1, hS2⟩
 ·rintro k1 e w2 ⟨hK1, hS2⟩
  refine Cd.seq ?_
  refine Cd.seq ?_
  refine Cd.region ?_
  refine Ops.mv_int rfl rfl rfl ?_
  refine Ops.nil ?_
  refine thenQ_n ?_
  refine Cd.block ?_
  refine Cd.loop (α := Nat × Ck) (fun s => [(0, .pointer As), (1, .int .i64 (most : Int)), (4, .pointer A4), (11, .int .i64 (s.1 : Int))]) (fun s w' => srcK w0 As s.2 ∧ s.1 ≤ 20 ∧ St w0 w' (Bx 32 1 A4 [.slice none 0 0] :: ks.set ix s.2)) (fun s => 20 - s.1) (0, k1) ⟨rfl, rfl, rfl, rfl, trivial⟩ ⟨hK1, Nat.zero_le _, hS2⟩ ?_
  rintro ⟨i, k2⟩ e w3 ⟨hK2, hi, hS3⟩
  dsimp only at hK2 hi hS3 ⊢
  have hk2 := setK_get (k' := k2) hk
  refine Cd.seq ?_
  refine Cd.seq ?_
  refine Cd.region ?_
  refine Ops.mv_int rfl rfl rfl ?_
  refine Ops.lss rfl rfl rfl ?_
  refine Ops.nil ?_
  refine thenQ_n ?_
  refine Cd.cond_p _ rfl (fun h1 => ?_) (fun h1 => ?_)
  ·refine Cd.skip ?_
   refine thenQ_n ?_
   refine Cd.seq ?_
   refine Cd.block ?_
   refine Cd.seq ?_
   refine Cd.region ?_
   refine Ops.mv_ptr rfl rfl rfl ?_
   refine Ops.mv_int rfl rfl rfl ?_
   refine Ops.call (l02Draw_c (ix + 1) most hS3 (by exact hk2) hK2 hm) rfl rfl rfl ?_
   rintro _ w4 ⟨n, N, A, c, rs, xss, k3, rfl, hn, hN, hrl, hxl, hG, hK3, hS4⟩
   have hS4 : St w0 w4 (mat 34 2 A n c rs xss ++ (Bx 32 1 A4 [.slice none 0 0] :: (ks.set ix k2).set ix k3)) := hS4
   rw [List.set_set] at hS4
   have hS4 : St w0 w4 (Bx 32 1 A4 [.slice none 0 0] :: (mat 34 2 A n c rs xss ++ ks.set ix k3)) := hS4.perm List.perm_middle
   have hcap : n ≤ c ∧ c ≤ 9223372036854775807 := hS4.cap 1 rfl
   skip
   refine Ops.new1 hS4 rfl ?_
   intro A12 w5 hS5
   skip
   refine Ops.st_agg 1 0 hS5 rfl rfl rfl rfl rfl rfl rfl ?_
   intro w6 hS6
   have hS6 : St w0 w6 (Bx 32 1 A12 [.slice A n c] :: Bx 32 1 A4 [.slice none 0 0] :: (mat 34 2 A n c rs xss ++ ks.set ix k3)) := hS6
   refine Ops.nil ?_
   refine thenQ_n ?_
   refine Cd.seq ?_
   refine Cd.region ?_
   refine Ops.ld_agg 0 (hS6.rd 0 rfl) rfl rfl rfl ?_
   skip
   refine Ops.call (l14Is_c A n c rs xss w6 (St.rowsI hS6.tail.tail hxl) (by omega)) rfl rfl rfl ?_
   rintro _ w7 ⟨rfl, hT⟩
   have hS7 := hS6.later hT.below
   refine Ops.nil ?_
   refine thenQ_n ?_
   refine Cd.cond_p _ rfl (fun h2 => ?_) (fun h2 => ?_)
   ·refine Cd.seq ?_
    refine Cd.region ?_
    refine Ops.ld_agg 0 (hS7.rd 0 rfl) rfl rfl rfl ?_
    skip
    refine Ops.st_agg 1 1 hS7 rfl rfl rfl rfl rfl rfl rfl ?_
    intro w8 hS8
    refine Ops.nil ?_
    refine thenQ_n ?_
    refine Cd.ret ?_
    refine blockQ_r ?_
    refine thenQ_r ?_
    refine thenQ_r ?_
    refine blockQ_r ?_
    refine thenQ_r ?_
    skip
    refine retc_r rfl (hS8.rd 1 rfl) ?_
    exact ⟨n, A, c, rs, xss, _, k3, rfl, by omega, hcap, h2.1.bound.2, hK3, fun w'' Y h => St.rowsI h hxl, hS8.tail.tail⟩
   ·refine Cd.skip ?_
    refine blockQ_n ?_
    refine thenQ_n ?_
    refine Cd.region ?_
    refine Ops.mv_int rfl rfl rfl ?_
    refine Ops.add rfl rfl rfl (by omega) ?_
    refine Ops.mv_int rfl rfl rfl ?_
    refine Ops.nil ?_
    refine thenQ_n ?_
    exact ⟨(i + 1, k3), by show 20 - (i + 1) < 20 - i; omega, ⟨rfl, rfl, rfl, rfl, trivial⟩, hK3, by show i + 1 ≤ 20; omega, hS7.tail.sub (List.Sublist.cons_cons _ (List.sublist_append_right _ _))⟩
  ·refine Cd.exit ?_
   refine thenQ_x ?_
   refine thenQ_x ?_
   refine blockQ_x ?_
   refine thenQ_n ?_
   refine Cd.seq ?_
   refine Cd.region ?_
   refine Ops.bsL [2, 2] hS3 rfl rfl (by decide) (by decide) rfl rfl ?_
   intro A72 w4 hS4
   skip
   refine Ops.call (specUniversalPolytope_c A72 2 2 [2, 2] _ w4 (hS4.rdI 0 rfl) (uniOk uni_22)) rfl rfl rfl ?_
   rintro _ w5 ⟨A, c, rs, rfl, hrl, hT⟩
   have hMa := (uniOk uni_22).mani
   generalize uniT [2, 2] = T at hrl hT hMa
   have hS5 : St w0 w5 (Bx 32 1 A4 [.slice none 0 0] :: (mat 34 2 A T.length c rs T ++ ks.set ix k2)) := (hS4.tail.call hT).perm List.perm_middle
   have hcap : T.length ≤ c ∧ c ≤ 9223372036854775807 := hS5.cap 1 rfl
   refine Ops.mv_tup rfl rfl rfl ?_
   refine Ops.extract rfl rfl rfl ?_
   refine Ops.extract rfl rfl rfl ?_
   refine Ops.new1 hS5 rfl ?_
   intro A13 w6 hS6
   skip
   refine Ops.st_agg 1 0 hS6 rfl rfl rfl rfl rfl rfl rfl ?_
   intro w7 hS7
   refine Ops.mv_int rfl rfl rfl ?_
   refine Ops.nil ?_
   refine thenQ_n ?_
   refine Cd.seq ?_
   refine Cd.region ?_
   refine Ops.ld_agg 0 (hS7.rd 0 rfl) rfl rfl rfl ?_
   skip
   refine Ops.st_agg 1 1 hS7 rfl rfl rfl rfl rfl rfl rfl ?_
   intro w8 hS8
   refine Ops.nil ?_
   refine thenQ_n ?_
   refine Cd.ret ?_
   skip
   refine retc_r rfl (hS8.rd 1 rfl) ?_
   exact ⟨T.length, A, c, rs, T, _, k2, rfl, hMa.bound.1, hcap, hMa.bound.2, hK2, fun w'' Y h => St.rowsI h rfl, hS8.tail.tail⟩
end Go.Proofs.YtjpkmpihmilgoaaGreat.Vc
/-
 The draws of maniplexes, walked: the choice of a maniplex. Conditions: as each states them.
-/
namespace Go.Proofs.YtjpkmpihmilgoaaGreat.Vc
open Go.RowKit

theorem l14Draw_c {w0 w : World} {ks : List Ck} (ix : Nat) {As : Option Addr} {k : Ck} (most : Nat) (hS : St w0 w ks) (hk : ks[ix]? = some k) (hK : srcK w0 As k) (hm : 8 ≤ most ∧ most ≤ 1000) :
  Ret Tryz.prog 73 [.pointer As, .int .i64 (most : Int)] w (AnsS w0 ks ix As) := by
 refine Ret.of_cd Tryz.func73 rfl Tryz.ntmps73 rfl (postc rfl rfl) ?_
 refine Cd.seq ?_
 refine Cd.region ?_
 refine Ops.new1 hS rfl ?_
 intro A4 w1 hS1
 refine Ops.nil ?_
 refine thenQ_n ?_
 refine Cd.seq ?_
 refine Cd.seq ?_
 refine Cd.region ?_
 refine Ops.mv_ptr rfl rfl rfl ?_
 refine Ops.call (srcNext_c (ix + 1) 12 hS1 (by exact hk) hK) rfl rfl rfl ?_
 rintro _ w2 ⟨r, k1, rfl, hr, hK1, hS2⟩
 have hS2 : St w0 w2 (Bx 32 1 A4 [.slice none 0 0] :: ks.set ix k1) := hS2
 have hk1 := setK_get (k' := k1) hk
 refine Ops.eql rfl rfl rfl ?_
 refine Ops.nil ?_
 refine thenQ_n ?_
 refine Cd.cond_p _ rfl (fun h1 => ?_) (fun h1 => ?_)
 ·refine Cd.seq ?_
  refine Cd.region ?_
  refine Ops.mv_ptr rfl rfl rfl ?_
  refine Ops.mv_int rfl rfl rfl ?_
  refine Ops.call (l02Spoil_c (ix + 1) most hS2 (by exact hk1) hK1 hm) rfl rfl rfl ?_
  rintro _ w3 ⟨n, A, c, rs, xss, X, k2, rfl, hn, hcap, hb, hK2, hX, hS3⟩
  have hS3 : St w0 w3 (X ++ (Bx 32 1 A4 [.slice none 0 0] :: (ks.set ix k1).set ix k2)) := hS3
  rw [List.set_set] at hS3
  skip
  refine Ops.st_agg 1 0 (hS3.perm List.perm_middle) rfl rfl rfl rfl rfl rfl rfl ?_
  intro w4 hS4
  refine Ops.nil ?_
  refine thenQ_n ?_
  refine Cd.ret ?_
  refine thenQ_r ?_
  skip
  refine retc_r rfl (hS4.rd 0 rfl) ?_
  exact ⟨n, A, c, rs, xss, X, k2, rfl, hn, hcap, hb, hK2, hX, hS4.tail⟩
 ·refine Cd.skip ?_
  refine thenQ_n ?_
  refine Cd.seq ?_
  refine Cd.region ?_
  refine Ops.mv_ptr rfl rfl rfl ?_
  refine Ops.mv_int rfl rfl rfl ?_
  refine Ops.call (l14DrawSolid_c (ix + 1) most hS2 (by exact hk1) hK1 hm) rfl rfl rfl ?_
  rintro _ w3 ⟨n, A, c, rs, xss, X, k2, rfl, hn, hcap, hb, hK2, hX, hS3⟩
  have hS3 : St w0 w3 (X ++ (Bx 32 1 A4 [.slice none 0 0] :: (ks.set ix k1).set ix k2)) := hS3
  rw [List.set_set] at hS3
  skip
  refine Ops.st_agg 1 0 (hS3.perm List.perm_middle) rfl rfl rfl rfl rfl rfl rfl ?_
  intro w4 hS4
  refine Ops.nil ?_
  refine thenQ_n ?_
  refine Cd.ret ?_
  skip
  refine retc_r rfl (hS4.rd 0 rfl) ?_
  exact ⟨n, A, c, rs, xss, X, k2, rfl, hn, hcap, hb, hK2, hX, hS4.tail⟩

theorem l18Draw_c {w0 w : World} {ks : List Ck} (ix : Nat) {As : Option Addr} {k : Ck} (most : Nat) (hS : St w0 w ks) (hk : ks[ix]? = some k) (hK : srcK w0 As k) (hm : 8 ≤ most ∧ most ≤ 1000) :
  Ret Tryz.prog 63 [.pointer As, .int .i64 (most : Int)] w (AnsS w0 ks ix As) := by
 refine Ret.of_cd Tryz.func63 rfl Tryz.ntmps63 rfl (postc rfl rfl) ?_
 refine Cd.seq ?_
 refine Cd.region ?_
 refine Ops.new1 hS rfl ?_
 intro A4 w1 hS1
 refine Ops.nil ?_
 refine thenQ_n ?_
 refine Cd.seq ?_
 refine Cd.seq ?_
 refine Cd.region ?_
 refine Ops.mv_ptr rfl rfl rfl ?_
 refine Ops.call (srcNext_c (ix + 1) 2 hS1 (by exact hk) hK) rfl rfl rfl ?_
 rintro _ w2 ⟨r, k1, rfl, hr, hK1, hS2⟩
 have hS2 : St w0 w2 (Bx 32 1 A4 [.slice none 0 0] :: ks.set ix k1) := hS2
 have hk1 := setK_get (k' := k1) hk
 refine Ops.eql rfl rfl rfl ?_
 refine Ops.nil ?_
 refine thenQ_n ?_
 refine Cd.cond_p _ rfl (fun h1 => ?_) (fun h1 => ?_)
 ·refine Cd.seq ?_
  refine Cd.region ?_
  refine Ops.mv_ptr rfl rfl rfl ?_
  refine Ops.mv_int rfl rfl rfl ?_
  refine Ops.call (l14Draw_c (ix + 1) most hS2 (by exact hk1) hK1 hm) rfl rfl rfl ?_
  rintro _ w3 ⟨n, A, c, rs, xss, X, k2, rfl, hn, hcap, hb, hK2, hX, hS3⟩
  have hS3 : St w0 w3 (X ++ (Bx 32 1 A4 [.slice none 0 0] :: (ks.set ix k1).set ix k2)) := hS3
  rw [List.set_set] at hS3
  skip
  refine Ops.st_agg 1 0 (hS3.perm List.perm_middle) rfl rfl rfl rfl rfl rfl rfl ?_
  intro w4 hS4
  refine Ops.nil ?_
  refine thenQ_n ?_
  refine Cd.ret ?_
  refine thenQ_r ?_
  skip
  refine retc_r rfl (hS4.rd 0 rfl) ?_
  exact ⟨n, A, c, rs, xss, X, k2, rfl, hn, hcap, hb, hK2, hX, hS4.tail⟩
 ·refine Cd.skip ?_
  refine thenQ_n ?_
  refine Cd.seq ?_
  refine Cd.region ?_
  refine Ops.mv_ptr rfl rfl rfl ?_
  refine Ops.mv_int rfl rfl rfl ?_
  refine Ops.call (l02Spoil_c (ix + 1) most hS2 (by exact hk1) hK1 hm) rfl rfl rfl ?_
  rintro _ w3 ⟨n, A, c, rs, xss, X, k2, rfl, hn, hcap, hb, hK2, hX, hS3⟩
  have hS3 : St w0 w3 (X ++ (Bx 32 1 A4 [.slice none 0 0] :: (ks.set ix k1).set ix k2)) := hS3
  rw [List.set_set] at hS3
  skip
  refine Ops.st_agg 1 0 (hS3.perm List.perm_middle) rfl rfl rfl rfl rfl rfl rfl ?_
  intro w4 hS4
  refine Ops.nil ?_
  refine thenQ_n ?_
  refine Cd.ret ?_
  skip
  refine retc_r rfl (hS4.rd 0 rfl) ?_
  exact ⟨n, A, c, rs, xss, X, k2, rfl, hn, hcap, hb, hK2, hX, hS4.tail⟩

end Go.Proofs.YtjpkmpihmilgoaaGreat.Vc
/-
 The draws of maniplexes, walked: arguments of a path. Conditions: as each states them.
-/
namespace Go.Proofs.YtjpkmpihmilgoaaGreat.Vc
open Go.RowKit
section
variable {P : Program} {N : Nat} {ops : Array Oper} {K : Env → World → Prop} {rest : List Oper} {e : Env} {w0 w w' : World} {ks : List Ck} {d : Nat} {ty : TypeId} {pos : String} {af : Array Edge}
def retc3 (a n u u2 : Nat) (R : Value → World → Prop) : Post
 | .normal, e, w => ∃ A f, e a = .pointer A ∧ Rd w A n f ∧ R (.tuple #[.agg ((List.range n).map f).toArray, e u, e u2]) w
 | .ret, e, w => ∃ A f, e a = .pointer A ∧ Rd w A n f ∧ R (.tuple #[.agg ((List.range n).map f).toArray, e u, e u2]) w
 | _, _, _ => False
theorem retc3_r {a n u u2 : Nat} {R : Value → World → Prop} {A : Option Addr} {f : Nat → Value} {v v2 : Value} (h : e a = .pointer A) (hR : Rd w A n f) (hv : e u = v) (hv2 : e u2 = v2) (h2 : R (.tuple #[.agg ((List.range n).map f).toArray, v, v2]) w) : retc3 a n u u2 R .ret e w := ⟨A, f, h, hR, by rw [hv, hv2]; exact h2⟩
theorem postc3 {fn : Func} {R : Value → World → Prop} {a t n b u u2 : Nat} {fs : Array Field} {z : Value} [Und P t (.struct fs)] [Inf P t z n b] (hr : fn.results = #[.cell a t, .tmp u, .tmp u2]) (hn' : Nat.blt 0 n = true) : ∀ x a1 e w, Rep N a1 e → retc3 a n u u2 R x e w → bodyPost P fn (fun x w' => ∃ v, x = .returned v ∧ R v w') x a1 w := by
  intro x a1 e w he q
  have hn : 0 < n := by simpa [Nat.blt_eq] using hn'
  have hg := he.get a
  have hh := he.get u
  have hh2 := he.get u2
  have key : ∀ (A : Option Addr) (f : Nat → Value), e a = .pointer A → Rd w A n f → (results fn a1.tmps).run P w = .ok (.tuple #[.agg ((List.range n).map f).toArray, e u, e u2]) w := by
    intro A f hA hR
    obtain ⟨q, rfl, hl⟩ := run_loadAgg (P := P) (t := t) hn hR
    rw [Array.getD_eq_getD_getElem?] at hg hh hh2
    simp [results, hr, hg, hh, hh2, hA, asAddr, hl]
  cases x <;> first
    | exact q.elim
    | (obtain ⟨A, f, hA, hR, h2⟩ := q
       exact ⟨he.defers, _, key A f hA hR, _, rfl, h2⟩)
end

theorem l01FromG_c (Ac : Option Addr) (nc cc : Nat) (bs : List Int) (w : World) (hY : RdY w Ac nc bs) (hnc : nc ≤ 1000000) :
  Ret Tryz.prog 44 [.slice Ac nc cc] w (fun v w' => ∃ (As : Option Addr) (k : Ck), v = .pointer As ∧ (∀ w0, RdY w0 Ac nc bs → srcK w0 As k) ∧ St w w' [k]) := by
 refine Ret.of_cd Tryz.func44 rfl Tryz.ntmps44 rfl (post1 rfl) ?_
 refine Cd.seq ?_
 refine Cd.region ?_
 refine Ops.mv_ptr rfl rfl rfl ?_
 refine Ops.nil ?_
 refine thenQ_n ?_
 refine Cd.seq ?_
 refine Cd.region ?_
 refine Ops.mv_sl rfl rfl rfl ?_
 refine Ops.mv_sl rfl rfl rfl ?_
 refine Ops.len rfl rfl ?_
 refine Ops.convK rfl rfl (wrap_u64_in _ (by omega)) ?_
 skip
 refine Ops.addW rfl rfl rfl fun r1 _ => ?_
 skip
 refine Ops.bld02 (by exact inferInstance) (by exact inferInstance) (by exact inferInstance) rfl rfl rfl rfl rfl rfl rfl rfl ?_
 refine Ops.box3' (St.refl w) rfl rfl ?_
 intro As w2 hS
 refine Ops.mv_ptr rfl rfl rfl ?_
 refine Ops.nil ?_
 refine thenQ_n ?_
 refine Cd.seq ?_
 refine Cd.seq ?_
 refine Cd.region ?_
 refine Ops.mv_int rfl rfl rfl ?_
 refine Ops.nil ?_
 refine thenQ_n ?_
 refine Cd.block ?_
 refine Cd.loop (α := Nat × Int) (fun s => [(0, .slice Ac nc cc), (3, .pointer As), (4, .int .i64 (s.1 : Int))]) (fun s w' => St w w' [Bx 109 3 As [.slice Ac nc cc, .int .i64 0, .int .u64 s.2]] ∧ s.1 ≤ nc) (fun s => nc - s.1) (0, _) ⟨rfl, rfl, rfl, trivial⟩ ⟨hS, Nat.zero_le _⟩ ?_
 rintro ⟨i, h⟩ e w3 ⟨hS1, hi⟩
 dsimp only at hS1 hi ⊢
 refine Cd.seq ?_
 refine Cd.seq ?_
 refine Cd.region ?_
 refine Ops.mv_int rfl rfl rfl ?_
 refine Ops.mv_sl rfl rfl rfl ?_
 refine Ops.len rfl rfl ?_
 refine Ops.lss rfl rfl rfl ?_
 refine Ops.mv_bool rfl rfl rfl ?_
 refine Ops.split_p 16 rfl (fun h1 => ?_) (fun h1 => ?_)
 ·skip
  refine Ops.rung rfl rfl rfl ?_
  refine Ops.mv_int rfl rfl rfl ?_
  refine Ops.rung rfl rfl rfl ?_
  refine Ops.lss rfl rfl rfl ?_
  refine Ops.pick_t rfl rfl rfl ?_
  refine Ops.nil ?_
  refine thenQ_n ?_
  refine Cd.cond_p _ rfl (fun h2 => ?_) (fun h2 => ?_)
  ·skip
   have h255 := hY.at_ (j := (i : Int)) (by omega) (by omega)
   have hY1 := hY.below hS1.below
   refine Cd.skip ?_
   refine thenQ_n ?_
   refine Cd.seq ?_
   refine Cd.block ?_
   refine Cd.drawN [15] [.ex (.pointer (As)), .ex (.pointer (As)), .ex (.pointer (As)), .ex (.pointer (ptrAt (As) 2)), .ex (.int .u64 h), .pr (fun v _ => ∃ r : Int, v = .int .u64 r), .ex (.slice (Ac) (nc) (cc)), .ex (.int .i64 ((i : Int))), .ex (.pointer (ptrAt Ac (i : Int).toNat)), .ex (.int .u8 (bs.getD (i : Int).toNat 0)), .ex (.int .u64 (bs.getD (i : Int).toNat 0)), .pr (fun v _ => ∃ r : Int, v = .int .u64 r), .pr (fun v _ => ∃ r : Int, v = .int .u64 r), .ex (.pointer (As)), .ex (.pointer (ptrAt (As) 2)), .pr (fun _ w' => ∃ r : Int, St w w' [Bx 109 3 As [.slice Ac nc cc, .int .i64 0, .int .u64 r]])] (by kernel_rfl) (by kernel_rfl) (List.forall_mem_cons.2 ⟨Yd.lasts_ex _, (List.forall_mem_cons.2 ⟨Yd.lasts_ex _, (List.forall_mem_cons.2 ⟨Yd.lasts_ex _, (List.forall_mem_cons.2 ⟨Yd.lasts_ex _, (List.forall_mem_cons.2 ⟨Yd.lasts_ex _, (List.forall_mem_cons.2 ⟨Yd.lasts_pr (fun _ _ _ h _ => h), (List.forall_mem_cons.2 ⟨Yd.lasts_ex _, (List.forall_mem_cons.2 ⟨Yd.lasts_ex _, (List.forall_mem_cons.2 ⟨Yd.lasts_ex _, (List.forall_mem_cons.2 ⟨Yd.lasts_ex _, (List.forall_mem_cons.2 ⟨Yd.lasts_ex _, (List.forall_mem_cons.2 ⟨Yd.lasts_pr (fun _ _ _ h _ => h), (List.forall_mem_cons.2 ⟨Yd.lasts_pr (fun _ _ _ h _ => h), (List.forall_mem_cons.2 ⟨Yd.lasts_ex _, (List.forall_mem_cons.2 ⟨Yd.lasts_ex _, (List.forall_mem_cons.2 ⟨Yd.lasts_pr (fun v w w' h hb => by obtain ⟨r, h⟩ := h; exact ⟨r, h.later hb⟩), (fun _ h => by cases h)⟩)⟩)⟩)⟩)⟩)⟩)⟩)⟩)⟩)⟩)⟩)⟩)⟩)⟩)⟩)⟩) ⟨?_, ?_, ?_, ?_, ?_, ?_, ?_, ?_, ?_, ?_, ?_, ?_, ?_, ?_, ?_, ?_, trivial⟩ ?_
   ·intro e1 w1 cc hlo hhi hb0 hp hun hq
    show Ops _ _ _ _ _ _ _
    refine Ops.mv_ptr rfl rfl rfl ?_
    refine Ops.nil ?_
    exact AfterN.dn rfl (Below.refl _ _) (by exact rfl)
   ·intro e1 w1 cc hlo hhi hb0 hp hun hq
    show Ops _ _ _ _ _ _ _
    refine Ops.mv_ptr rfl rfl rfl ?_
    refine Ops.nil ?_
    exact AfterN.dn rfl (Below.refl _ _) (by exact rfl)
   ·intro e1 w1 cc hlo hhi hb0 hp hun hq
    show Ops _ _ _ _ _ _ _
    replace hlo := le_of_lo hlo (b := 0) (by kernel_rfl)
    replace hhi := le_of_hi hhi (b := 0) (by kernel_rfl)
    obtain rfl : cc = 0 := by omega
    have hb := hb0 rfl
    refine Ops.nilp ((hS1.rd 0 rfl).below hb) (Nat.succ_pos _) rfl rfl ?_
    refine Ops.nil ?_
    exact AfterN.dn rfl (Below.refl _ _) (by exact rfl)
   ·intro e1 w1 cc hlo hhi hb0 hp hun hq
    show Ops _ _ _ _ _ _ _
    replace hlo := le_of_lo hlo (b := 0) (by kernel_rfl)
    replace hhi := le_of_hi hhi (b := 0) (by kernel_rfl)
    obtain rfl : cc = 0 := by omega
    have hb := hb0 rfl
    refine Ops.fld ((hS1.rd 0 rfl).below hb) rfl rfl rfl rfl inferInstance ?_
    refine Ops.nil ?_
    exact AfterN.dn rfl (Below.refl _ _) (by exact rfl)
   ·intro e1 w1 cc hlo hhi hb0 hp hun hq
    show Ops _ _ _ _ _ _ _
    replace hlo := le_of_lo hlo (b := 0) (by kernel_rfl)
    replace hhi := le_of_hi hhi (b := 0) (by kernel_rfl)
    obtain rfl : cc = 0 := by omega
    have hb := hb0 rfl
    refine Ops.ldf_i (k := .u64) ((hS1.rd 0 rfl).below hb) rfl rfl rfl rfl rfl ?_
    refine Ops.nil ?_
    exact AfterN.dn rfl (Below.refl _ _) (by exact rfl)
   ·intro e1 w1 cc hlo hhi hb0 hp hun hq
    show Ops _ _ _ _ _ _ _
    refine Ops.mulW rfl rfl rfl fun r _ => ?_
    refine Ops.nil ?_
    exact AfterN.dn rfl (Below.refl _ _) ⟨r, rfl⟩
   ·intro e1 w1 cc hlo hhi hb0 hp hun hq
    show Ops _ _ _ _ _ _ _
    refine Ops.mv_sl rfl rfl rfl ?_
    refine Ops.nil ?_
    exact AfterN.dn rfl (Below.refl _ _) (by exact rfl)
   ·intro e1 w1 cc hlo hhi hb0 hp hun hq
    show Ops _ _ _ _ _ _ _
    refine Ops.mv_int rfl rfl rfl ?_
    refine Ops.nil ?_
    exact AfterN.dn rfl (Below.refl _ _) (by exact rfl)
   ·intro e1 w1 cc hlo hhi hb0 hp hun hq
    show Ops _ _ _ _ _ _ _
    replace hlo := le_of_lo hlo (b := 0) (by kernel_rfl)
    replace hhi := le_of_hi hhi (b := 0) (by kernel_rfl)
    obtain rfl : cc = 0 := by omega
    have hb := hb0 rfl
    refine Ops.idx (hY1.below hb).2.2 rfl rfl rfl (by omega) (by omega) ?_
    refine Ops.nil ?_
    exact AfterN.dn rfl (Below.refl _ _) (by exact rfl)
   ·intro e1 w1 cc hlo hhi hb0 hp hun hq
    show Ops _ _ _ _ _ _ _
    replace hlo := le_of_lo hlo (b := 0) (by kernel_rfl)
    replace hhi := le_of_hi hhi (b := 0) (by kernel_rfl)
    obtain rfl : cc = 0 := by omega
    have hb := hb0 rfl
    refine Ops.ld_byte (hY1.below hb) rfl (by omega) rfl rfl ?_
    refine Ops.nil ?_
    exact AfterN.dn rfl (Below.refl _ _) (by exact rfl)
   ·intro e1 w1 cc hlo hhi hb0 hp hun hq
    show Ops _ _ _ _ _ _ _
    refine Ops.convK rfl rfl (wrap_u64_in _ (by omega)) ?_
    refine Ops.nil ?_
    exact AfterN.dn rfl (Below.refl _ _) (by exact rfl)
   ·intro e1 w1 cc hlo hhi hb0 hp hun hq
    show Ops _ _ _ _ _ _ _
    replace hlo := le_of_lo hlo (b := 0) (by kernel_rfl)
    replace hhi := le_of_hi hhi (b := 0) (by kernel_rfl)
    obtain rfl : cc = 0 := by omega
    have hb := hb0 rfl
    obtain ⟨r, hr⟩ := (hp 5 _ _ (by kernel_rfl) rfl rfl (by kernel_rfl))
    refine Ops.addW (by exact hr) rfl rfl fun r _ => ?_
    refine Ops.nil ?_
    exact AfterN.dn rfl (Below.refl _ _) ⟨r, rfl⟩
   ·intro e1 w1 cc hlo hhi hb0 hp hun hq
    show Ops _ _ _ _ _ _ _
    replace hlo := le_of_lo hlo (b := 0) (by kernel_rfl)
    replace hhi := le_of_hi hhi (b := 0) (by kernel_rfl)
    obtain rfl : cc = 0 := by omega
    have hb := hb0 rfl
    obtain ⟨r, hr⟩ := (hp 11 _ _ (by kernel_rfl) rfl rfl (by kernel_rfl))
    refine Ops.addW (by exact hr) rfl rfl fun r _ => ?_
    refine Ops.nil ?_
    exact AfterN.dn rfl (Below.refl _ _) ⟨r, rfl⟩
   ·intro e1 w1 cc hlo hhi hb0 hp hun hq
    show Ops _ _ _ _ _ _ _
    replace hlo := le_of_lo hlo (b := 0) (by kernel_rfl)
    replace hhi := le_of_hi hhi (b := 0) (by kernel_rfl)
    obtain rfl : cc = 0 := by omega
    have hb := hb0 rfl
    refine Ops.nilp ((hS1.rd 0 rfl).below hb) (Nat.succ_pos _) rfl rfl ?_
    refine Ops.nil ?_
    exact AfterN.dn rfl (Below.refl _ _) (by exact rfl)
   ·intro e1 w1 cc hlo hhi hb0 hp hun hq
    show Ops _ _ _ _ _ _ _
    replace hlo := le_of_lo hlo (b := 0) (by kernel_rfl)
    replace hhi := le_of_hi hhi (b := 0) (by kernel_rfl)
    obtain rfl : cc = 0 := by omega
    have hb := hb0 rfl
    refine Ops.fld ((hS1.rd 0 rfl).below hb) rfl rfl rfl rfl inferInstance ?_
    refine Ops.nil ?_
    exact AfterN.dn rfl (Below.refl _ _) (by exact rfl)
   ·intro e1 w1 cc hlo hhi hb0 hp hun hq
    show Ops _ _ _ _ _ _ _
    replace hlo := le_of_lo hlo (b := 0) (by kernel_rfl)
    replace hhi := le_of_hi hhi (b := 0) (by kernel_rfl)
    obtain rfl : cc = 0 := by omega
    have hb := hb0 rfl
    obtain ⟨r, hr⟩ := (hp 12 _ _ (by kernel_rfl) rfl rfl (by kernel_rfl))
    refine Ops.stf 0 (hS1.later hb) rfl rfl (by exact hr) rfl rfl ?_
    intro w9 hT
    refine Ops.nil ?_
    exact AfterT.st rfl ⟨r, hT⟩
   intro u w5 _ hu
   obtain ⟨r, hT⟩ := hu 15 _ rfl (by kernel_rfl)
   refine blockQ_n ?_
   refine thenQ_n ?_
   refine Cd.region ?_
   refine Ops.mv_int rfl rfl rfl ?_
   refine Ops.add rfl rfl rfl (by omega) ?_
   refine Ops.mv_int rfl rfl rfl ?_
   refine Ops.nil ?_
   refine thenQ_n ?_
   exact ⟨(i + 1, r), by show nc - (i + 1) < nc - i; omega, ⟨rfl, rfl, rfl, trivial⟩, hT, by show i + 1 ≤ nc; omega⟩
  ·refine Cd.exit ?_
   refine thenQ_x ?_
   refine thenQ_x ?_
   refine blockQ_x ?_
   refine thenQ_n ?_
   refine Cd.seq ?_
   refine Cd.region ?_
   refine Ops.mv_ptr rfl rfl rfl ?_
   refine Ops.mv_ptr rfl rfl rfl ?_
   refine Ops.nil ?_
   refine thenQ_n ?_
   refine Cd.ret ?_
   refine ret1_v rfl ?_
   exact ⟨As, _, rfl, fun w0 h0 => ⟨Ac, nc, cc, 0, h, bs, rfl, ⟨Int.le_refl _, by omega⟩, hnc, h0⟩, hS1⟩
 ·skip
  refine Ops.skipg rfl rfl rfl rfl rfl ?_
  refine Ops.skipg rfl rfl rfl rfl rfl ?_
  refine Ops.pick_f rfl rfl rfl ?_
  refine Ops.nil ?_
  refine thenQ_n ?_
  refine Cd.cond_f rfl ?_
  refine Cd.exit ?_
  refine thenQ_x ?_
  refine thenQ_x ?_
  refine blockQ_x ?_
  refine thenQ_n ?_
  refine Cd.seq ?_
  refine Cd.region ?_
  refine Ops.mv_ptr rfl rfl rfl ?_
  refine Ops.mv_ptr rfl rfl rfl ?_
  refine Ops.nil ?_
  refine thenQ_n ?_
  refine Cd.ret ?_
  refine ret1_v rfl ?_
  exact ⟨As, _, rfl, fun w0 h0 => ⟨Ac, nc, cc, 0, h, bs, rfl, ⟨Int.le_refl _, by omega⟩, hnc, h0⟩, hS1⟩

theorem DrawShortestPath_c (Ac : Option Addr) (nc cc : Nat) (bs : List Int) (w : World) (hY : RdY w Ac nc bs) (hnc : nc ≤ 1000000) :
  Ret Tryz.prog 36 [.slice Ac nc cc] w (fun v w' => ∃ (n : Nat) (A : Option Addr) (c : Nat) (rs : List SlV) (xss : List (List Int)) (X : List Ck) (x y : Int), v = .tuple #[.agg #[.slice A n c], .int .i64 x, .int .i64 y] ∧ n ≤ 6 ∧ (n ≤ c ∧ c ≤ 9223372036854775807) ∧ (∀ p ∈ xss, p.length ≤ 20001 ∧ ∀ x ∈ p, -1 ≤ x ∧ x ≤ 20001) ∧ (-1 ≤ x ∧ x ≤ 6) ∧ (0 ≤ y ∧ y ≤ 6) ∧ (∀ (w'' : World) (Y : List Ck), St w w'' (X ++ Y) → RowsI w'' A n rs xss) ∧ St w w' X) := by
 refine Ret.of_cd Tryz.func36 rfl Tryz.ntmps36 rfl (postc3 rfl rfl) ?_
 refine Cd.seq ?_
 refine Cd.region ?_
 refine Ops.new1 (St.refl w) rfl ?_
 intro A2 w1 hS1
 refine Ops.mv_int rfl rfl rfl ?_
 refine Ops.mv_int rfl rfl rfl ?_
 refine Ops.nil ?_
 refine thenQ_n ?_
 refine Cd.seq ?_
 refine Cd.region ?_
 refine Ops.mv_sl rfl rfl rfl ?_
 refine Ops.call (l01FromG_c Ac nc cc bs w1 (hY.below hS1.below) hnc) rfl rfl rfl ?_
 rintro _ w2 ⟨As, k0, rfl, hK0, hT⟩
 have hK0 := hK0 w hY
 have hS2 : St w w2 [k0, Bx 32 1 A2 [.slice none 0 0]] := hS1.call hT
 refine Ops.mv_ptr rfl rfl rfl ?_
 refine Ops.nil ?_
 refine thenQ_n ?_
 refine Cd.seq ?_
 refine Cd.region ?_
 refine Ops.mv_ptr rfl rfl rfl ?_
 refine Ops.call (l18Draw_c 0 48 hS2 rfl hK0 (by decide)) rfl rfl rfl ?_
 rintro _ w3 ⟨n, A, c, rs, xss, X, k1, rfl, hn, hcap, hb, hK1, hX, hS3⟩
 have hS3 : St w w3 ((X ++ []) ++ [k1, Bx 32 1 A2 [.slice none 0 0]]) := by rw [List.append_nil]; exact hS3
 refine Ops.mv_ptr rfl rfl rfl ?_
 refine Ops.call (srcNextX_c (X ++ []) 0 7 hS3 rfl hK1) rfl rfl rfl ?_
 rintro _ w4 ⟨r1, k2, rfl, hr1, hK2, hS4⟩
 have hS4 : St w w4 ((X ++ []) ++ [k2, Bx 32 1 A2 [.slice none 0 0]]) := hS4
 refine Ops.mv_ptr rfl rfl rfl ?_
 refine Ops.call (srcNextX_c (X ++ []) 0 16 hS4 rfl hK2) rfl rfl rfl ?_
 rintro _ w5 ⟨r2, k3, rfl, hr2, hK3, hS5⟩
 have hS5 : St w w5 ((X ++ []) ++ [k3, Bx 32 1 A2 [.slice none 0 0]]) := hS5
 skip
 refine Ops.quo rfl rfl rfl (by omega) ?_
 refine Ops.sub rfl rfl rfl (by omega) ?_
 refine Ops.mv_ptr rfl rfl rfl ?_
 refine Ops.call (srcNextX_c (X ++ []) 0 7 hS5 rfl hK3) rfl rfl rfl ?_
 rintro _ w6 ⟨r3, k4, rfl, hr3, hK4, hS6⟩
 have hS6 : St w w6 (X ++ [k4, Bx 32 1 A2 [.slice none 0 0]]) := by rw [List.append_nil] at hS6; exact hS6
 have hS7 : St w w6 (Bx 32 1 A2 [.slice none 0 0] :: (X ++ [k4])) := hS6.perm (by
  rw [show X ++ [k4, Bx 32 1 A2 [.slice none 0 0]] = (X ++ [k4]) ++ [Bx 32 1 A2 [.slice none 0 0]] by simp]
  exact List.perm_append_comm)
 skip
 refine Ops.st_agg 1 0 hS7 rfl rfl rfl rfl rfl rfl rfl ?_
 intro w7 hS8
 refine Ops.mv_int rfl rfl rfl ?_
 refine Ops.mv_int rfl rfl rfl ?_
 refine Ops.nil ?_
 refine thenQ_n ?_
 refine Cd.ret ?_
 skip
 refine retc3_r rfl (hS8.rd 0 rfl) rfl rfl ?_
 exact ⟨n, A, c, rs, xss, X, _, _, rfl, hn, hcap, hb, ⟨by omega, by omega⟩, ⟨by omega, by omega⟩, hX, hS8.tail.sub (List.sublist_append_left _ _)⟩
end Go.Proofs.YtjpkmpihmilgoaaGreat.Vc
/-
 The law of distances, walked: a number in a list. Conditions: as each states them.
-/
namespace Go.Proofs.YtjpkmpihmilgoaaGreat.Vc
open Go.RowKit

theorem hasInt_c (A : Option Addr) (n c : Nat) (xs : List Int) (x : Int) (w : World) (hR : RdI w A n xs) (hn : n ≤ 9223372036854775807) :
  Ret Tryz.prog 42 [.slice A n c, .int .i64 x] w (fun v w' => v = .bool (decide (x ∈ xs)) ∧ St w w' []) := by
 have hl := hR.1
 refine Ret.of_cd Tryz.func42 rfl Tryz.ntmps42 rfl (post1 rfl) ?_
 refine Cd.seq ?_
 refine Cd.region ?_
 refine Ops.mv_bool rfl rfl rfl ?_
 refine Ops.nil ?_
 refine thenQ_n ?_
 refine Cd.seq ?_
 refine Cd.seq ?_
 refine Cd.region ?_
 refine Ops.mv_int rfl rfl rfl ?_
 refine Ops.nil ?_
 refine thenQ_n ?_
 refine Cd.block ?_
 refine Cd.loop (α := Nat) (fun s => [(0, .slice A n c), (1, .int .i64 x), (5, .int .i64 (s : Int))]) (fun s w' => w' = w ∧ s ≤ n ∧ ∀ j : Nat, j < s → gi xs (j : Int) ≠ x) (fun s => n - s) 0 ⟨rfl, rfl, rfl, trivial⟩ ⟨rfl, Nat.zero_le _, fun j hj => absurd hj (Nat.not_lt_zero _)⟩ ?_
 rintro i e w1 ⟨rfl, hi, hno⟩
 refine Cd.seq ?_
 refine Cd.seq ?_
 refine Cd.region ?_
 refine Ops.mv_int rfl rfl rfl ?_
 refine Ops.mv_sl rfl rfl rfl ?_
 refine Ops.len rfl rfl ?_
 refine Ops.lss rfl rfl rfl ?_
 refine Ops.nil ?_
 refine thenQ_n ?_
 refine Cd.cond_p _ rfl (fun h1 => ?_) (fun h1 => ?_)
 ·refine Cd.skip ?_
  refine thenQ_n ?_
  refine Cd.seq ?_
  refine Cd.block ?_
  refine Cd.seq ?_
  refine Cd.region ?_
  refine Ops.mv_sl rfl rfl rfl ?_
  refine Ops.mv_int rfl rfl rfl ?_
  refine Ops.idx hR.2 rfl rfl rfl (by omega) (by omega) ?_
  refine Ops.ld_int hR rfl (by omega) rfl rfl ?_
  refine Ops.mv_int rfl rfl rfl ?_
  refine Ops.eql rfl rfl rfl ?_
  refine Ops.nil ?_
  refine thenQ_n ?_
  refine Cd.cond_p _ rfl (fun h2 => ?_) (fun h2 => ?_)
  ·refine Cd.seq ?_
   refine Cd.region ?_
   refine Ops.mv_bool rfl rfl rfl ?_
   refine Ops.nil ?_
   refine thenQ_n ?_
   refine Cd.ret ?_
   refine blockQ_r ?_
   refine thenQ_r ?_
   refine thenQ_r ?_
   refine blockQ_r ?_
   refine thenQ_r ?_
   refine ret1_b rfl ?_
   have hm : gi xs (i : Int) ∈ xs := by
    rw [gi_mem (by omega)]; exact List.getElem_mem _
   exact ⟨congrArg Value.bool (decide_eq_true (h2 ▸ hm)).symm, St.refl _⟩
  ·refine Cd.skip ?_
   refine blockQ_n ?_
   refine thenQ_n ?_
   refine Cd.region ?_
   refine Ops.mv_int rfl rfl rfl ?_
   refine Ops.add rfl rfl rfl (by omega) ?_
   refine Ops.mv_int rfl rfl rfl ?_
   refine Ops.nil ?_
   refine thenQ_n ?_
   refine ⟨i + 1, by show n - (i + 1) < n - i; omega, ⟨rfl, rfl, rfl, trivial⟩, rfl, by omega, fun j hj => ?_⟩
   rcases Nat.lt_or_ge j i with h | h
   ·exact hno j h
   ·obtain rfl : j = i := by omega
    exact h2
 ·refine Cd.exit ?_
  refine thenQ_x ?_
  refine thenQ_x ?_
  refine blockQ_x ?_
  refine thenQ_n ?_
  refine Cd.seq ?_
  refine Cd.region ?_
  refine Ops.mv_bool rfl rfl rfl ?_
  refine Ops.nil ?_
  refine thenQ_n ?_
  refine Cd.ret ?_
  refine ret1_b rfl ?_
  refine ⟨congrArg Value.bool (decide_eq_false fun h => ?_).symm, St.refl _⟩
  obtain ⟨j, hj, rfl⟩ := List.getElem_of_mem h
  exact hno j (by omega) (gi_mem hj)
end Go.Proofs.YtjpkmpihmilgoaaGreat.Vc
/-
 The walks of the lengths of holes and zigzags on both sides. Conditions: as each states them.
-/
namespace Go.Proofs.YtjpkmpihmilgoaaGreat.Vc
open Go.RowKit

def holeL (xss : List (List Int)) (j : Int) : List Int := if holeK xss j = 0 then wordL xss (holeW (j - 1).toNat) else []
def zigL (xss : List (List Int)) (j : Int) : List Int := if holeK xss j = 0 then wordL xss (zigW j.toNat) else []

end Go.Proofs.YtjpkmpihmilgoaaGreat.Vc
/-
 The walks of the lengths of a word on both sides. Conditions: as each states them.
-/
namespace Go.Proofs.YtjpkmpihmilgoaaGreat.Vc
open Go.RowKit
section
variable {P : Program} {N : Nat} {ops : Array Oper} {K : Env → World → Prop} {rest : List Oper} {e : Env} {w : World} {d : Nat} {ty : TypeId} {pos : String} {af : Array Edge}
theorem Ops.fn2 {F : FuncId} {x y : Operand} {v1 v2 : Value} (hx : ev e x = v1) (hy : ev e y = v2) (hb : Nat.blt d N = true) (hK : Ops P N ops K rest (upd e d (.func (.func F) #[] #[v1, v2])) w) :
  Ops P N ops K (⟨some d, .makeFunc (.func F) #[] #[x, y], ty, pos, af, none⟩ :: rest) e w :=
 .val (by simp [execOp, Instr.makeFunc, hx, hy]) hb hK
end

def allIn (lo hi : Int) (xs : List Int) : Prop := ∀ x ∈ xs, lo ≤ x ∧ x ≤ hi
instance (lo hi : Int) (xs : List Int) : Decidable (allIn lo hi xs) := by unfold allIn; exact inferInstance

theorem areWithin1_c (x lo hi : Int) (P1 P2 : Option Addr) (w : World) (h1 : Rd w P1 1 (fun _ => .int .i64 lo)) (h2 : Rd w P2 1 (fun _ => .int .i64 hi)) :
  Ret Tryz.prog 156 [.int .i64 x, .pointer P1, .pointer P2] w (fun v w' => v = .bool (decide (¬ (lo ≤ x ∧ x ≤ hi))) ∧ w' = w) := by
 refine Ret.of_cd Tryz.func156 rfl Tryz.ntmps156 rfl (post1 rfl) ?_
 refine Cd.seq ?_
 refine Cd.region ?_
 refine Ops.mv_bool rfl rfl rfl ?_
 refine Ops.nil ?_
 refine thenQ_n ?_
 refine Cd.seq ?_
 refine Cd.region ?_
 refine Ops.mv_int rfl rfl rfl ?_
 refine Ops.ld h1 (by exact congrArg Value.pointer (ptrAt_zero P1).symm) (by decide) rfl rfl rfl ?_
 refine Ops.ld h2 (by exact congrArg Value.pointer (ptrAt_zero P2).symm) (by decide) rfl rfl rfl ?_
 refine Ops.call (within_c _ _ _ _) rfl rfl rfl ?_
 rintro _ w ⟨rfl, rfl⟩
 first | refine Ops.not_p rfl rfl ?_ | refine Ops.not rfl rfl ?_
 refine Ops.mv_bool rfl rfl rfl ?_
 refine Ops.nil ?_
 refine thenQ_n ?_
 refine Cd.ret ?_
 refine ret1_b rfl ?_
 exact ⟨rfl, rfl⟩

theorem IndexFunc_c (A : Option Addr) (n c : Nat) (xs : List Int) (lo hi : Int) (P1 P2 : Option Addr) (w : World) (hR : RdI w A n xs) (hn : n ≤ 9223372036854775807) (h1 : Rd w P1 1 (fun _ => .int .i64 lo)) (h2 : Rd w P2 1 (fun _ => .int .i64 hi)) :
  Ret Tryz.prog 186 [.slice A n c, .func (.func 156) #[] #[.pointer P1, .pointer P2]] w (fun v w' => (∃ i : Int, v = .int .i64 i ∧ (0 ≤ i ↔ ¬ allIn lo hi xs)) ∧ w' = w) := by
 have hxl := hR.1
 refine Ret.of_cd Tryz.func186 rfl Tryz.ntmps186 rfl (post1 rfl) ?_
 refine Cd.seq ?_
 refine Cd.region ?_
 refine Ops.mv_int rfl rfl rfl ?_
 refine Ops.nil ?_
 refine thenQ_n ?_
 refine Cd.seq ?_
 refine Cd.seq ?_
 refine Cd.region ?_
 refine Ops.mv_sl rfl rfl rfl ?_
 refine Ops.len rfl rfl ?_
 refine Ops.mv_int rfl rfl rfl ?_
 refine Ops.nil ?_
 refine thenQ_n ?_
 refine Cd.block ?_
 refine Cd.loop (α := Nat) (fun k => [(0, .slice A n c), (1, .func (.func 156) #[] #[.pointer P1, .pointer P2]), (7, .int .i64 (n : Int)), (8, .int .i64 (k : Int))]) (fun k w' => w' = w ∧ k ≤ n ∧ ∀ j, j < k → lo ≤ gi xs (j : Nat) ∧ gi xs (j : Nat) ≤ hi) (fun k => n - k) 0 ⟨rfl, rfl, rfl, rfl, trivial⟩ ⟨rfl, Nat.zero_le _, fun j hj => by omega⟩ ?_
 rintro k e w ⟨rfl, hk, hK⟩
 refine Cd.seq ?_
 refine Cd.region ?_
 refine Ops.lss rfl rfl rfl ?_
 refine Ops.nil ?_
 refine thenQ_n ?_
 refine Cd.seq ?_
 refine Cd.cond_p _ rfl (fun h3 => ?_) (fun h3 => ?_)
 ·refine Cd.skip ?_
  refine thenQ_n ?_
  refine Cd.seq ?_
  refine Cd.block ?_
  refine Cd.seq ?_
  refine Cd.region ?_
  refine Ops.mv_int rfl rfl rfl ?_
  refine Ops.mv_int rfl rfl rfl ?_
  refine Ops.nil ?_
  refine thenQ_n ?_
  refine Cd.seq ?_
  refine Cd.region ?_
  refine Ops.mv_fn rfl rfl rfl ?_
  refine Ops.mv_sl rfl rfl rfl ?_
  refine Ops.mv_int rfl rfl rfl ?_
  refine Ops.idx hR.2 rfl rfl rfl (by omega) (by omega) ?_
  refine Ops.ld_int hR rfl (by omega) rfl rfl ?_
  refine Ops.call (areWithin1_c _ lo hi P1 P2 _ h1 h2) rfl rfl rfl ?_
  rintro _ w ⟨rfl, rfl⟩
  refine Ops.nil ?_
  refine thenQ_n ?_
  refine Cd.cond_p _ rfl (fun h4 => ?_) (fun h4 => ?_)
  ·refine Cd.seq ?_
   refine Cd.region ?_
   refine Ops.mv_int rfl rfl rfl ?_
   refine Ops.mv_int rfl rfl rfl ?_
   refine Ops.nil ?_
   refine thenQ_n ?_
   refine Cd.ret ?_
   refine blockQ_r ?_
   refine thenQ_r ?_
   refine thenQ_r ?_
   refine blockQ_r ?_
   refine thenQ_r ?_
   refine ret1_i rfl ?_
   exact ⟨⟨(k : Int), rfl, ⟨fun _ ha => h4 (by rw [gi_mem (by omega)]; exact ha _ (List.getElem_mem _)), fun _ => by omega⟩⟩, rfl⟩
  ·refine Cd.skip ?_
   refine blockQ_n ?_
   refine thenQ_n ?_
   refine Cd.region ?_
   refine Ops.add rfl rfl rfl (by omega) ?_
   refine Ops.mv_int rfl rfl rfl ?_
   refine Ops.nil ?_
   refine thenQ_n ?_
   refine ⟨k + 1, by show n - (k + 1) < n - k; omega, ⟨rfl, rfl, rfl, rfl, trivial⟩, rfl, by omega, fun j hj => ?_⟩
   by_cases ej : j = k
   ·subst ej; exact Classical.not_not.1 h4
   ·exact hK j (by omega)
 ·refine Cd.exit ?_
  refine thenQ_x ?_
  refine thenQ_x ?_
  refine blockQ_x ?_
  refine thenQ_n ?_
  refine Cd.seq ?_
  refine Cd.region ?_
  refine Ops.mv_int rfl rfl rfl ?_
  refine Ops.nil ?_
  refine thenQ_n ?_
  refine Cd.ret ?_
  refine ret1_i rfl ?_
  refine ⟨⟨-1, rfl, ⟨fun h => absurd h (by decide), fun h => absurd (fun x hx => ?_) h⟩⟩, rfl⟩
  obtain ⟨j, hj, rfl⟩ := List.mem_iff_getElem.1 hx
  have := hK j (by omega)
  rwa [gi_mem hj] at this

theorem ContainsFunc_c (A : Option Addr) (n c : Nat) (xs : List Int) (lo hi : Int) (P1 P2 : Option Addr) (w : World) (hR : RdI w A n xs) (hn : n ≤ 9223372036854775807) (h1 : Rd w P1 1 (fun _ => .int .i64 lo)) (h2 : Rd w P2 1 (fun _ => .int .i64 hi)) :
  Ret Tryz.prog 155 [.slice A n c, .func (.func 156) #[] #[.pointer P1, .pointer P2]] w (fun v w' => v = .bool (decide (¬ allIn lo hi xs)) ∧ w' = w) := by
 refine Ret.of_cd Tryz.func155 rfl Tryz.ntmps155 rfl (post1 rfl) ?_
 refine Cd.seq ?_
 refine Cd.region ?_
 refine Ops.mv_bool rfl rfl rfl ?_
 refine Ops.nil ?_
 refine thenQ_n ?_
 refine Cd.seq ?_
 refine Cd.region ?_
 refine Ops.mv_sl rfl rfl rfl ?_
 refine Ops.mv_fn rfl rfl rfl ?_
 refine Ops.call (IndexFunc_c A n c xs lo hi P1 P2 _ hR hn h1 h2) rfl rfl rfl ?_
 rintro _ w ⟨⟨i, rfl, hi'⟩, rfl⟩
 refine Ops.geq rfl rfl rfl ?_
 refine Ops.mv_bool rfl rfl rfl ?_
 refine Ops.nil ?_
 refine thenQ_n ?_
 refine Cd.ret ?_
 refine ret1_b rfl ?_
 exact ⟨congrArg Value.bool (decide_eq_decide.2 hi'), rfl⟩

theorem areWithin_c (A : Option Addr) (n c : Nat) (xs : List Int) (lo hi : Int) (w : World) (hR : RdI w A n xs) (hn : n ≤ 9223372036854775807) :
  Ret Tryz.prog 113 [.slice A n c, .int .i64 lo, .int .i64 hi] w (fun v w' => v = .bool (decide (allIn lo hi xs)) ∧ St w w' []) := by
 refine Ret.of_cd Tryz.func113 rfl Tryz.ntmps113 rfl (post1 rfl) ?_
 refine Cd.seq ?_
 refine Cd.region ?_
 refine Ops.box (v := .int .i64 lo) (St.refl w) rfl rfl (by show (1 : Nat) ≤ maxLen; simp [maxLen]) ?_
 intro P1 w1 hS1
 have hS1 : St w w1 [Bx 2 1 P1 [.int .i64 lo]] := hS1
 refine Ops.box (v := .int .i64 hi) hS1 rfl rfl (by show (1 : Nat) ≤ maxLen; simp [maxLen]) ?_
 intro P2 w2 hS2
 have hS2 : St w w2 [Bx 2 1 P2 [.int .i64 hi], Bx 2 1 P1 [.int .i64 lo]] := hS2
 refine Ops.mv_bool rfl rfl rfl ?_
 refine Ops.nil ?_
 refine thenQ_n ?_
 refine Cd.seq ?_
 refine Cd.region ?_
 refine Ops.mv_sl rfl rfl rfl ?_
 refine Ops.fn2 rfl rfl rfl ?_
 skip
 refine Ops.call (ContainsFunc_c A n c xs lo hi P1 P2 _ (hS2.oldI hR) hn (Rd.one (hS2.rd 1 rfl)) (Rd.one (hS2.rd 0 rfl))) rfl rfl rfl ?_
 rintro _ w2 ⟨rfl, rfl⟩
 first | refine Ops.not_p rfl rfl ?_ | refine Ops.not rfl rfl ?_
 refine Ops.mv_bool rfl rfl rfl ?_
 refine Ops.nil ?_
 refine thenQ_n ?_
 refine Cd.ret ?_
 refine ret1_b rfl ?_
 exact ⟨by simp, hS2.none⟩

/-- a word of n moves -/
def IsW (n : Nat) (ws : List Int) : Prop := allIn 0 ((n : Int) - 1) ws ∧ ws.length ≤ 64
instance (n : Nat) (ws : List Int) : Decidable (IsW n ws) := by unfold IsW; exact inferInstance

def lowK (xss : List (List Int)) (ws : List Int) : Int := if ¬ Grph xss then 1 else if ¬ IsW xss.length ws then 2 else 0
def lowL (xss : List (List Int)) (ws : List Int) : List Int := if Grph xss ∧ IsW xss.length ws then wordL xss ws else []

end Go.Proofs.YtjpkmpihmilgoaaGreat.Vc
/-
 Distances in a graph: the search, and the walks of it on both sides. Conditions: as each states them.
-/
namespace Go.Proofs.YtjpkmpihmilgoaaGreat.Vc
open Go.RowKit

/-- one neighbour met: the distances, and the queue -/
def stepB (wo u : Int) (st : List Int × List Int) (x : Int) : List Int × List Int := if gi st.1 x < 0 ∧ x ≠ wo then (st.1.set x.toNat (gi st.1 u + 1), st.2 ++ [x]) else st
def rowB (wo u : Int) (r : List Int) (st : List Int × List Int) : List Int × List Int := r.foldl (stepB wo u) st
theorem rowB_snoc (wo u : Int) (r : List Int) (x : Int) (st : List Int × List Int) : rowB wo u (r ++ [x]) st = stepB wo u (rowB wo u r st) x := by simp [rowB, List.foldl_append]
def bfsD (next : List (List Int)) (wo : Int) : Nat → Nat → List Int × List Int → List Int × List Int
 | 0, _, st => st
 | f + 1, i, st => if i < st.2.length then bfsD next wo f (i + 1) (rowB wo (gi st.2 (i : Int)) (gl next (gi st.2 (i : Int))) st) else st
theorem bfsD_go {next : List (List Int)} {wo : Int} {f i : Nat} {st : List Int × List Int} (hi : i < st.2.length) (hf : 0 < f) : bfsD next wo f i st = bfsD next wo (f - 1) (i + 1) (rowB wo (gi st.2 (i : Int)) (gl next (gi st.2 (i : Int))) st) := by
 obtain ⟨g, rfl⟩ : ∃ g, f = g + 1 := ⟨f - 1, by omega⟩
 rw [bfsD, if_pos hi]; rfl
theorem bfsD_end {next : List (List Int)} {wo : Int} {f i : Nat} {st : List Int × List Int} (hi : ¬ i < st.2.length) : bfsD next wo f i st = st := by
 cases f with
 | zero => rfl
 | succ f => rw [bfsD, if_neg hi]
def initB (n : Nat) (v : Int) : List Int × List Int := ((List.replicate n (-1)).set v.toNat 0, [v])
def distP (next : List (List Int)) (wo v : Int) : List Int × List Int := bfsD next wo (next.length + 1) 0 (initB next.length v)

structure BF (n : Nat) (st : List Int × List Int) : Prop where
 len : st.1.length = n
 rng : ∀ x ∈ st.2, 0 ≤ x ∧ x < n
 cnt : st.2.length + unl st.1 = n
 val : ∀ x ∈ st.1, -1 ≤ x ∧ x < st.2.length
 pos : ∀ x ∈ st.2, 0 ≤ gi st.1 x
theorem gi_in2 {l : List Int} {x : Int} (h0 : 0 ≤ x) (h1 : x < l.length) : gi l x ∈ l := by
 obtain ⟨k, rfl⟩ : ∃ k : Nat, x = k := ⟨x.toNat, by omega⟩
 exact gi_in (by omega)
theorem gi_setI {l : List Int} {i : Nat} {v : Int} {x : Int} (hi : i < l.length) (hx : 0 ≤ x) : gi (l.set i v) x = if (i : Int) = x then v else gi l x := by
 obtain ⟨k, rfl⟩ : ∃ k : Nat, x = k := ⟨x.toNat, by omega⟩
 simp only [gi, Int.toNat_natCast, List.getD_eq_getElem?_getD, List.getElem?_set]
 by_cases h : i = k
 ·subst h; rw [if_pos rfl, if_pos hi, if_pos rfl]; rfl
 ·rw [if_neg h, if_neg (by omega)]
theorem BF.step {n : Nat} {st : List Int × List Int} (h : BF n st) {wo u x : Int} (hu : u ∈ st.2) (h0 : 0 ≤ x) (h1 : x < n) : BF n (stepB wo u st x) ∧ st.2 <+: (stepB wo u st x).2 := by
 unfold stepB
 split
 ·rename_i hx
  have hlen := h.len
  have hxn : x.toNat < st.1.length := by omega
  have hgu := h.pos u hu
  have hur := h.rng u hu
  have hgu2 := h.val _ (gi_in2 hur.1 (by omega))
  have hunl := unl_set (L := st.1) (x := x) (c := gi st.1 u + 1) h0 (by omega) hx.1 (by omega)
  have hcnt := h.cnt
  refine ⟨⟨by simp [h.len], fun y hy => ?_, by simp; omega, fun y hy => ?_, fun y hy => ?_⟩, List.prefix_append _ _⟩
  ·rcases List.mem_append.1 hy with hy | hy
   ·exact h.rng y hy
   ·simp at hy; subst hy; exact ⟨h0, h1⟩
  ·rw [List.length_append, List.length_singleton]
   rcases List.mem_or_eq_of_mem_set hy with hy | rfl
   ·have := h.val y hy; omega
   ·omega
  ·have hy0 : 0 ≤ y := by
    rcases List.mem_append.1 hy with hy | hy
    ·exact (h.rng y hy).1
    ·simp at hy; omega
   rw [gi_setI hxn hy0]
   split
   ·omega
   ·rename_i hne
    rcases List.mem_append.1 hy with hy | hy
    ·exact h.pos y hy
    ·simp at hy; omega
 ·exact ⟨h, List.prefix_rfl⟩
theorem BF.row {n : Nat} {wo u : Int} (r : List Int) : ∀ {st : List Int × List Int}, BF n st → u ∈ st.2 → (∀ x ∈ r, 0 ≤ x ∧ x < n) → BF n (rowB wo u r st) ∧ st.2 <+: (rowB wo u r st).2 := by
 induction r using snoc_ind with
 | h0 => intro st h _ _; exact ⟨h, List.prefix_rfl⟩
 | h1 l a ih =>
  intro st h hu hr
  obtain ⟨h1, h2⟩ := ih h hu (fun x hx => hr x (by simp [hx]))
  have ha := hr a (by simp)
  rw [rowB_snoc]
  obtain ⟨h3, h4⟩ := h1.step (wo := wo) (h2.subset hu) ha.1 ha.2
  exact ⟨h3, h2.trans h4⟩
theorem BF.len2 {n : Nat} {st : List Int × List Int} (h : BF n st) : st.2.length ≤ n := by have := h.cnt; omega
theorem BF.init {n : Nat} {v : Int} (h0 : 0 ≤ v) (h1 : v < n) : BF n (initB n v) := by
 have hu : unl (List.replicate n (-1)) = n := by
  unfold unl
  rw [List.countP_replicate]
  simp
 have hs := unl_set (L := List.replicate n (-1)) (x := v) (c := 0) h0 (by simp; exact h1) (by rw [gi_rep h0 h1]; omega) (by omega)
 refine ⟨by simp [initB], fun x hx => ?_, ?_, fun x hx => ?_, fun x hx => ?_⟩
 ·simp [initB] at hx; subst hx; exact ⟨h0, h1⟩
 ·show 1 + unl ((List.replicate n (-1)).set v.toNat 0) = n; omega
 ·have hx : x ∈ (List.replicate n (-1)).set v.toNat 0 := hx
  show -1 ≤ x ∧ x < ((1 : Nat) : Int)
  rcases List.mem_or_eq_of_mem_set hx with hx | rfl
  ·have := (List.mem_replicate.1 hx).2; omega
  ·omega
 ·simp [initB] at hx; subst hx
  show 0 ≤ gi ((List.replicate n (-1)).set x.toNat 0) x
  rw [gi_setI (by simp; omega) h0, if_pos (by omega)]
  exact Int.le_refl _
/-- a graph's lists -/
structure Gr (n : Nat) (next : List (List Int)) : Prop where
 len : next.length = n
 small : n ≤ 400
 row : ∀ u : Int, 0 ≤ u → (∀ x ∈ gl next u, 0 ≤ x ∧ x < n) ∧ (gl next u).length ≤ 1000

theorem l18Distances_c (A : Option Addr) (n c : Nat) (rs : List SlV) (next : List (List Int)) (v wo : Int) (w : World) (hR : RowsI w A n rs next) (hg : Gr n next) (h0 : 0 ≤ v) (h1 : v < n) :
    Ret Tryz.prog 87 [.slice A n c, .int .i64 v, .int .i64 wo] w (fun r w' => ∃ A', r = .slice A' n n ∧ St w w' [CkI 2 A' n n (distP next wo v).1]) := by
  have hl := hg.len
  have hsm := hg.small
  refine Ret.of_cd Tryz.func87 rfl Tryz.ntmps87 rfl (post1 rfl) ?_
  refine Cd.seq ?_
  refine Cd.region ?_
  refine Ops.mv_sl rfl rfl rfl ?_
  refine Ops.nil ?_
  refine thenQ_n ?_
  refine Cd.seq ?_
  refine Cd.region ?_
  refine Ops.mv_sl rfl rfl rfl ?_
  refine Ops.len rfl rfl ?_
  refine Ops.mkI n (St.refl w) rfl rfl (by omega) ?_
  intro A7 w1 hS1
  refine Ops.mv_sl rfl rfl rfl ?_
  refine Ops.nil ?_
  refine thenQ_n ?_
  refine Cd.seq ?_
  refine Cd.seq ?_
  refine Cd.region ?_
  refine Ops.mv_int rfl rfl rfl ?_
  refine Ops.nil ?_
  refine thenQ_n ?_
  refine Cd.block ?_
  refine Cd.loop (α := Nat × List Int) (fun z => [(0, .slice A n c), (1, .int .i64 v), (2, .int .i64 wo), (7, .slice A7 n n), (8, .int .i64 (z.1 : Int))]) (fun z w' => St w w' [CkI 2 A7 n n z.2] ∧ z.1 ≤ n ∧ z.2.length = n ∧ ∀ j, j < z.1 → z.2[j]? = some (-1)) (fun z => n - z.1) (0, List.replicate n 0) ⟨rfl, rfl, rfl, rfl, rfl, trivial⟩ ⟨hS1, Nat.zero_le _, by simp, fun j hj => by omega⟩ ?_
  rintro ⟨k, l⟩ e w2 ⟨hS2, hk, hll, hK⟩
  dsimp only at hS2 hk hll hK ⊢
  refine Cd.seq ?_
  refine Cd.seq ?_
  refine Cd.region ?_
  refine Ops.mv_int rfl rfl rfl ?_
  refine Ops.mv_sl rfl rfl rfl ?_
  refine Ops.len rfl rfl ?_
  refine Ops.lss rfl rfl rfl ?_
  refine Ops.nil ?_
  refine thenQ_n ?_
  refine Cd.cond_p _ rfl (fun h2 => ?_) (fun h2 => ?_)
  · refine Cd.skip ?_
    refine thenQ_n ?_
    refine Cd.seq ?_
    refine Cd.block ?_
    refine Cd.region ?_
    refine Ops.mv_sl rfl rfl rfl ?_
    refine Ops.mv_int rfl rfl rfl ?_
    refine Ops.idx (hS2.rdI 0 rfl).2 rfl rfl rfl (by omega) (by omega) ?_
    refine Ops.st_int 0 hS2 rfl rfl rfl (by omega) ?_
    intro w3 hS3
    refine Ops.nil ?_
    refine blockQ_n ?_
    refine thenQ_n ?_
    refine Cd.region ?_
    refine Ops.mv_int rfl rfl rfl ?_
    refine Ops.add rfl rfl rfl (by omega) ?_
    refine Ops.mv_int rfl rfl rfl ?_
    refine Ops.nil ?_
    refine thenQ_n ?_
    refine ⟨(k + 1, l.set k (-1)), by show n - (k + 1) < n - k; omega, ⟨rfl, rfl, rfl, rfl, rfl, trivial⟩, hS3, by show k + 1 ≤ n; omega, by show (l.set k _).length = n; rw [List.length_set]; exact hll, fun j hj => ?_⟩
    show (l.set k (-1))[j]? = _
    rw [List.getElem?_set]
    by_cases ej : k = j
    · subst ej; rw [if_pos rfl, if_pos (by omega)]
    · rw [if_neg ej]; exact hK j (by have : j < k + 1 := hj; omega)
  · refine Cd.exit ?_
    refine thenQ_x ?_
    refine thenQ_x ?_
    refine blockQ_x ?_
    refine thenQ_n ?_
    refine Cd.seq ?_
    refine Cd.region ?_
    refine Ops.mv_sl rfl rfl rfl ?_
    refine Ops.mv_int rfl rfl rfl ?_
    have hkn : k = n := by omega
    subst hkn
    have he : l = List.replicate k (-1) := by
      apply List.ext_getElem?
      intro j
      by_cases hj : j < k
      · rw [hK j hj]; simp [hj]
      · rw [List.getElem?_eq_none (by omega), List.getElem?_eq_none (by simp; omega)]
    subst he
    refine Ops.idx (hS2.rdI 0 rfl).2 rfl rfl rfl h0 h1 ?_
    refine Ops.st_int 0 hS2 rfl rfl rfl (by omega) ?_
    intro w3 hS3
    refine Ops.nil ?_
    refine thenQ_n ?_
    refine Cd.seq ?_
    refine Cd.region ?_
    refine Ops.mv_int rfl rfl rfl ?_
    refine Ops.bs1I hS3 rfl rfl rfl ?_
    intro A9 w4 hS4
    have hS4 : St w w4 [CkI 2 A9 (initB k v).2.length 1 (initB k v).2, CkI 2 A7 k k (initB k v).1] := hS4
    have hfin : distP next wo v = bfsD next wo (k + 1 - 0) 0 (initB k v) := by unfold distP; rw [hl]; rfl
    refine Ops.mv_sl rfl rfl rfl ?_
    refine Ops.nil ?_
    refine thenQ_n ?_
    refine Cd.seq ?_
    refine Cd.seq ?_
    refine Cd.region ?_
    refine Ops.mv_int rfl rfl rfl ?_
    refine Ops.nil ?_
    refine thenQ_n ?_
    refine Cd.block ?_
    refine Cd.loop (α := Nat × Option Addr × Nat × (List Int × List Int)) (fun z => [(0, .slice A k c), (2, .int .i64 wo), (7, .slice A7 k k), (9, .slice z.2.1 z.2.2.2.2.length z.2.2.1), (10, .int .i64 (z.1 : Int))])
      (fun z w' => St w w' [CkI 2 z.2.1 z.2.2.2.2.length z.2.2.1 z.2.2.2.2, CkI 2 A7 k k z.2.2.2.1] ∧ BF k z.2.2.2 ∧ z.1 ≤ z.2.2.2.2.length ∧ distP next wo v = bfsD next wo (k + 1 - z.1) z.1 z.2.2.2)
      (fun z => k + 1 - z.1) (0, A9, 1, initB k v) ⟨rfl, rfl, rfl, rfl, rfl, trivial⟩ ⟨hS4, BF.init h0 h1, Nat.zero_le _, hfin⟩ ?_
    rintro ⟨i, A10, c10, st⟩ e w5 ⟨hS5, hB, hi, hD⟩
    dsimp only at hS5 hB hi hD ⊢
    have hql := hB.len2
    refine Cd.seq ?_
    refine Cd.seq ?_
    refine Cd.region ?_
    refine Ops.mv_int rfl rfl rfl ?_
    refine Ops.mv_sl rfl rfl rfl ?_
    refine Ops.len rfl rfl ?_
    refine Ops.lss rfl rfl rfl ?_
    refine Ops.nil ?_
    refine thenQ_n ?_
    refine Cd.cond_p _ rfl (fun h3 => ?_) (fun h3 => ?_)
    · have hi' : i < st.2.length := by omega
      have hQ := hS5.rdI 0 rfl
      have hum : gi st.2 (i : Int) ∈ st.2 := gi_in hi'
      have hur := hB.rng _ hum
      have hrow := hg.row (gi st.2 (i : Int)) hur.1
      rw [bfsD_go hi' (by omega)] at hD
      refine Cd.skip ?_
      refine thenQ_n ?_
      refine Cd.seq ?_
      refine Cd.block ?_
      refine Cd.seq ?_
      refine Cd.region ?_
      refine Ops.mv_sl rfl rfl rfl ?_
      refine Ops.mv_int rfl rfl rfl ?_
      refine Ops.idx hQ.2 rfl rfl rfl (by omega) (by omega) ?_
      refine Ops.ld_int hQ rfl (by omega) rfl rfl ?_
      refine Ops.mv_int rfl rfl rfl ?_
      refine Ops.nil ?_
      refine thenQ_n ?_
      refine Cd.seq ?_
      refine Cd.region ?_
      refine Ops.mv_int rfl rfl rfl ?_
      refine Ops.nil ?_
      refine thenQ_n ?_
      refine Cd.block ?_
      generalize hu : gi st.2 (i : Int) = u at *
      have hnr : (gl next u).length = (rg rs u).n := hR.rowLen hur.1 hur.2
      refine Cd.loop (α := Nat × Option Addr × Nat × (List Int × List Int)) (fun z => [(0, .slice A k c), (2, .int .i64 wo), (7, .slice A7 k k), (9, .slice z.2.1 z.2.2.2.2.length z.2.2.1), (10, .int .i64 (i : Int)), (11, .int .i64 u), (12, .int .i64 (z.1 : Int))])
        (fun z w' => St w w' [CkI 2 z.2.1 z.2.2.2.2.length z.2.2.1 z.2.2.2.2, CkI 2 A7 k k z.2.2.2.1] ∧ z.1 ≤ (gl next u).length ∧ z.2.2.2 = rowB wo u ((gl next u).take z.1) st)
        (fun z => (gl next u).length - z.1) (0, A10, c10, st) ⟨rfl, rfl, rfl, rfl, rfl, rfl, rfl, trivial⟩ ⟨hS5, Nat.zero_le _, rfl⟩ ?_
      rintro ⟨j, A11, c11, sj⟩ e w6 ⟨hS6, hj, hsj⟩
      dsimp only at hS6 hj hsj ⊢
      obtain ⟨hBj, hpre⟩ := BF.row (wo := wo) ((gl next u).take j) hB hum (fun x hx => hrow.1 x (List.mem_of_mem_take hx))
      rw [← hsj] at hBj hpre
      have hR6 := hS6.oldRows hR
      have hqj := hBj.len2
      have hlj := hBj.len
      refine Cd.seq ?_
      refine Cd.seq ?_
      refine Cd.region ?_
      refine Ops.mv_int rfl rfl rfl ?_
      refine Ops.mv_sl rfl rfl rfl ?_
      refine Ops.mv_int rfl rfl rfl ?_
      refine Ops.idx hR6.top.2 rfl rfl rfl hur.1 hur.2 ?_
      refine Ops.ld_sl hR6.top rfl (by omega) rfl rfl ?_
      refine Ops.len rfl rfl ?_
      refine Ops.lss rfl rfl rfl ?_
      refine Ops.nil ?_
      refine thenQ_n ?_
      refine Cd.cond_p _ rfl (fun h4 => ?_) (fun h4 => ?_)
      · have hj' : j < (gl next u).length := by omega
        have hrowR := hR6.at_ (i := u) hur.1 hur.2
        have hxm : gi (gl next u) (j : Int) ∈ gl next u := gi_in hj'
        have hx := hrow.1 _ hxm
        have hstep : rowB wo u ((gl next u).take (j + 1)) st = stepB wo u sj (gi (gl next u) (j : Int)) := by rw [take_succ_gi hj', rowB_snoc, ← hsj]
        have hO := hS6.rdI 1 rfl
        have hgu := hBj.val _ (gi_in2 (l := sj.1) hur.1 (by omega))
        generalize hxe : gi (gl next u) (j : Int) = x at *
        refine Cd.skip ?_
        refine thenQ_n ?_
        refine Cd.seq ?_
        refine Cd.block ?_
        refine Cd.seq ?_
        refine Cd.region ?_
        refine Ops.mv_sl rfl rfl rfl ?_
        refine Ops.mv_int rfl rfl rfl ?_
        refine Ops.idx hR6.top.2 rfl rfl rfl hur.1 hur.2 ?_
        refine Ops.ld_sl hR6.top rfl (by omega) rfl rfl ?_
        refine Ops.mv_int rfl rfl rfl ?_
        refine Ops.idx hrowR.2 rfl rfl rfl (by omega) (by omega) ?_
        refine Ops.ld_int hrowR rfl (by omega) rfl rfl ?_
        rw [hxe]
        refine Ops.mv_int rfl rfl rfl ?_
        refine Ops.nil ?_
        refine thenQ_n ?_
        refine Cd.seq ?_
        refine Cd.region ?_
        refine Ops.mv_sl rfl rfl rfl ?_
        refine Ops.mv_int rfl rfl rfl ?_
        refine Ops.idx hO.2 rfl rfl rfl hx.1 hx.2 ?_
        refine Ops.ld_int hO rfl (by omega) rfl rfl ?_
        refine Ops.lss rfl rfl rfl ?_
        refine Ops.mv_bool rfl rfl rfl ?_
        refine Ops.split_p 62 rfl (fun h5 => ?_) (fun h5 => ?_)
        · refine Ops.rung rfl rfl rfl ?_
          refine Ops.mv_int rfl rfl rfl ?_
          refine Ops.rung rfl rfl rfl ?_
          refine Ops.mv_int rfl rfl rfl ?_
          refine Ops.rung rfl rfl rfl ?_
          refine Ops.neq rfl rfl rfl ?_
          refine Ops.pick_t rfl rfl rfl ?_
          refine Ops.nil ?_
          refine thenQ_n ?_
          refine Cd.cond_p _ rfl (fun h6 => ?_) (fun h6 => ?_)
          · have hst : stepB wo u sj x = (sj.1.set x.toNat (gi sj.1 u + 1), sj.2 ++ [x]) := by unfold stepB; rw [if_pos ⟨h5, h6⟩]
            refine Cd.seq ?_
            refine Cd.region ?_
            refine Ops.mv_sl rfl rfl rfl ?_
            refine Ops.mv_int rfl rfl rfl ?_
            refine Ops.mv_sl rfl rfl rfl ?_
            refine Ops.mv_int rfl rfl rfl ?_
            refine Ops.idx hO.2 rfl rfl rfl hur.1 hur.2 ?_
            refine Ops.ld_int hO rfl (by omega) rfl rfl ?_
            refine Ops.add rfl rfl rfl (by omega) ?_
            refine Ops.idx hO.2 rfl rfl rfl hx.1 hx.2 ?_
            refine Ops.st_int 1 hS6 rfl rfl rfl (by omega) ?_
            intro w7 hS7
            refine Ops.nil ?_
            refine thenQ_n ?_
            refine Cd.region ?_
            refine Ops.mv_sl rfl rfl rfl ?_
            refine Ops.mv_int rfl rfl rfl ?_
            refine Ops.bs1I hS7 rfl rfl rfl ?_
            intro A12 w8 hS8
            refine Ops.appI 1 hS8 rfl (hS8.rdI 0 rfl) rfl rfl rfl (by omega) (by omega) rfl ?_
            intro A13 c13 w9 hS9
            refine Ops.mv_sl rfl rfl rfl ?_
            refine Ops.nil ?_
            refine blockQ_n ?_
            refine thenQ_n ?_
            refine Cd.region ?_
            refine Ops.mv_int rfl rfl rfl ?_
            refine Ops.add rfl rfl rfl (by omega) ?_
            refine Ops.mv_int rfl rfl rfl ?_
            refine Ops.nil ?_
            refine thenQ_n ?_
            have e2 : (sj.2 ++ [x]).length = sj.2.length + 1 := by simp
            refine ⟨(j + 1, A13, c13, stepB wo u sj x), by show _ - (j + 1) < _ - j; omega, ⟨rfl, rfl, rfl, by show Value.slice _ _ _ = .slice _ _ _; rw [hst]; show Value.slice _ _ _ = .slice _ (sj.2 ++ [x]).length _; rw [e2], rfl, rfl, rfl, trivial⟩, ?_, hj', hstep.symm⟩
            show St w w9 [CkI _ A13 (stepB wo u sj x).2.length c13 (stepB wo u sj x).2, CkI _ A7 k k (stepB wo u sj x).1]
            rw [hst]
            show St w w9 [CkI _ A13 (sj.2 ++ [x]).length c13 (sj.2 ++ [x]), CkI _ A7 k k (sj.1.set x.toNat (gi sj.1 u + 1))]
            rw [e2]
            exact hS9.tail
          · have hst : stepB wo u sj x = sj := by unfold stepB; rw [if_neg (fun h => h6 h.2)]
            rw [hst] at hstep
            refine Cd.skip ?_
            refine blockQ_n ?_
            refine thenQ_n ?_
            refine Cd.region ?_
            refine Ops.mv_int rfl rfl rfl ?_
            refine Ops.add rfl rfl rfl (by omega) ?_
            refine Ops.mv_int rfl rfl rfl ?_
            refine Ops.nil ?_
            refine thenQ_n ?_
            exact ⟨(j + 1, A11, c11, sj), by show _ - (j + 1) < _ - j; omega, ⟨rfl, rfl, rfl, rfl, rfl, rfl, rfl, trivial⟩, hS6, hj', hstep.symm⟩
        · have hst : stepB wo u sj x = sj := by unfold stepB; rw [if_neg (fun h => h5 h.1)]
          rw [hst] at hstep
          refine Ops.skipg rfl rfl rfl rfl rfl ?_
          refine Ops.skipg rfl rfl rfl rfl rfl ?_
          refine Ops.skipg rfl rfl rfl rfl rfl ?_
          refine Ops.pick_f rfl rfl rfl ?_
          refine Ops.nil ?_
          refine thenQ_n ?_
          refine Cd.cond_f rfl ?_
          refine Cd.skip ?_
          refine blockQ_n ?_
          refine thenQ_n ?_
          refine Cd.region ?_
          refine Ops.mv_int rfl rfl rfl ?_
          refine Ops.add rfl rfl rfl (by omega) ?_
          refine Ops.mv_int rfl rfl rfl ?_
          refine Ops.nil ?_
          refine thenQ_n ?_
          exact ⟨(j + 1, A11, c11, sj), by show _ - (j + 1) < _ - j; omega, ⟨rfl, rfl, rfl, rfl, rfl, rfl, rfl, trivial⟩, hS6, hj', hstep.symm⟩
      · refine Cd.exit ?_
        refine thenQ_x ?_
        refine thenQ_x ?_
        refine blockQ_x ?_
        refine blockQ_n ?_
        refine thenQ_n ?_
        refine Cd.region ?_
        refine Ops.mv_int rfl rfl rfl ?_
        refine Ops.add rfl rfl rfl (by omega) ?_
        refine Ops.mv_int rfl rfl rfl ?_
        refine Ops.nil ?_
        refine thenQ_n ?_
        have hje : j = (gl next u).length := by omega
        subst hje
        rw [List.take_length] at hsj
        rw [← hsj] at hD
        exact ⟨(i + 1, A11, c11, sj), by show k + 1 - (i + 1) < k + 1 - i; omega, ⟨rfl, rfl, rfl, rfl, rfl, trivial⟩, hS6, hBj, by show i + 1 ≤ sj.2.length; have := hpre.length_le; omega, by show distP next wo v = bfsD next wo (k + 1 - (i + 1)) (i + 1) sj; rw [hD]; congr 1⟩
    · refine Cd.exit ?_
      refine thenQ_x ?_
      refine thenQ_x ?_
      refine blockQ_x ?_
      refine thenQ_n ?_
      refine Cd.seq ?_
      refine Cd.region ?_
      refine Ops.mv_sl rfl rfl rfl ?_
      refine Ops.mv_sl rfl rfl rfl ?_
      refine Ops.nil ?_
      refine thenQ_n ?_
      refine Cd.ret ?_
      refine ret1_s rfl ?_
      rw [bfsD_end (by omega)] at hD
      rw [hD]
      exact ⟨A7, rfl, hS5.tail⟩
end Go.Proofs.YtjpkmpihmilgoaaGreat.Vc
/-
 Distances and what is reached: the program's walks. Conditions: as each states them.
-/
namespace Go.Proofs.YtjpkmpihmilgoaaGreat.Vc
open Go.RowKit

theorem graphDistances_c (A : Option Addr) (n c : Nat) (rs : List SlV) (next : List (List Int)) (v : Int) (w : World) (hR : RowsI w A n rs next) (hg : Gr n next) (h0 : 0 ≤ v) (h1 : v < n) :
    Ret Tryz.prog 84 [.slice A n c, .int .i64 v] w (fun r w' => ∃ A', r = .slice A' n n ∧ St w w' [CkI 2 A' n n (distP next (-1) v).1]) := by
  have hl := hg.len
  have hsm := hg.small
  refine Ret.of_cd Tryz.func84 rfl Tryz.ntmps84 rfl (post1 rfl) ?_
  refine Cd.seq ?_
  refine Cd.region ?_
  refine Ops.mv_sl rfl rfl rfl ?_
  refine Ops.nil ?_
  refine thenQ_n ?_
  refine Cd.seq ?_
  refine Cd.region ?_
  refine Ops.bs1I (St.refl w) rfl rfl rfl ?_
  intro A1 w1 hS1
  refine Ops.mv_sl rfl rfl rfl ?_
  refine Ops.len rfl rfl ?_
  refine Ops.call (Repeat_c A1 1 (-1) n _ (hS1.rdI 0 rfl) (by omega)) rfl rfl rfl ?_
  rintro _ w2 ⟨A5, rfl, hst⟩
  have hS2 := (hS1.call hst).sub (List.Sublist.cons_cons _ (List.nil_sublist _))
  refine Ops.mv_sl rfl rfl rfl ?_
  refine Ops.nil ?_
  refine thenQ_n ?_
  refine Cd.seq ?_
  refine Cd.region ?_
  refine Ops.mv_sl rfl rfl rfl ?_
  refine Ops.mv_int rfl rfl rfl ?_
  refine Ops.idx (hS2.rdI 0 rfl).2 rfl rfl rfl h0 h1 ?_
  refine Ops.st_int 0 hS2 rfl rfl rfl (by omega) ?_
  intro w3 hS3
  refine Ops.nil ?_
  refine thenQ_n ?_
  refine Cd.seq ?_
  refine Cd.seq ?_
  refine Cd.region ?_
  refine Ops.mv_int rfl rfl rfl ?_
  refine Ops.bs1I hS3 rfl rfl rfl ?_
  intro A6 w4 hS4
  have hS4 : St w w4 [CkI 2 A6 ((initB n v).2.length - 0) 1 ((initB n v).2.drop 0), CkI 2 A5 n n (initB n v).1] := hS4
  have hfin : distP next (-1) v = bfsD next (-1) (n + 1 - 0) 0 (initB n v) := by unfold distP; rw [hl]; rfl
  refine Ops.mv_sl rfl rfl rfl ?_
  refine Ops.nil ?_
  refine thenQ_n ?_
  refine Cd.block ?_
  refine Cd.loop (α := Nat × Option Addr × Nat × (List Int × List Int)) (fun z => [(0, .slice A n c), (5, .slice A5 n n), (6, .slice z.2.1 (z.2.2.2.2.length - z.1) z.2.2.1)])
    (fun z w' => St w w' [CkI 2 z.2.1 (z.2.2.2.2.length - z.1) z.2.2.1 (z.2.2.2.2.drop z.1), CkI 2 A5 n n z.2.2.2.1] ∧ BF n z.2.2.2 ∧ z.1 ≤ z.2.2.2.2.length ∧ distP next (-1) v = bfsD next (-1) (n + 1 - z.1) z.1 z.2.2.2)
    (fun z => n + 1 - z.1) (0, A6, 1, initB n v) ⟨rfl, rfl, rfl, trivial⟩ ⟨hS4, BF.init h0 h1, Nat.zero_le _, hfin⟩ ?_
  rintro ⟨i, A10, c10, st⟩ e w5 ⟨hS5, hB, hi, hD⟩
  dsimp only at hS5 hB hi hD ⊢
  have hql := hB.len2
  refine Cd.seq ?_
  refine Cd.seq ?_
  refine Cd.region ?_
  refine Ops.mv_sl rfl rfl rfl ?_
  refine Ops.len rfl rfl ?_
  refine Ops.gtr rfl rfl rfl ?_
  refine Ops.nil ?_
  refine thenQ_n ?_
  refine Cd.cond_p _ rfl (fun h3 => ?_) (fun h3 => ?_)
  · have hi' : i < st.2.length := by omega
    have hQ := hS5.rdI 0 rfl
    have hum : gi st.2 (i : Int) ∈ st.2 := gi_in hi'
    have hur := hB.rng _ hum
    have hrow := hg.row (gi st.2 (i : Int)) hur.1
    have hR5 := hS5.oldRows hR
    rw [bfsD_go hi' (by omega)] at hD
    refine Cd.skip ?_
    refine thenQ_n ?_
    refine Cd.seq ?_
    refine Cd.block ?_
    refine Cd.seq ?_
    refine Cd.region ?_
    refine Ops.mv_sl rfl rfl rfl ?_
    refine Ops.mv_sl rfl rfl rfl ?_
    refine Ops.idx hQ.2 rfl rfl rfl (by omega) (by omega) ?_
    refine Ops.ld_int hQ rfl (by omega) rfl rfl ?_
    rw [gi_drop]
    generalize hu : gi st.2 (i : Int) = u at *
    have hnr : (gl next u).length = (rg rs u).n := hR.rowLen hur.1 hur.2
    refine Ops.idx hR5.top.2 rfl rfl rfl hur.1 hur.2 ?_
    refine Ops.ld_sl hR5.top rfl (by omega) rfl rfl ?_
    refine Ops.len rfl rfl ?_
    refine Ops.mv_int rfl rfl rfl ?_
    refine Ops.nil ?_
    refine thenQ_n ?_
    refine Cd.block ?_
    refine Cd.loop (α := Nat × Option Addr × Nat × (List Int × List Int)) (fun z => [(0, .slice A n c), (5, .slice A5 n n), (6, .slice z.2.1 (z.2.2.2.2.length - i) z.2.2.1), (28, .slice (rg rs u).a (rg rs u).n (rg rs u).c), (29, .int .i64 ((rg rs u).n : Int)), (30, .int .i64 (z.1 : Int))])
      (fun z w' => St w w' [CkI 2 z.2.1 (z.2.2.2.2.length - i) z.2.2.1 (z.2.2.2.2.drop i), CkI 2 A5 n n z.2.2.2.1] ∧ z.1 ≤ (gl next u).length ∧ z.2.2.2 = rowB (-1) u ((gl next u).take z.1) st)
      (fun z => (gl next u).length - z.1) (0, A10, c10, st) ⟨rfl, rfl, rfl, rfl, rfl, rfl, trivial⟩ ⟨hS5, Nat.zero_le _, rfl⟩ ?_
    rintro ⟨j, A11, c11, sj⟩ e w6 ⟨hS6, hj, hsj⟩
    dsimp only at hS6 hj hsj ⊢
    obtain ⟨hBj, hpre⟩ := BF.row (wo := -1) ((gl next u).take j) hB hum (fun x hx => hrow.1 x (List.mem_of_mem_take hx))
    rw [← hsj] at hBj hpre
    have hR6 := hS6.oldRows hR
    have hqj := hBj.len2
    have hlj := hBj.len
    have hpl := hpre.length_le
    have hui : gi sj.2 (i : Int) = u := by rw [← hu]; exact gi_prefix hpre hi'
    refine Cd.seq ?_
    refine Cd.region ?_
    refine Ops.lss rfl rfl rfl ?_
    refine Ops.nil ?_
    refine thenQ_n ?_
    refine Cd.seq ?_
    refine Cd.cond_p _ rfl (fun h4 => ?_) (fun h4 => ?_)
    · have hj' : j < (gl next u).length := by omega
      have hrowR := hR6.at_ (i := u) hur.1 hur.2
      have hxm : gi (gl next u) (j : Int) ∈ gl next u := gi_in hj'
      have hx := hrow.1 _ hxm
      have hstep : rowB (-1) u ((gl next u).take (j + 1)) st = stepB (-1) u sj (gi (gl next u) (j : Int)) := by rw [take_succ_gi hj', rowB_snoc, ← hsj]
      have hO := hS6.rdI 1 rfl
      have hQj := hS6.rdI 0 rfl
      have hgu := hBj.val _ (gi_in2 (l := sj.1) hur.1 (by omega))
      refine Cd.skip ?_
      refine thenQ_n ?_
      refine Cd.seq ?_
      refine Cd.block ?_
      refine Cd.seq ?_
      refine Cd.region ?_
      refine Ops.idx hrowR.2 rfl rfl rfl (by omega) (by omega) ?_
      refine Ops.ld_int hrowR rfl (by omega) rfl rfl ?_
      generalize hxe : gi (gl next u) (j : Int) = x at *
      refine Ops.mv_int rfl rfl rfl ?_
      refine Ops.nil ?_
      refine thenQ_n ?_
      refine Cd.seq ?_
      refine Cd.region ?_
      refine Ops.mv_sl rfl rfl rfl ?_
      refine Ops.mv_int rfl rfl rfl ?_
      refine Ops.idx hO.2 rfl rfl rfl hx.1 hx.2 ?_
      refine Ops.ld_int hO rfl (by omega) rfl rfl ?_
      refine Ops.lss rfl rfl rfl ?_
      refine Ops.nil ?_
      refine thenQ_n ?_
      refine Cd.cond_p _ rfl (fun h5 => ?_) (fun h5 => ?_)
      · have hst : stepB (-1) u sj x = (sj.1.set x.toNat (gi sj.1 u + 1), sj.2 ++ [x]) := by unfold stepB; rw [if_pos ⟨h5, by omega⟩]
        refine Cd.seq ?_
        refine Cd.region ?_
        refine Ops.mv_sl rfl rfl rfl ?_
        refine Ops.mv_int rfl rfl rfl ?_
        refine Ops.mv_sl rfl rfl rfl ?_
        refine Ops.mv_sl rfl rfl rfl ?_
        refine Ops.idx hQj.2 rfl rfl rfl (by omega) (by omega) ?_
        refine Ops.ld_int hQj rfl (by show Int.toNat 0 < _; rw [show Int.toNat 0 = 0 from rfl]; omega) rfl rfl ?_
        rw [gi_drop, hui]
        refine Ops.idx hO.2 rfl rfl rfl hur.1 hur.2 ?_
        refine Ops.ld_int hO rfl (by omega) rfl rfl ?_
        refine Ops.add rfl rfl rfl (by omega) ?_
        refine Ops.idx hO.2 rfl rfl rfl hx.1 hx.2 ?_
        refine Ops.st_int 1 hS6 rfl rfl rfl (by omega) ?_
        intro w7 hS7
        refine Ops.nil ?_
        refine thenQ_n ?_
        refine Cd.region ?_
        refine Ops.mv_sl rfl rfl rfl ?_
        refine Ops.mv_int rfl rfl rfl ?_
        refine Ops.bs1I hS7 rfl rfl rfl ?_
        intro A12 w8 hS8
        refine Ops.appI 1 hS8 rfl (hS8.rdI 0 rfl) rfl rfl rfl (by omega) (by omega) rfl ?_
        intro A13 c13 w9 hS9
        refine Ops.mv_sl rfl rfl rfl ?_
        refine Ops.nil ?_
        refine blockQ_n ?_
        refine thenQ_n ?_
        refine Cd.region ?_
        refine Ops.add rfl rfl rfl (by omega) ?_
        refine Ops.mv_int rfl rfl rfl ?_
        refine Ops.nil ?_
        refine thenQ_n ?_
        have e2 : (sj.2 ++ [x]).length - i = sj.2.length - i + 1 := by simp; omega
        have e3 : (sj.2 ++ [x]).drop i = sj.2.drop i ++ [x] := List.drop_append_of_le_length (by omega)
        refine ⟨(j + 1, A13, c13, stepB (-1) u sj x), by show _ - (j + 1) < _ - j; omega, ⟨rfl, rfl, by show Value.slice _ _ _ = .slice _ _ _; rw [hst]; show Value.slice _ _ _ = .slice _ ((sj.2 ++ [x]).length - i) _; rw [e2], rfl, rfl, rfl, trivial⟩, ?_, hj', hstep.symm⟩
        show St w w9 [CkI _ A13 ((stepB (-1) u sj x).2.length - i) c13 ((stepB (-1) u sj x).2.drop i), CkI _ A5 n n (stepB (-1) u sj x).1]
        rw [hst]
        show St w w9 [CkI _ A13 ((sj.2 ++ [x]).length - i) c13 ((sj.2 ++ [x]).drop i), CkI _ A5 n n (sj.1.set x.toNat (gi sj.1 u + 1))]
        rw [e2, e3]
        exact hS9.tail
      · have hst : stepB (-1) u sj x = sj := by unfold stepB; rw [if_neg (fun h => h5 h.1)]
        rw [hst] at hstep
        refine Cd.skip ?_
        refine blockQ_n ?_
        refine thenQ_n ?_
        refine Cd.region ?_
        refine Ops.add rfl rfl rfl (by omega) ?_
        refine Ops.mv_int rfl rfl rfl ?_
        refine Ops.nil ?_
        refine thenQ_n ?_
        exact ⟨(j + 1, A11, c11, sj), by show _ - (j + 1) < _ - j; omega, ⟨rfl, rfl, rfl, rfl, rfl, rfl, trivial⟩, hS6, hj', hstep.symm⟩
    · refine Cd.exit ?_
      refine thenQ_x ?_
      refine thenQ_x ?_
      refine blockQ_x ?_
      refine blockQ_n ?_
      refine thenQ_n ?_
      refine Cd.region ?_
      refine Ops.mv_sl rfl rfl rfl ?_
      have hje : j = (gl next u).length := by omega
      subst hje
      rw [List.take_length] at hsj
      rw [← hsj] at hD
      refine Ops.cut_l rfl rfl rfl (by omega) ?_
      have hS7 := hS6.cutl (i := 0) rfl (show 1 ≤ sj.2.length - i by omega)
      have e2 : sj.2.length - i - 1 = sj.2.length - (i + 1) := by omega
      have e3 : (sj.2.drop i).drop 1 = sj.2.drop (i + 1) := by rw [List.drop_drop]
      refine Ops.mv_sl rfl rfl rfl ?_
      refine Ops.nil ?_
      refine thenQ_n ?_
      refine ⟨(i + 1, cutAt A11 c11 1, c11 - 1, sj), by show n + 1 - (i + 1) < n + 1 - i; omega, ⟨rfl, rfl, by show Value.slice _ _ _ = .slice _ _ _; rw [← e2]; rfl, trivial⟩, ?_, hBj, by show i + 1 ≤ sj.2.length; omega, by show distP next (-1) v = bfsD next (-1) (n + 1 - (i + 1)) (i + 1) sj; rw [hD]; congr 1⟩
      show St w w6 [CkI _ (cutAt A11 c11 1) (sj.2.length - (i + 1)) (c11 - 1) (sj.2.drop (i + 1)), _]
      rw [← e2, ← e3]
      exact hS7
  · refine Cd.exit ?_
    refine thenQ_x ?_
    refine thenQ_x ?_
    refine blockQ_x ?_
    refine thenQ_n ?_
    refine Cd.seq ?_
    refine Cd.region ?_
    refine Ops.mv_sl rfl rfl rfl ?_
    refine Ops.mv_sl rfl rfl rfl ?_
    refine Ops.nil ?_
    refine thenQ_n ?_
    refine Cd.ret ?_
    refine ret1_s rfl ?_
    rw [bfsD_end (by omega)] at hD
    rw [hD]
    exact ⟨A5, rfl, hS5.tail⟩
end Go.Proofs.YtjpkmpihmilgoaaGreat.Vc
/-
 The graph of a maniplex with its code, and distances from a vertex on both sides. Conditions: as each states them.
-/
namespace Go.Proofs.YtjpkmpihmilgoaaGreat.Vc
open Go.RowKit

theorem nb_gr {xss : List (List Int)} (hM : Mani xss) : Gr (vertsN xss) (nbL xss) := by
 have hsm := nb_small hM
 have hin := arcs_in (En := endsL xss) (b := (vertsN xss : Int)) (fun e => endsL_mem hM e (by omega)) (edgesN xss)
 refine ⟨nbL_len xss, hsm.2.1, fun u hu => ⟨fun x hx => ?_, ?_⟩⟩
 ·rw [nbL, gl_endsP, cs_mem] at hx
  exact bagP_mem _ hin u hu x hx
 ·have h1 := endsP_row (m := vertsN xss) (ps := arcs (endsL xss) (edgesN xss)) (fun p hp => (hin p hp).1) u hu
  have h2 := arcs_len (endsL xss) (edgesN xss)
  show (gl (endsP _ _) _).length ≤ _
  omega
def goK (xss : List (List Int)) (vs : List Int) : Int := if ¬ Grph xss then 1 else if ¬ allIn 0 ((vertsN xss : Int) - 1) vs then 2 else 0
def goL (xss : List (List Int)) (vs : List Int) : List (List Int) := if Grph xss ∧ allIn 0 ((vertsN xss : Int) - 1) vs then nbL xss else []
theorem goK_zero {xss : List (List Int)} {vs : List Int} (h : goK xss vs = 0) : Grph xss ∧ allIn 0 ((vertsN xss : Int) - 1) vs := by
 unfold goK at h
 split at h
 ·cases h
 ·rename_i h1
  split at h
  ·cases h
  ·rename_i h2
   exact ⟨Classical.not_not.1 h1, Classical.not_not.1 h2⟩

theorem graphOf_c (A : Option Addr) (n c : Nat) (rs : List SlV) (xss : List (List Int)) (Av : Option Addr) (nv cv : Nat) (vs : List Int) (w : World) (hR : RowsI w A n rs xss) (hn : n ≤ c) (hc : c ≤ 9223372036854775807) (hV : RdI w Av nv vs) (hnv : nv ≤ 9223372036854775807) :
  Ret Tryz.prog 83 [.agg #[.slice A n c], .slice Av nv cv] w (AnsSS (goL xss vs) (goK xss vs) w) := by
 refine Ret.of_cd Tryz.func83 rfl Tryz.ntmps83 rfl (post2 rfl) ?_
 refine Cd.seq ?_
 refine Cd.region ?_
 refine Ops.box1 (St.refl w) rfl rfl ?_
 intro Ab w1 hS1
 refine Ops.mv_sl rfl rfl rfl ?_
 refine Ops.mv_int rfl rfl rfl ?_
 refine Ops.nil ?_
 refine thenQ_n ?_
 refine Cd.seq ?_
 refine Cd.seq ?_
 refine Cd.region ?_
 refine Ops.ld_agg 0 (hS1.rd 0 rfl) rfl rfl rfl ?_
 refine Ops.call (isGraphed_c A n c rs xss _ (hS1.oldRows hR) hn hc) rfl rfl rfl ?_
 rintro _ w2 ⟨rfl, hst⟩
 have hS2 := hS1.later hst.below
 first | refine Ops.not_p rfl rfl ?_ | refine Ops.not rfl rfl ?_
 refine Ops.nil ?_
 refine thenQ_n ?_
 refine Cd.cond_p _ rfl (fun h => ?_) (fun h => ?_)
 ·refine Cd.seq ?_
  refine Cd.region ?_
  refine Ops.mv_sl rfl rfl rfl ?_
  refine Ops.mv_int rfl rfl rfl ?_
  refine Ops.nil ?_
  refine thenQ_n ?_
  refine Cd.ret ?_
  refine thenQ_r ?_
  refine ret2_si rfl rfl ?_
  rw [goK, if_pos h, goL, if_neg (fun h2 => h h2.1)]
  exact AnsSS.none hS2
 ·have hG : Grph xss := Classical.not_not.1 h
  have hsm := nb_small hG.1
  refine Cd.skip ?_
  refine thenQ_n ?_
  refine Cd.seq ?_
  refine Cd.region ?_
  refine Ops.ld_agg 0 (hS2.rd 0 rfl) rfl rfl rfl ?_
  refine Ops.call (neighboursOf_c A n c rs xss _ (hS2.oldRows hR) hG) rfl rfl rfl ?_
  rintro _ w3 ⟨A3, rs3, rfl, hrl, hst⟩
  have hS3 := hS2.none.call hst
  rw [List.append_nil] at hS3
  refine Ops.mv_sl rfl rfl rfl ?_
  refine Ops.nil ?_
  refine thenQ_n ?_
  refine Cd.seq ?_
  refine Cd.seq ?_
  refine Cd.region ?_
  refine Ops.mv_sl rfl rfl rfl ?_
  refine Ops.mv_sl rfl rfl rfl ?_
  refine Ops.call (sizeR_c _ _ _ _) rfl rfl rfl ?_
  rintro _ w3 ⟨rfl, rfl⟩
  refine Ops.sub rfl rfl rfl (by omega) ?_
  refine Ops.call (areWithin_c Av nv cv vs 0 _ _ (hS3.oldI hV) hnv) rfl rfl rfl ?_
  rintro _ w4 ⟨rfl, hst4⟩
  have hS4 := hS3.later hst4.below
  first | refine Ops.not_p rfl rfl ?_ | refine Ops.not rfl rfl ?_
  refine Ops.nil ?_
  refine thenQ_n ?_
  refine Cd.cond_p _ rfl (fun h2 => ?_) (fun h2 => ?_)
  ·refine Cd.seq ?_
   refine Cd.region ?_
   refine Ops.mv_sl rfl rfl rfl ?_
   refine Ops.mv_int rfl rfl rfl ?_
   refine Ops.nil ?_
   refine thenQ_n ?_
   refine Cd.ret ?_
   refine thenQ_r ?_
   refine ret2_si rfl rfl ?_
   rw [goK, if_neg h, if_pos h2, goL, if_neg (fun h3 => h2 h3.2)]
   exact AnsSS.none hS4
  ·have hA := Classical.not_not.1 h2
   refine Cd.skip ?_
   refine thenQ_n ?_
   refine Cd.seq ?_
   refine Cd.region ?_
   refine Ops.mv_sl rfl rfl rfl ?_
   refine Ops.mv_sl rfl rfl rfl ?_
   refine Ops.mv_int rfl rfl rfl ?_
   refine Ops.nil ?_
   refine thenQ_n ?_
   refine Cd.ret ?_
   refine ret2_si rfl rfl ?_
   rw [goK, if_neg h, if_neg h2, goL, if_pos ⟨hG, hA⟩]
   refine ⟨A3, vertsN xss, rs3, by rw [nbL_len], by rw [nbL_len]; exact hrl, ?_⟩
   rw [nbL_len]
   exact hS4

theorem allIn_one (lo hi v : Int) : allIn lo hi [v] ↔ lo ≤ v ∧ v ≤ hi := by simp [allIn]
theorem l18Code_c (A : Option Addr) (n c : Nat) (rs : List SlV) (xss : List (List Int)) (v : Int) (w : World) (hR : RowsI w A n rs xss) (hn : n ≤ 9223372036854775807) :
  Ret Tryz.prog 85 [.agg #[.slice A n c], .int .i64 v] w (fun r w' => r = .int .i64 (goK xss [v]) ∧ St w w' []) := by
 have hl := hR.len
 refine Ret.of_cd Tryz.func85 rfl Tryz.ntmps85 rfl (post1 rfl) ?_
 refine Cd.seq ?_
 refine Cd.region ?_
 refine Ops.box1 (St.refl w) rfl rfl ?_
 intro Ab w1 hS
 refine Ops.mv_int rfl rfl rfl ?_
 refine Ops.nil ?_
 refine thenQ_n ?_
 refine Cd.seq ?_
 refine Cd.block ?_
 refine Cd.seq ?_
 refine Cd.region ?_
 refine Ops.ld_agg 0 (hS.rd 0 rfl) rfl rfl rfl ?_
 refine Ops.call (l18Is_c A n c rs xss _ (hS.oldRows hR) hn) rfl rfl rfl ?_
 rintro _ w2 ⟨rfl, hst⟩
 have hS := hS.later hst.below
 first | refine Ops.not_p rfl rfl ?_ | refine Ops.not rfl rfl ?_
 refine Ops.mv_bool rfl rfl rfl ?_
 refine Ops.nil ?_
 refine thenQ_n ?_
 refine Cd.cond_p _ rfl (fun h1 => ?_) (fun h1 => ?_)
 ·refine Cd.seq ?_
  refine Cd.region ?_
  refine Ops.mv_int rfl rfl rfl ?_
  refine Ops.nil ?_
  refine thenQ_n ?_
  refine Cd.ret ?_
  refine blockQ_r ?_
  refine thenQ_r ?_
  refine ret1_i rfl ?_
  exact ⟨by rw [goK, if_pos h1], hS.none⟩
 ·have hG : Grph xss := Classical.not_not.1 h1
  have hM := hG.1
  have hsm := nb_small hM
  have h5 := hM.1
  have hmN : ((vertsN xss : Nat) : Int) = facesN xss 0 := by have := facesN_le xss 0; unfold vertsN; omega
  have hEx : ∀ x ∈ facesL xss 0, x ≤ 1000000 := fun x hx => by
   obtain ⟨k, hk, rfl⟩ := List.mem_iff_getElem.1 hx
   have := faces_in hM 0 k (by rw [← facesL_len xss 0]; exact hk)
   rw [gi_mem hk] at this
   omega
  refine Cd.seq ?_
  refine Cd.region ?_
  refine Ops.mv_int rfl rfl rfl ?_
  refine Ops.ld_agg 0 (hS.rd 0 rfl) rfl rfl rfl ?_
  refine Ops.call (l02Faces_c A n c rs xss 0 _ (hS.oldRows hR) hM (by omega)) rfl rfl rfl ?_
  rintro _ w3 ⟨A4, c4, rfl, hst4⟩
  have hS := hS.later hst4.below
  refine Ops.call (l02Greatest_c A4 _ c4 (facesL xss 0) w3 (hst4.rdI 0 rfl) (by omega) hEx) rfl rfl rfl ?_
  rintro _ w3 ⟨rfl, rfl⟩
  rw [faces_grt hM 0, ← hmN]
  refine Ops.sub rfl rfl rfl (by omega) ?_
  refine Ops.call (l01In_c _ _ _ _) rfl rfl rfl ?_
  rintro _ w3 ⟨rfl, rfl⟩
  first | refine Ops.not_p rfl rfl ?_ | refine Ops.not rfl rfl ?_
  refine Ops.mv_bool rfl rfl rfl ?_
  refine Ops.nil ?_
  refine thenQ_n ?_
  refine Cd.cond_p _ rfl (fun h2 => ?_) (fun h2 => ?_)
  ·refine Cd.seq ?_
   refine Cd.region ?_
   refine Ops.mv_int rfl rfl rfl ?_
   refine Ops.nil ?_
   refine thenQ_n ?_
   refine Cd.ret ?_
   refine blockQ_r ?_
   refine thenQ_r ?_
   refine ret1_i rfl ?_
   exact ⟨by rw [goK, if_neg h1, if_pos (fun h => h2 ((allIn_one _ _ _).1 h))], hS.none⟩
  ·refine Cd.skip ?_
   refine blockQ_n ?_
   refine thenQ_n ?_
   refine Cd.seq ?_
   refine Cd.region ?_
   refine Ops.mv_int rfl rfl rfl ?_
   refine Ops.nil ?_
   refine thenQ_n ?_
   refine Cd.ret ?_
   refine ret1_i rfl ?_
   exact ⟨by rw [goK, if_neg h1, if_neg (fun h => h ((allIn_one _ _ _).2 (Classical.not_not.1 h2)))], hS.none⟩

def vdL (xss : List (List Int)) (v : Int) : List Int := if goK xss [v] = 0 then (distP (nbL xss) (-1) v).1 else []
theorem AnsR.mk {w w' : World} {A : Option Addr} {L : List Int} {n c : Nat} {K : Int} (hl : L.length = n) (h : St w w' [CkI 2 A n c L]) : AnsR L K w (.tuple #[.slice A n c, .int .i64 K]) w' := by
 subst hl
 exact ⟨A, c, rfl, h⟩

theorem bfs_BF {n : Nat} {next : List (List Int)} {wo : Int} (hg : Gr n next) : ∀ (f i : Nat) (st : List Int × List Int), BF n st → BF n (bfsD next wo f i st)
 | 0, _, _, h => h
 | f + 1, i, st, h => by
  rw [bfsD]
  split
  ·rename_i hi
   have hum : gi st.2 (i : Int) ∈ st.2 := gi_in hi
   exact bfs_BF hg f _ _ (BF.row (wo := wo) _ h hum (hg.row _ (h.rng _ hum).1).1).1
  ·exact h
theorem dist_BF {n : Nat} {next : List (List Int)} {wo v : Int} (hg : Gr n next) (h0 : 0 ≤ v) (h1 : v < n) : BF n (distP next wo v) := by
 unfold distP
 rw [hg.len]
 exact bfs_BF hg _ _ _ (BF.init h0 h1)

theorem implVertexDistances_c (A : Option Addr) (n c : Nat) (rs : List SlV) (xss : List (List Int)) (v : Int) (w : World) (hR : RowsI w A n rs xss) (hn : n ≤ c) (hc : c ≤ 9223372036854775807) :
  Ret Tryz.prog 40 [.agg #[.slice A n c], .int .i64 v] w (AnsR (vdL xss v) (goK xss [v]) w) := by
 refine Ret.of_cd Tryz.func40 rfl Tryz.ntmps40 rfl (post2 rfl) ?_
 refine Cd.seq ?_
 refine Cd.region ?_
 refine Ops.box1 (St.refl w) rfl rfl ?_
 intro Ab w1 hS1
 refine Ops.mv_sl rfl rfl rfl ?_
 refine Ops.mv_int rfl rfl rfl ?_
 refine Ops.nil ?_
 refine thenQ_n ?_
 refine Cd.seq ?_
 refine Cd.region ?_
 refine Ops.ld_agg 0 (hS1.rd 0 rfl) rfl rfl rfl ?_
 refine Ops.mv_int rfl rfl rfl ?_
 refine Ops.bs1I hS1 rfl rfl rfl ?_
 intro A2 w2 hS2
 refine Ops.call (graphOf_c A n c rs xss A2 1 1 [v] _ (hS2.oldRows hR) hn hc (hS2.rdI 0 rfl) (by omega)) rfl rfl rfl ?_
 rintro _ w3 ⟨A3, c3, rs3, rfl, hrl, hst3⟩
 have hS3 := hS2.later hst3.below
 refine Ops.mv_tup rfl rfl rfl ?_
 refine Ops.extract rfl rfl rfl ?_
 refine Ops.extract rfl rfl rfl ?_
 refine Ops.mv_sl rfl rfl rfl ?_
 refine Ops.mv_int rfl rfl rfl ?_
 refine Ops.nil ?_
 refine thenQ_n ?_
 refine Cd.seq ?_
 refine Cd.seq ?_
 refine Cd.region ?_
 refine Ops.mv_int rfl rfl rfl ?_
 refine Ops.neq rfl rfl rfl ?_
 refine Ops.nil ?_
 refine thenQ_n ?_
 refine Cd.cond_p _ rfl (fun h => ?_) (fun h => ?_)
 ·refine Cd.seq ?_
  refine Cd.region ?_
  refine Ops.mv_int rfl rfl rfl ?_
  refine Ops.mv_sl rfl rfl rfl ?_
  refine Ops.mv_int rfl rfl rfl ?_
  refine Ops.nil ?_
  refine thenQ_n ?_
  refine Cd.ret ?_
  refine thenQ_r ?_
  refine ret2_si rfl rfl ?_
  rw [vdL, if_neg h]
  exact AnsR.none hS3
 ·have hK : goK xss [v] = 0 := Classical.not_not.1 h
  obtain ⟨hG, hA⟩ := goK_zero hK
  have hv := (allIn_one _ _ _).1 hA
  have hg := nb_gr hG.1
  have hB := dist_BF (wo := -1) hg hv.1 (by omega)
  have hL : goL xss [v] = nbL xss := by rw [goL, if_pos ⟨hG, hA⟩]
  rw [hL] at hst3 hrl ⊢
  rw [nbL_len] at hst3 ⊢
  refine Cd.skip ?_
  refine thenQ_n ?_
  refine Cd.seq ?_
  refine Cd.region ?_
  refine Ops.mv_sl rfl rfl rfl ?_
  refine Ops.mv_int rfl rfl rfl ?_
  refine Ops.call (graphDistances_c A3 _ _ rs3 (nbL xss) v _ (hst3.rowsI (nbL_len xss)) hg hv.1 (by omega)) rfl rfl rfl ?_
  rintro _ w4 ⟨A4, rfl, hst4⟩
  have hS4 := hS3.none.call hst4
  refine Ops.mv_sl rfl rfl rfl ?_
  refine Ops.mv_int rfl rfl rfl ?_
  refine Ops.nil ?_
  refine thenQ_n ?_
  refine Cd.ret ?_
  refine ret2_si rfl rfl ?_
  rw [vdL, if_pos hK, hK]
  exact AnsR.mk hB.len hS4
end Go.Proofs.YtjpkmpihmilgoaaGreat.Vc
/-
 Plain mathematics of the graph of a maniplex: its vertices hang together, neighbours are neighbours of each other, and what a search by distances finds. Conditions: as each states them. No program in sight.
-/
namespace Go.Proofs.YtjpkmpihmilgoaaGreat.Vc

/-! labels and orbits -/
theorem lab_reach {N : Nat} {xss : List (List Int)} (hs : Sys N xss) (hi' : Inj N xss) {x y : Int} (h0 : 0 ≤ x) (h1 : x < N) (hr : Reach xss x y) : ∀ i, i ≤ N → gi (lab N xss i).1 x = gi (lab N xss i).1 y
 | 0, _ => by
  have hy := hr.range hs h0 h1
  simp only [lab, gi_rep h0 h1, gi_rep hy.1 hy.2]
 | i + 1, hi => by
  have hy := hr.range hs h0 h1
  have ih := lab_reach hs hi' h0 h1 hr i (by omega)
  have ho := orbit_spec hs (pt := (i : Int)) (by omega) (by omega)
  simp only [lab]
  split
  ·exact ih
  ·simp only
   rw [gi_paint _ _ _ (lab_length N xss i) ho.1.range x h0, gi_paint _ _ _ (lab_length N xss i) ho.1.range y hy.1]
   have hm : x ∈ orbit N xss i ↔ y ∈ orbit N xss i := by
    rw [ho.2.2, ho.2.2]
    exact ⟨fun h => h.trans hr, fun h => h.trans (hr.symm hs hi' h0 h1)⟩
   by_cases h : x ∈ orbit N xss i
   ·rw [if_pos h, if_pos (hm.1 h)]
   ·rw [if_neg h, if_neg (fun h' => h (hm.2 h')), ih]
theorem lab_conv {N : Nat} {xss : List (List Int)} (hs : Sys N xss) (hi' : Inj N xss) {x y : Int} (h0 : 0 ≤ x) (h1 : x < N) (h2 : 0 ≤ y) (h3 : y < N) : ∀ i, i ≤ N → gi (lab N xss i).1 x = gi (lab N xss i).1 y → 0 ≤ gi (lab N xss i).1 x → Reach xss x y
 | 0, _, _, h => by simp only [lab, gi_rep h0 h1] at h; omega
 | i + 1, hi, he, hp => by
  have ih := lab_conv hs hi' h0 h1 h2 h3 i (by omega)
  have ho := orbit_spec hs (pt := (i : Int)) (by omega) (by omega)
  have hc := lab_count N xss i
  have hx := (lab_in hs hi' i (by omega)).1 x h0 h1
  have hy := (lab_in hs hi' i (by omega)).1 y h2 h3
  simp only [lab] at he hp
  split at he
  ·rename_i hl
   rw [if_pos hl] at hp
   exact ih he hp
  ·rename_i hl
   rw [if_neg hl] at hp
   simp only at he hp
   rw [gi_paint _ _ _ (lab_length N xss i) ho.1.range x h0] at he hp
   rw [gi_paint _ _ _ (lab_length N xss i) ho.1.range y h2] at he
   by_cases hxo : x ∈ orbit N xss i
   ·rw [if_pos hxo] at he
    by_cases hyo : y ∈ orbit N xss i
    ·exact (((ho.2.2 x).1 hxo).symm hs hi' (by omega) (by omega)).trans ((ho.2.2 y).1 hyo)
    ·rw [if_neg hyo] at he; omega
   ·rw [if_neg hxo] at he hp
    by_cases hyo : y ∈ orbit N xss i
    ·rw [if_pos hyo] at he; omega
    ·rw [if_neg hyo] at he; exact ih he hp

theorem erase_mem {xss : List (List Int)} {i k : Nat} (hk : k < xss.length) (hne : k ≠ i) : gl xss k ∈ xss.eraseIdx i := by
 rw [List.mem_eraseIdx_iff_getElem]
 exact ⟨k, hk, hne, by rw [gl_mem hk]⟩
theorem erase_of {xss : List (List Int)} {i : Nat} {p : List Int} (h : p ∈ xss.eraseIdx i) : ∃ k : Nat, k < xss.length ∧ k ≠ i ∧ p = gl xss k := by
 rw [List.mem_eraseIdx_iff_getElem] at h
 obtain ⟨k, hk, hne, rfl⟩ := h
 exact ⟨k, hk, hne, by rw [gl_mem hk]⟩
/-- a move keeps the faces of all ranks but its own -/
theorem faces_move {xss : List (List Int)} (hM : Mani xss) {i k : Nat} (hk : k < xss.length) (hne : k ≠ i) {f : Int} (h0 : 0 ≤ f) (h1 : f < (gl xss 0).length) : gi (facesL xss i) (gi (gl xss k) f) = gi (facesL xss i) f :=
  (lab_reach (hM.2.2.1.sys.erase i) (hM.2.2.1.inj.erase i) h0 h1 (.step .refl (erase_mem hk hne)) _ (Nat.le_refl _)).symm
theorem faces_same {xss : List (List Int)} (hM : Mani xss) {i : Nat} {f g : Int} (h0 : 0 ≤ f) (h1 : f < (gl xss 0).length) (h2 : 0 ≤ g) (h3 : g < (gl xss 0).length) (h : gi (facesL xss i) f = gi (facesL xss i) g) : Reach (xss.eraseIdx i) f g := by
 obtain ⟨k, rfl⟩ : ∃ k : Nat, f = k := ⟨f.toNat, by omega⟩
 exact lab_conv (hM.2.2.1.sys.erase i) (hM.2.2.1.inj.erase i) h0 h1 h2 h3 _ (Nat.le_refl _) h (faces_in hM i k (by omega)).1
theorem Mani.two {xss : List (List Int)} (hM : Mani xss) {k : Nat} (hk : k < xss.length) {f : Int} (h0 : 0 ≤ f) (h1 : f < (gl xss 0).length) : gi (gl xss k) (gi (gl xss k) f) = f := by
 obtain ⟨q, rfl⟩ : ∃ q : Nat, f = q := ⟨f.toNat, by omega⟩
 have hr := hM.2.2.1.at_ hk
 exact (hr.2.2 q (by omega)).2
theorem Mani.in_ {xss : List (List Int)} (hM : Mani xss) {k : Nat} (hk : k < xss.length) {f : Int} (h0 : 0 ≤ f) (h1 : f < (gl xss 0).length) : 0 ≤ gi (gl xss k) f ∧ gi (gl xss k) f < (gl xss 0).length :=
  (hM.2.2.1.sys _ (by rw [gl_mem hk]; exact List.getElem_mem _)).2 f h0 h1
theorem Mani.comm {xss : List (List Int)} (hM : Mani xss) {i k : Nat} (hi : i < xss.length) (hk : k < xss.length) (hik : i + 2 ≤ k) {f : Int} (h0 : 0 ≤ f) (h1 : f < (gl xss 0).length) : gi (gl xss k) (gi (gl xss i) f) = gi (gl xss i) (gi (gl xss k) f) := by
 obtain ⟨q, rfl⟩ : ∃ q : Nat, f = q := ⟨f.toNat, by omega⟩
 exact (hM.2.2.2.1 i hi k hk hik q (by omega)).1

/-! the ends of an edge -/
theorem bag_iff {Vl El : List Int} {m : Nat} : ∀ f, (∀ k : Nat, k < f → 0 ≤ gi El k ∧ gi El k < m) → ∀ (e : Int), 0 ≤ e → ∀ x, x ∈ gl (bag Vl El m f) e ↔ ∃ k : Nat, k < f ∧ gi El k = e ∧ gi Vl k = x
 | 0, _, e, he, x => by
  rw [show bag Vl El m 0 = List.replicate m [] from rfl, gl_blank]
  exact ⟨fun h => (nomatch h), fun ⟨k, hk, _⟩ => absurd hk (Nat.not_lt_zero k)⟩
 | f + 1, h, e, he, x => by
  have hf := h f (by omega)
  have ih := bag_iff (Vl := Vl) f (fun k hk => h k (by omega))
  rw [bag, gl_set2 e he (by rw [bag_len]; omega)]
  split
  ·rename_i hee
   rw [List.mem_append, ih _ hf.1 x, List.mem_singleton]
   constructor
   ·rintro (⟨k, hk, h1, h2⟩ | rfl)
    ·exact ⟨k, by omega, by omega, h2⟩
    ·exact ⟨f, by omega, by omega, rfl⟩
   ·rintro ⟨k, hk, h1, h2⟩
    by_cases hkf : k = f
    ·subst hkf; exact .inr h2.symm
    ·exact .inl ⟨k, by omega, by omega, h2⟩
  ·rename_i hee
   rw [ih e he x]
   constructor
   ·rintro ⟨k, hk, h1, h2⟩; exact ⟨k, by omega, h1, h2⟩
   ·rintro ⟨k, hk, h1, h2⟩
    by_cases hkf : k = f
    ·subst hkf; omega
    ·exact ⟨k, by omega, h1, h2⟩
theorem ends_iff {xss : List (List Int)} (hM : Mani xss) (e : Int) (he : 0 ≤ e) (x : Int) : x ∈ gl (endsL xss) e ↔ ∃ k : Nat, k < (gl xss 0).length ∧ gi (facesL xss 1) k = e ∧ gi (facesL xss 0) k = x := by
 rw [endsL, gl_ends, cs_mem, bag_iff _ (fun k hk => by have := faces_in hM 1 k hk; unfold edgesN; omega) e he]
theorem bagP_iff {m : Nat} (ps : List (Int × Int)) : (∀ p ∈ ps, 0 ≤ p.1 ∧ p.1 < m) → ∀ e : Int, 0 ≤ e → ∀ x, x ∈ gl (bagP m ps) e ↔ (e, x) ∈ ps := by
 induction ps using snoc_ind with
 | h0 =>
  intro _ e he x
  rw [show bagP m [] = List.replicate m [] from rfl, gl_blank]
  exact ⟨fun h => (nomatch h), fun h => (nomatch h)⟩
 | h1 l a ih =>
  intro h e he x
  have ha := h a (by simp)
  have ih := ih (fun p hp => h p (by simp [hp]))
  rw [bagP_snoc, gl_set2 e he (by rw [bagP_len]; omega)]
  split
  ·rename_i hee
   rw [List.mem_append, ih _ ha.1 x, List.mem_singleton, List.mem_append, List.mem_singleton]
   have e1 : a.1 = e := by omega
   rw [e1]
   constructor
   ·rintro (h | h)
    ·exact .inl h
    ·exact .inr (by rw [← e1, h])
   ·rintro (h | h)
    ·exact .inl h
    ·exact .inr (by rw [← h])
  ·rename_i hee
   rw [ih e he x, List.mem_append, List.mem_singleton]
   constructor
   ·exact .inl
   ·rintro (h | h)
    ·exact h
    ·exact absurd (by rw [← h]; exact Int.toNat_of_nonneg he) hee
theorem arcs_iff (En : List (List Int)) : ∀ (e : Nat) (p : Int × Int), p ∈ arcs En e ↔ ∃ j : Nat, j < e ∧ (gl En j).length = 2 ∧ (p = (gi (gl En j) 0, gi (gl En j) 1) ∨ p = (gi (gl En j) 1, gi (gl En j) 0))
 | 0, p => ⟨fun h => (by cases h), fun ⟨j, hj, _⟩ => absurd hj (Nat.not_lt_zero j)⟩
 | e + 1, p => by
  have ih := arcs_iff En e p
  unfold arcs
  split
  ·rename_i h2
   rw [List.mem_append, List.mem_append, List.mem_singleton, List.mem_singleton, ih]
   constructor
   ·rintro ((⟨j, hj, h⟩ | h) | h)
    ·exact ⟨j, by omega, h⟩
    ·exact ⟨e, by omega, h2, .inl h⟩
    ·exact ⟨e, by omega, h2, .inr h⟩
   ·rintro ⟨j, hj, h, h'⟩
    by_cases hje : j = e
    ·subst hje
     rcases h' with h' | h'
     ·exact .inl (.inr h')
     ·exact .inr h'
    ·exact .inl (.inl ⟨j, by omega, h, h'⟩)
  ·rename_i h2
   rw [ih]
   constructor
   ·rintro ⟨j, hj, h⟩; exact ⟨j, by omega, h⟩
   ·rintro ⟨j, hj, h, h'⟩
    by_cases hje : j = e
    ·subst hje; exact absurd h h2
    ·exact ⟨j, by omega, h, h'⟩
theorem nb_iff {xss : List (List Int)} (hM : Mani xss) (u : Int) (hu : 0 ≤ u) (x : Int) : x ∈ gl (nbL xss) u ↔ ∃ j : Nat, j < edgesN xss ∧ (gl (endsL xss) j).length = 2 ∧ ((u, x) = (gi (gl (endsL xss) j) 0, gi (gl (endsL xss) j) 1) ∨ (u, x) = (gi (gl (endsL xss) j) 1, gi (gl (endsL xss) j) 0)) := by
 have hin := arcs_in (En := endsL xss) (b := (vertsN xss : Int)) (fun e => endsL_mem hM e (by omega)) (edgesN xss)
 rw [nbL, gl_endsP, cs_mem, bagP_iff _ (fun p hp => (hin p hp).1) u hu, arcs_iff]
theorem nb_symm {xss : List (List Int)} (hM : Mani xss) {u x : Int} (hu : 0 ≤ u) (h : x ∈ gl (nbL xss) u) : u ∈ gl (nbL xss) x := by
 have hx := ((nb_gr hM).row u hu).1 x h
 obtain ⟨j, hj, h2, h3⟩ := (nb_iff hM u hu x).1 h
 rw [nb_iff hM x hx.1]
 refine ⟨j, hj, h2, ?_⟩
 simp only [Prod.mk.injEq] at h3 ⊢
 rcases h3 with h3 | h3
 ·exact .inr ⟨h3.2, h3.1⟩
 ·exact .inl ⟨h3.2, h3.1⟩

theorem ends_two {xss : List (List Int)} (hM : Mani xss) (h2 : 1 < xss.length) {f : Int} (h0 : 0 ≤ f) (h1 : f < (gl xss 0).length) {g : Int} (hr : Reach (xss.eraseIdx 1) f g) :
    (gi (facesL xss 0) g = gi (facesL xss 0) f ∧ gi (facesL xss 0) (gi (gl xss 0) g) = gi (facesL xss 0) (gi (gl xss 0) f)) ∨ (gi (facesL xss 0) g = gi (facesL xss 0) (gi (gl xss 0) f) ∧ gi (facesL xss 0) (gi (gl xss 0) g) = gi (facesL xss 0) f) := by
  induction hr with
  | refl => exact .inl ⟨rfl, rfl⟩
  | step hr hp ih =>
    rename_i y p
    have hy := Reach.range (hM.2.2.1.sys.erase 1) h0 h1 hr
    obtain ⟨k, hk, hk1, rfl⟩ := erase_of hp
    have hL : 0 < xss.length := by omega
    by_cases hk0 : k = 0
    · subst hk0
      have e := hM.two hL hy.1 hy.2
      have e : gi (gl xss ((0 : Nat) : Int)) (gi (gl xss ((0 : Nat) : Int)) y) = y := e
      simp only [Int.natCast_zero] at e ⊢
      rw [e]
      rcases ih with ⟨a, b⟩ | ⟨a, b⟩
      · exact .inr ⟨b, a⟩
      · exact .inl ⟨b, a⟩
    · have e := hM.comm hL hk (by omega) hy.1 hy.2
      have h0y := hM.in_ hL hy.1 hy.2
      have v1 := faces_move hM hk hk0 hy.1 hy.2
      have v2 := faces_move hM hk hk0 h0y.1 h0y.2
      rw [e] at v2
      simp only [Int.natCast_zero] at v2
      rw [v1, v2]
      exact ih
/-- the vertices of a flag and of the flag behind move 0 are one, or neighbours -/
theorem nb_flag {xss : List (List Int)} (hG : Grph xss) {f : Int} (h0 : 0 ≤ f) (h1 : f < (gl xss 0).length) : gi (facesL xss 0) (gi (gl xss 0) f) = gi (facesL xss 0) f ∨ gi (facesL xss 0) (gi (gl xss 0) f) ∈ gl (nbL xss) (gi (facesL xss 0) f) := by
 have hM := hG.1
 have h2 : 1 < xss.length := hG.2
 by_cases he : gi (facesL xss 0) (gi (gl xss 0) f) = gi (facesL xss 0) f
 ·exact .inl he
 ·right
  have hL : 0 < xss.length := by omega
  have hf0 := hM.in_ hL h0 h1
  simp only [Int.natCast_zero] at hf0
  obtain ⟨q, rfl⟩ : ∃ q : Nat, f = q := ⟨f.toNat, by omega⟩
  have hE := faces_in hM 1 q (by omega)
  have hV := faces_in hM 0 q (by omega)
  have hmv := faces_move hM (i := 1) hL (by omega) h0 h1
  simp only [Int.natCast_zero] at hmv
  generalize hee : gi (facesL xss 1) q = e at *
  generalize hva : gi (facesL xss 0) q = a at *
  generalize hvb : gi (facesL xss 0) (gi (gl xss 0) q) = b at *
  have hmem : ∀ x, x ∈ gl (endsL xss) e ↔ x = a ∨ x = b := by
   intro x
   rw [ends_iff hM e hE.1 x]
   constructor
   ·rintro ⟨k, hk, hke, rfl⟩
    have hr := faces_same hM (i := 1) h0 h1 (g := (k : Int)) (by omega) (by omega) (by rw [hee, hke])
    rcases ends_two hM h2 h0 h1 hr with ⟨r, _⟩ | ⟨r, _⟩
    ·rw [r]; exact .inl hva
    ·rw [r]; exact .inr hvb
   ·rintro (rfl | rfl)
    ·exact ⟨q, by omega, hee, hva⟩
    ·refine ⟨(gi (gl xss 0) q).toNat, by omega, ?_, ?_⟩
     ·rw [Int.toNat_of_nonneg hf0.1]; exact hmv
     ·rw [Int.toNat_of_nonneg hf0.1]; exact hvb
  have hnd : (gl (endsL xss) e).Nodup := by
   rw [endsL]
   exact (ends_SA _ _ _ _ _).nodup
  have hlen : (gl (endsL xss) e).length = 2 := by
   have l1 := sub_len (gl (endsL xss) e) [a, b] hnd (fun x hx => by rcases (hmem x).1 hx with rfl | rfl <;> simp)
   have l2 := sub_len [a, b] (gl (endsL xss) e) (by simp; exact fun h => he h.symm) (fun x hx => (hmem x).2 (by simpa using hx))
   simp at l1 l2
   omega
  obtain ⟨j, rfl⟩ : ∃ j : Nat, e = j := ⟨e.toNat, by omega⟩
  rw [nb_iff hM a hV.1]
  refine ⟨j, by unfold edgesN; omega, hlen, ?_⟩
  generalize gl (endsL xss) (j : Int) = l at *
  match l, hlen with
  | [x, y], _ =>
   have hx := (hmem x).1 (by simp)
   have hy := (hmem y).1 (by simp)
   simp at hnd
   simp only [Prod.mk.injEq]
   show (a = x ∧ b = y) ∨ (a = y ∧ b = x)
   rcases hx with rfl | rfl <;> rcases hy with rfl | rfl
   ·exact absurd rfl hnd
   ·exact .inl ⟨rfl, rfl⟩
   ·exact .inr ⟨rfl, rfl⟩
   ·exact absurd rfl hnd
theorem verts_conn {xss : List (List Int)} (hG : Grph xss) {S : Int → Prop} (hS : ∀ u, 0 ≤ u → S u → ∀ x ∈ gl (nbL xss) u, S x) {v u : Int} (h0 : 0 ≤ v) (h1 : v < vertsN xss) (h2 : 0 ≤ u) (h3 : u < vertsN xss) (hv : S v) : S u := by
 have hM := hG.1
 have hb : ((vertsN xss : Nat) : Int) = facesN xss 0 := by have := facesN_le xss 0; unfold vertsN; omega
 obtain ⟨f, hf, rfl⟩ := faces_hit hM 0 v h0 (by omega)
 obtain ⟨g, hg, rfl⟩ := faces_hit hM 0 u h2 (by omega)
 have hr := hM.any (f := (f : Int)) (g := (g : Int)) (by omega) (by omega) (by omega) (by omega)
 have key : ∀ y, Reach xss f y → S (gi (facesL xss 0) y) := by
  intro y hy
  induction hy with
  | refl => exact hv
  | step hr hp ih =>
   rename_i y p
   have hy := Reach.range hM.2.2.1.sys (by omega) (by omega) hr
   obtain ⟨k, hk, rfl⟩ := List.mem_iff_getElem.1 hp
   rw [← gl_mem hk]
   by_cases hk0 : k = 0
   ·subst hk0
    simp only [Int.natCast_zero]
    rcases nb_flag hG hy.1 hy.2 with h | h
    ·rw [h]; exact ih
    ·have hvy := faces_in hM 0 y.toNat (by omega)
     rw [Int.toNat_of_nonneg hy.1] at hvy
     exact hS _ hvy.1 ih _ h
   ·rw [faces_move hM hk hk0 hy.1 hy.2]; exact ih
 exact key _ hr

/-! what the search by distances finds -/
structure BQ (n : Nat) (next : List (List Int)) (v : Int) (i : Nat) (st : List Int × List Int) : Prop where
 bf : BF n st
 at0 : gi st.1 v = 0
 vin : v ∈ st.2
 all : ∀ x : Int, 0 ≤ x → x < n → 0 ≤ gi st.1 x → x ∈ st.2
 mono : ∀ a b : Nat, a ≤ b → b < st.2.length → gi st.1 (gi st.2 a) ≤ gi st.1 (gi st.2 b)
 gap : i < st.2.length → ∀ b : Nat, b < st.2.length → gi st.1 (gi st.2 b) ≤ gi st.1 (gi st.2 i) + 1
 don : ∀ a : Nat, a < i → a < st.2.length → ∀ x ∈ gl next (gi st.2 a), 0 ≤ gi st.1 x ∧ gi st.1 x ≤ gi st.1 (gi st.2 a) + 1
 par : ∀ x ∈ st.2, x ≠ v → ∃ y ∈ st.2, x ∈ gl next y ∧ gi st.1 x = gi st.1 y + 1

theorem BQ.init {n : Nat} {next : List (List Int)} {v : Int} (h0 : 0 ≤ v) (h1 : v < n) : BQ n next v 0 (initB n v) where
 bf := BF.init h0 h1
 at0 := by
  show gi ((List.replicate n (-1)).set v.toNat 0) v = 0
  rw [gi_setI (by simp; omega) h0, if_pos (by omega)]
 vin := by simp [initB]
 all := fun x hx hxn h => by
  have h : 0 ≤ gi ((List.replicate n (-1)).set v.toNat 0) x := h
  rw [gi_setI (by simp; omega) hx] at h
  split at h
  ·simp [initB]; omega
  ·rw [gi_rep hx hxn] at h; omega
 mono := fun a b hab hb => by
  have hb : b < 1 := hb
  obtain rfl : b = 0 := by omega
  obtain rfl : a = 0 := by omega
  exact Int.le_refl _
 gap := fun _ b hb => by
  have hb : b < 1 := hb
  obtain rfl : b = 0 := by omega
  omega
 don := fun a ha => absurd ha (Nat.not_lt_zero a)
 par := fun x hx hne => by simp [initB] at hx; exact absurd hx hne

theorem gi_snocL {l : List Int} {x : Int} {k : Nat} (h : k < l.length) : gi (l ++ [x]) (k : Int) = gi l (k : Int) := by simp [gi, List.getD_eq_getElem?_getD, List.getElem?_append_left h]
theorem gi_snocR {l : List Int} {x : Int} : gi (l ++ [x]) (l.length : Int) = x := by simp [gi, List.getD_eq_getElem?_getD]
theorem stepB_new {u x : Int} {st : List Int × List Int} (h : gi st.1 x < 0) (hx : 0 ≤ x) : stepB (-1) u st x = (st.1.set x.toNat (gi st.1 u + 1), st.2 ++ [x]) := by
 unfold stepB; rw [if_pos ⟨h, by omega⟩]
theorem stepB_old {u x : Int} {st : List Int × List Int} (h : ¬ gi st.1 x < 0) : stepB (-1) u st x = st := by
 unfold stepB; rw [if_neg (fun h' => h h'.1)]
/-- one neighbour met -/
theorem BQ.step {n : Nat} {next : List (List Int)} {v : Int} {i : Nat} {st : List Int × List Int} (hg : Gr n next) (h : BQ n next v i st) (hi : i < st.2.length) {x : Int} (hx : x ∈ gl next (gi st.2 i)) (h0 : 0 ≤ x) (h1 : x < n) :
    BQ n next v i (stepB (-1) (gi st.2 i) st x) ∧ i < (stepB (-1) (gi st.2 i) st x).2.length ∧ gi (stepB (-1) (gi st.2 i) st x).2 i = gi st.2 i ∧ gi (stepB (-1) (gi st.2 i) st x).1 (gi st.2 i) = gi st.1 (gi st.2 i) ∧
    (0 ≤ gi (stepB (-1) (gi st.2 i) st x).1 x ∧ gi (stepB (-1) (gi st.2 i) st x).1 x ≤ gi st.1 (gi st.2 i) + 1) ∧ ∀ y, 0 ≤ y → 0 ≤ gi st.1 y → gi (stepB (-1) (gi st.2 i) st x).1 y = gi st.1 y := by
  have hum : gi st.2 (i : Int) ∈ st.2 := gi_in hi
  have hur := h.bf.rng _ hum
  have hup := h.bf.pos _ hum
  by_cases hn : gi st.1 x < 0
  · have hbf := (h.bf.step (wo := -1) hum h0 h1).1
    rw [stepB_new hn h0] at hbf ⊢
    generalize hu : gi st.2 (i : Int) = u at *
    have hxl : x.toNat < st.1.length := by rw [h.bf.len]; omega
    have old : ∀ y, 0 ≤ y → 0 ≤ gi st.1 y → gi (st.1.set x.toNat (gi st.1 u + 1)) y = gi st.1 y := fun y hy hp => by
      rw [gi_setI hxl hy]
      split
      · rename_i e; rw [show y = x by omega] at hp; omega
      · rfl
    have new : gi (st.1.set x.toNat (gi st.1 u + 1)) x = gi st.1 u + 1 := by rw [gi_setI hxl h0, if_pos (by omega)]
    have oldq : ∀ b : Nat, b < st.2.length → gi (st.1.set x.toNat (gi st.1 u + 1)) (gi (st.2 ++ [x]) b) = gi st.1 (gi st.2 b) := fun b hb => by
      rw [gi_snocL hb]
      have hm : gi st.2 (b : Int) ∈ st.2 := gi_in hb
      exact old _ (h.bf.rng _ hm).1 (h.bf.pos _ hm)
    have newq : gi (st.1.set x.toNat (gi st.1 u + 1)) (gi (st.2 ++ [x]) (st.2.length : Int)) = gi st.1 u + 1 := by rw [gi_snocR, new]
    have hl : (st.2 ++ [x]).length = st.2.length + 1 := by simp
    have hvr := h.bf.rng _ h.vin
    have hgap := h.gap hi
    rw [hu] at hgap
    refine ⟨⟨hbf, ?_, ?_, ?_, ?_, ?_, ?_, ?_⟩, by show i < (st.2 ++ [x]).length; omega, by rw [gi_snocL hi, hu], old u hur.1 hup, ⟨by rw [new]; omega, by rw [new]; exact Int.le_refl _⟩, old⟩
    · show gi (st.1.set _ _) v = 0
      rw [old v hvr.1 (by rw [h.at0]; exact Int.le_refl _), h.at0]
    · exact List.mem_append_left _ h.vin
    · intro y hy hyn hp
      by_cases hyx : y = x
      · subst hyx; exact List.mem_append_right _ (by simp)
      · refine List.mem_append_left _ (h.all y hy hyn ?_)
        have hp : 0 ≤ gi (st.1.set x.toNat (gi st.1 u + 1)) y := hp
        rw [gi_setI hxl hy, if_neg (by omega)] at hp
        exact hp
    · intro a b hab hb
      have hb : b < (st.2 ++ [x]).length := hb
      by_cases hbl : b < st.2.length
      · show gi (st.1.set _ _) (gi (st.2 ++ [x]) a) ≤ gi (st.1.set _ _) (gi (st.2 ++ [x]) b)
        rw [oldq a (by omega), oldq b hbl]
        exact h.mono a b hab hbl
      · obtain rfl : b = st.2.length := by omega
        show gi (st.1.set _ _) (gi (st.2 ++ [x]) a) ≤ gi (st.1.set _ _) (gi (st.2 ++ [x]) _)
        rw [newq]
        by_cases hal : a < st.2.length
        · rw [oldq a hal]; exact hgap a hal
        · obtain rfl : a = st.2.length := by omega
          rw [newq]; exact Int.le_refl _
    · intro _ b hb
      have hb : b < (st.2 ++ [x]).length := hb
      show gi (st.1.set _ _) (gi (st.2 ++ [x]) b) ≤ gi (st.1.set _ _) (gi (st.2 ++ [x]) i) + 1
      rw [oldq i hi, hu]
      by_cases hbl : b < st.2.length
      · rw [oldq b hbl]; exact hgap b hbl
      · obtain rfl : b = st.2.length := by omega
        rw [newq]; exact Int.le_refl _
    · intro a ha hal y hy
      have hy : y ∈ gl next (gi (st.2 ++ [x]) a) := hy
      rw [gi_snocL (by omega)] at hy
      have hd := h.don a ha (by omega) y hy
      have hy0 : 0 ≤ y := ((hg.row _ (h.bf.rng _ (gi_in (show a < st.2.length by omega))).1).1 y hy).1
      show 0 ≤ gi (st.1.set _ _) y ∧ gi (st.1.set _ _) y ≤ gi (st.1.set _ _) (gi (st.2 ++ [x]) a) + 1
      rw [old y hy0 hd.1, oldq a (by omega)]
      exact hd
    · intro y hy hne
      have hy : y ∈ st.2 ++ [x] := hy
      rcases List.mem_append.1 hy with hy | hy
      · obtain ⟨z, hz, hzy, hzd⟩ := h.par y hy hne
        refine ⟨z, List.mem_append_left _ hz, hzy, ?_⟩
        show gi (st.1.set _ _) y = gi (st.1.set _ _) z + 1
        rw [old y (h.bf.rng y hy).1 (h.bf.pos y hy), old z (h.bf.rng z hz).1 (h.bf.pos z hz)]
        exact hzd
      · simp at hy; subst hy
        refine ⟨u, List.mem_append_left _ hum, hx, ?_⟩
        show gi (st.1.set _ _) y = gi (st.1.set _ _) u + 1
        rw [new, old u hur.1 hup]
  · rw [stepB_old hn]
    have hxq := h.all x h0 h1 (by omega)
    obtain ⟨b, hb, hbx⟩ := List.mem_iff_getElem.1 hxq
    have hg := h.gap hi b hb
    rw [gi_mem hb, hbx] at hg
    exact ⟨h, hi, rfl, rfl, ⟨by omega, hg⟩, fun _ _ _ => rfl⟩

theorem BQ.row {n : Nat} {next : List (List Int)} {v : Int} {i : Nat} (hg : Gr n next) (u : Int) (r : List Int) : ∀ {st : List Int × List Int}, BQ n next v i st → i < st.2.length → gi st.2 i = u → (∀ x ∈ r, x ∈ gl next u) →
  BQ n next v i (rowB (-1) u r st) ∧ i < (rowB (-1) u r st).2.length ∧ gi (rowB (-1) u r st).2 i = u ∧ gi (rowB (-1) u r st).1 u = gi st.1 u ∧ (∀ x ∈ r, 0 ≤ gi (rowB (-1) u r st).1 x ∧ gi (rowB (-1) u r st).1 x ≤ gi st.1 u + 1) := by
 induction r using snoc_ind with
 | h0 => intro st h hi hu _; exact ⟨h, hi, hu, rfl, fun x hx => by cases hx⟩
 | h1 l a ih =>
  intro st h hi hu hr
  obtain ⟨h1, h2, h3, h4, h5⟩ := ih h hi hu (fun x hx => hr x (by simp [hx]))
  have ha := hr a (by simp)
  have hur := h1.bf.rng _ (gi_in h2)
  rw [h3] at hur
  have har := (hg.row u hur.1).1 a ha
  rw [rowB_snoc]
  have hs := h1.step hg h2 (x := a) (by rw [h3]; exact ha) har.1 har.2
  rw [h3] at hs
  obtain ⟨s1, s2, s3, s4, s5, s6⟩ := hs
  refine ⟨s1, s2, s3, by rw [s4, h4], fun x hx => ?_⟩
  rcases List.mem_append.1 hx with hx | hx
  ·have hx5 := h5 x hx
   have hxr := (hg.row u hur.1).1 x (hr x (by simp [hx]))
   rw [s6 x hxr.1 hx5.1]
   exact hx5
  ·simp at hx; subst hx
   rw [h4] at s5
   exact s5
theorem BQ.next {n : Nat} {next : List (List Int)} {v : Int} {i : Nat} {st : List Int × List Int} (hg : Gr n next) (h : BQ n next v i st) (hi : i < st.2.length) : BQ n next v (i + 1) (rowB (-1) (gi st.2 i) (gl next (gi st.2 i)) st) := by
 obtain ⟨h1, h2, h3, h4, h5⟩ := BQ.row hg (gi st.2 i) (gl next (gi st.2 i)) h hi rfl (fun x hx => hx)
 refine ⟨h1.bf, h1.at0, h1.vin, h1.all, h1.mono, fun hi1 b hb => ?_, fun a ha hal x hx => ?_, h1.par⟩
 ·have hg1 := h1.gap h2 b hb
  have hm := h1.mono i (i + 1) (by omega) hi1
  omega
 ·by_cases hai : a = i
  ·subst hai
   rw [h3] at hx ⊢
   rw [h4]
   exact h5 x hx
  ·exact h1.don a (by omega) hal x hx
theorem bfs_BQ {n : Nat} {next : List (List Int)} {v : Int} (hg : Gr n next) : ∀ (f i : Nat) (st : List Int × List Int), BQ n next v i st → i ≤ st.2.length → n + 1 ≤ f + i → ∃ i', BQ n next v i' (bfsD next (-1) f i st) ∧ (bfsD next (-1) f i st).2.length ≤ i'
 | 0, i, st, h, hi, hf => by have := h.bf.len2; omega
 | f + 1, i, st, h, hi, hf => by
  rw [bfsD]
  split
  ·rename_i hlt
   have hn := h.next hg hlt
   have hpre := (BF.row (wo := -1) (gl next (gi st.2 i)) h.bf (gi_in hlt) ((hg.row _ (h.bf.rng _ (gi_in hlt)).1).1)).2
   have := hpre.length_le
   exact bfs_BQ hg f (i + 1) _ hn (by omega) (by omega)
  ·exact ⟨i, h, by omega⟩
/-- distances: 0 at the start; defined at the neighbours of what is met, and at most one more; and each other one has a neighbour one nearer -/
structure DF (n : Nat) (next : List (List Int)) (v : Int) (far : List Int) : Prop where
 len : far.length = n
 at0 : gi far v = 0
 nxt : ∀ y : Int, 0 ≤ y → y < n → 0 ≤ gi far y → ∀ x ∈ gl next y, 0 ≤ gi far x ∧ gi far x ≤ gi far y + 1
 par : ∀ x : Int, 0 ≤ x → x < n → 0 ≤ gi far x → x ≠ v → ∃ y : Int, (0 ≤ y ∧ y < n) ∧ x ∈ gl next y ∧ 0 ≤ gi far y ∧ gi far x = gi far y + 1
 top : ∀ x : Int, 0 ≤ x → x < n → gi far x < n
theorem dist_DF {n : Nat} {next : List (List Int)} {v : Int} (hg : Gr n next) (h0 : 0 ≤ v) (h1 : v < n) : DF n next v (distP next (-1) v).1 := by
 have hB := dist_BF (wo := -1) hg h0 h1
 unfold distP at hB ⊢
 rw [hg.len] at hB ⊢
 obtain ⟨i', hq, hi'⟩ := bfs_BQ hg (n + 1) 0 (initB n v) (BQ.init h0 h1) (Nat.zero_le _) (by omega)
 generalize bfsD next (-1) (n + 1) 0 (initB n v) = st at *
 refine ⟨hB.len, hq.at0, fun y hy hyn hp x hx => ?_, fun x hx hxn hp hne => ?_, fun x hx hxn => ?_⟩
 ·obtain ⟨a, ha, hay⟩ := List.mem_iff_getElem.1 (hq.all y hy hyn hp)
  have hd := hq.don a (by omega) ha
  rw [gi_mem ha, hay] at hd
  exact hd x hx
 ·obtain ⟨y, hy, hxy, hd⟩ := hq.par x (hq.all x hx hxn hp) hne
  exact ⟨y, hB.rng y hy, hxy, hB.pos y hy, hd⟩
 ·have h3 := hB.val _ (gi_in2 hx (by rw [hB.len]; exact hxn))
  have h4 := hB.len2
  omega
/-- in the graph of a maniplex all vertices are met -/
theorem dist_all {xss : List (List Int)} (hG : Grph xss) {v : Int} (h0 : 0 ≤ v) (h1 : v < vertsN xss) {u : Int} (h2 : 0 ≤ u) (h3 : u < vertsN xss) : 0 ≤ gi (distP (nbL xss) (-1) v).1 u := by
 have hg := nb_gr hG.1
 have hD := dist_DF hg h0 h1
 have key := verts_conn hG (S := fun y => (0 ≤ y ∧ y < vertsN xss) ∧ 0 ≤ gi (distP (nbL xss) (-1) v).1 y) (fun y hy hS x hx => ⟨(hg.row y hy).1 x hx, (hD.nxt y hy hS.1.2 hS.2 x hx).1⟩) h0 h1 h2 h3 ⟨⟨h0, h1⟩, by rw [hD.at0]; exact Int.le_refl _⟩
 exact key.2
end Go.Proofs.YtjpkmpihmilgoaaGreat.Vc
