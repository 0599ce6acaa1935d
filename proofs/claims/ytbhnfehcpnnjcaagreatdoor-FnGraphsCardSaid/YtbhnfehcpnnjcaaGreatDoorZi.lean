/-
  The texts Dh, Anx, Di, Two, Cs8, Cs9, Uni, Dj, Dk, Dl, Dm, Dr0, Gp2, Open, Opm, Opy in one. Conditions: as each part states them.
-/
import Derived.Test.YtbhnfehcpnnjcaaGreatDoorZh
import Derived.Test.YtbhnfehcpnnjcaaGreatDoorZc
import Derived.Test.YtbhnfehcpnnjcaaGreatDoorZb
import Derived.Test.YtbhnfehcpnnjcaaGreatDoorZg
import Derived.Test.YtbhnfehcpnnjcaaGreatDoorZf
import Derived.Test.YtbhnfehcpnnjcaaGreatDoorZe
import Derived.Test.YtbhnfehcpnnjcaaGreatDoorZa
import Derived.Test.YtbhnfehcpnnjcaaGreatDoorInst
import Derived.Deep.Matrix
import Derived.Carry
import Derived.Below
import Derived.ChangeSame
import Derived.ProofKit
import Derived.OpenShut
import Derived.Handed
import Derived.Lib.SmallJoins
/-
 The draws of maniplexes, walked: rotations drawn. Conditions: as each states them.
-/
namespace Go.Proofs.YtbhnfehcpnnjcaaGreatDoor.Vc
open Go.RowKit

theorem l14DrawRotation_c {w0 w : World} {ks : List Ck} (ix : Nat) {As : Option Addr} {k : Ck} (most : Int) (hS : St w0 w ks) (hk : ks[ix]? = some k) (hK : srcK w0 As k) (hm : most ≤ 100000) :
  Ret Tryz.prog 107 [.pointer As, .int .i64 most] w (fun v w' => ∃ A n c xs k', v = .slice A n c ∧ n ≤ 200000 ∧ Rg n xs ∧ srcK w0 As k' ∧ St w0 w' (CkI 2 A n c xs :: ks.set ix k')) := by
 refine Ret.of_cd Tryz.func107 rfl Tryz.ntmps107 rfl (post1 rfl) (Cd.seq (Cd.region (Ops.ms rfl rfl rfl (Ops.n (tQ (Cd.seq (Cd.region (Ops.mv_ptr rfl rfl rfl (Ops.mi rfl rfl rfl ?_)))))))))
 refine Ops.maxI rfl rfl rfl ?_
 skip
 refine Ops.call (srcNext_c ix _ hS hk hK) rfl rfl rfl ?_
 rintro _ w1 ⟨r, k1, rfl, hr, hK1, hS1⟩
 have hk1 := setK_get (k' := k1) hk
 obtain ⟨n, hn⟩ : ∃ n : Nat, 2 * (1 + r) = n := ⟨(2 * (1 + r)).toNat, by omega⟩
 refine Ops.add rfl rfl rfl (by omega) (Ops.mul rfl rfl rfl (by omega) (Ops.mi rfl rfl rfl (Ops.n (tQ (Cd.seq (Cd.region ?_))))))
 rw [hn]
 refine Ops.bs0 hS1 rfl ?_
 intro A6 w2 hS2
 have hS2 : St w0 w2 (CkI 2 A6 0 0 [] :: ks.set ix k1) := hS2
 refine Ops.ms rfl rfl rfl (Ops.n (tQ (Cd.seq (Cd.seq (Cd.region (Ops.mi rfl rfl rfl (Ops.n (tQ (Cd.block ?_)))))))))
 refine Cd.loop (α := Nat × Option Addr × Nat × List Int × Ck) (fun s => [(0, .pointer As), (5, .int .i64 (n : Int)), (6, .slice s.2.1 s.1 s.2.2.1), (7, .int .i64 (s.1 : Int))]) (fun s w' => St w0 w' (CkI 2 s.2.1 s.1 s.2.2.1 s.2.2.2.1 :: ks.set ix s.2.2.2.2) ∧ Rg s.1 s.2.2.2.1 ∧ srcK w0 As s.2.2.2.2 ∧ s.1 ≤ n) (fun s => n - s.1) (0, A6, 0, [], k1) ⟨rfl, rfl, rfl, rfl, trivial⟩ ⟨hS2, ⟨rfl, fun x hx => (nomatch hx)⟩, hK1, Nat.zero_le _⟩ ?_
 rintro ⟨d, A6, c6, xs, k2⟩ e w3 ⟨hS3, hx, hK2, hd⟩
 dsimp only at hS3 hx hK2 hd ⊢
 have hk2 := setK_get (k' := k2) hk
 refine Cd.seq (Cd.seq (Cd.region (Ops.mi rfl rfl rfl (Ops.mi rfl rfl rfl (Ops.lss rfl rfl rfl (Ops.n (tQ ?_)))))))
 refine Cd.cond_p _ rfl (fun h1 => ?_) (fun h1 => ?_)
 ·refine Cd.skip (tQ (Cd.seq (Cd.block (Cd.seq (Cd.region (Ops.mv_ptr rfl rfl rfl (Ops.mi rfl rfl rfl (Ops.add rfl rfl rfl (by omega) (Ops.call (srcNext_c (ix + 1) ((d : Int) + 1) hS3 (by exact hk2) hK2) rfl rfl rfl ?_)))))))))
  rintro _ w4 ⟨g, k3, rfl, hg, hK3, hS4⟩
  have hS4 : St w0 w4 (CkI 2 A6 d c6 xs :: (ks.set ix k2).set ix k3) := hS4
  rw [List.set_set] at hS4
  obtain ⟨q, rfl⟩ : ∃ q : Nat, g = q := ⟨g.toNat, by omega⟩
  have hq : q ≤ d := by omega
  refine Ops.mi rfl rfl rfl (Ops.n (tQ (Cd.seq (Cd.region (Ops.mi rfl rfl rfl (Ops.bs1I hS4 rfl rfl rfl ?_))))))
  intro A27 w5 hS5
  have hc6 := hS5.cap 1 rfl
  refine Ops.ms rfl rfl rfl (Ops.mi rfl rfl rfl (Ops.cut_l rfl rfl rfl (by omega) ?_))
  skip
  refine Ops.appI 0 hS5 rfl ((hS5.rdI 1 rfl).drop hq hc6.1) rfl rfl rfl (by omega) (by omega) rfl ?_
  intro A31 c31 w6 hS6
  refine Ops.ms rfl rfl rfl (Ops.n (tQ (Cd.region (Ops.bs0 hS6 rfl ?_))))
  intro A32 w7 hS7
  have hc6 : d ≤ c6 ∧ c6 ≤ 9223372036854775807 := hS7.cap 2 rfl
  refine Ops.ms rfl rfl rfl (Ops.mi rfl rfl rfl (Ops.cut_h rfl rfl rfl (by omega) ?_))
  skip
  refine Ops.appI (xs := []) 0 hS7 rfl ((hS7.rdI 2 rfl).take hq) rfl rfl rfl (by omega) (by omega) rfl ?_
  intro A36 c36 w8 hS8
  refine Ops.ms rfl rfl rfl (Ops.appI 0 hS8 rfl (hS8.rdI 1 rfl) rfl rfl rfl (by omega) (by omega) rfl ?_)
  intro A38 c38 w9 hS9
  have hN : 0 + q + (1 + (d - q)) = d + 1 := by omega
  have hS9 : St w0 w9 (CkI 2 A38 (0 + q + (1 + (d - q))) c38 (([] ++ xs.take q) ++ ([(d : Int)] ++ xs.drop q)) :: ks.set ix k3) := hS9.sub (List.Sublist.cons_cons _ (((List.Sublist.refl _).cons _).cons _))
  have hx1 := hx.1
  rw [hN] at hS9
  refine Ops.ms rfl rfl rfl (Ops.n (blockQ_n (tQ (Cd.region (Ops.mi rfl rfl rfl (Ops.add rfl rfl rfl (by omega) (Ops.mi rfl rfl rfl (Ops.n (tQ ?_)))))))))
  refine ⟨(d + 1, A38, c38, ([] ++ xs.take q) ++ ([(d : Int)] ++ xs.drop q), k3), by show n - (d + 1) < n - d; omega, ⟨rfl, rfl, ?_, rfl, trivial⟩, hS9, ⟨by simp; omega, fun x hx' => ?_⟩, hK3, by show d + 1 ≤ n; omega⟩
  ·exact congrArg (fun z => Value.slice A38 z c38) hN
  ·have hb : x = (d : Int) ∨ x ∈ xs := by
    simp only [List.nil_append, List.mem_append, List.mem_singleton] at hx'
    rcases hx' with h | h | h
    ·exact .inr (List.mem_of_mem_take h)
    ·exact .inl h
    ·exact .inr (List.mem_of_mem_drop h)
   rcases hb with rfl | hb
   ·omega
   ·have := hx.2 x hb; omega
 ·have hdn : d = n := by omega
  refine Cd.exit (thenQ_x (thenQ_x (blockQ_x (tQ (Cd.seq (Cd.region (Ops.ms rfl rfl rfl (Ops.ms rfl rfl rfl (Ops.n ?_)))))))))
  refine tQ (Cd.ret (ret1_s rfl ?_))
  exact ⟨A6, d, c6, xs, k2, rfl, by omega, hx, hK2, hS3⟩

theorem l14Is_c (A : Option Addr) (n c : Nat) (rs : List SlV) (xss : List (List Int)) (w : World) (hR : RowsI w A n rs xss) (hn : n ≤ 9223372036854775807) :
  Ret Tryz.prog 109 [.agg #[.slice A n c]] w (fun v w' => v = .bool (decide (Mani xss ∧ n = 3)) ∧ St w w' []) := by
 refine Ret.of_cd Tryz.func109 rfl Tryz.ntmps109 rfl (post1 rfl) (Cd.seq (Cd.region (Ops.box1 (St.refl w) rfl rfl ?_)))
 intro A1 w1 hS1
 refine Ops.mb rfl rfl rfl (Ops.n (tQ (Cd.seq (Cd.region (Ops.ld_agg 0 (hS1.rd 0 rfl) rfl rfl rfl ?_)))))
 skip
 refine Ops.call (l02Is_c A n c rs xss w1 (hS1.oldRows hR) hn) rfl rfl rfl ?_
 rintro _ w2 ⟨rfl, hT⟩
 have hS2 := hS1.later hT.below
 refine Ops.mb rfl rfl rfl ?_
 refine Ops.split_p 5 rfl (fun h1 => ?_) (fun h1 => ?_)
 ·refine Ops.g rfl rfl rfl (Ops.fld (hS2.rd 0 rfl) rfl rfl rfl rfl inferInstance (Ops.g rfl rfl rfl (Ops.ldf_s (hS2.rd 0 rfl) rfl rfl rfl rfl rfl (Ops.g rfl rfl rfl (Ops.len rfl rfl (Ops.g rfl rfl rfl (Ops.eql rfl rfl rfl (Ops.pick_t rfl rfl rfl (Ops.mb rfl rfl rfl ?_)))))))))
  refine Ops.n (tQ (Cd.ret (ret1_b rfl ?_)))
  exact ⟨congrArg Value.bool (decide_eq_decide.2 ⟨fun h => ⟨h1, by omega⟩, fun h => by omega⟩), hS2.tail⟩
 ·refine Ops.k rfl rfl rfl rfl rfl (Ops.k rfl rfl rfl rfl rfl (Ops.k rfl rfl rfl rfl rfl (Ops.k rfl rfl rfl rfl rfl (Ops.pick_f rfl rfl rfl (Ops.mb rfl rfl rfl (Ops.n (tQ (Cd.ret (ret1_b rfl ?_)))))))))
  exact ⟨congrArg Value.bool (Eq.symm (decide_eq_false fun h => h1 h.1)), hS2.tail⟩

theorem IsRotation_c (A : Option Addr) (n c : Nat) (p : List Int) (w : World) (hR : RdI w A n p) (hn : n ≤ 9223372036854775807) :
  Ret Tryz.prog 124 [.slice A n c] w (fun v w' => (∃ b, v = .bool b ∧ (b = true → (2 ≤ n ∧ n ≤ 200) ∧ IsPerm p)) ∧ St w w' []) := by
 refine Ret.of_cd Tryz.func124 rfl Tryz.ntmps124 rfl (post1 rfl) (Cd.seq (Cd.region (Ops.mb rfl rfl rfl (Ops.n (tQ (Cd.seq (Cd.region (Ops.ms rfl rfl rfl (Ops.len rfl rfl ?_)))))))))
 refine Ops.geq rfl rfl rfl (Ops.mb rfl rfl rfl ?_)
 refine Ops.split_p 6 rfl (fun h1 => ?_) (fun h1 => ?_)
 ·refine Ops.g rfl rfl rfl (Ops.ms rfl rfl rfl (Ops.g rfl rfl rfl (Ops.len rfl rfl (Ops.g rfl rfl rfl (Ops.rem rfl rfl rfl (by omega) (Ops.g rfl rfl rfl (Ops.eql rfl rfl rfl (Ops.pick_t rfl rfl rfl (Ops.mb rfl rfl rfl ?_)))))))))
  refine Ops.split_p 12 rfl (fun h2 => ?_) (fun h2 => ?_)
  ·refine Ops.g rfl rfl rfl (Ops.ms rfl rfl rfl (Ops.g rfl rfl rfl (Ops.len rfl rfl (Ops.g rfl rfl rfl (Ops.leq rfl rfl rfl (Ops.pick_t rfl rfl rfl (Ops.mb rfl rfl rfl ?_)))))))
   refine Ops.split_p 17 rfl (fun h3 => ?_) (fun h3 => ?_)
   ·refine Ops.g rfl rfl rfl (Ops.ms rfl rfl rfl (Ops.g rfl rfl rfl (Ops.call (l01Perm_c A n c p w hR) rfl rfl rfl ?_)))
    rintro _ w1 ⟨rfl, hT⟩
    refine Ops.pick_t rfl rfl rfl (Ops.mb rfl rfl rfl (Ops.n (tQ (Cd.ret (ret1_b rfl ?_)))))
    exact ⟨⟨_, rfl, fun h => ⟨by omega, of_decide_eq_true h⟩⟩, hT⟩
   ·refine Ops.k rfl rfl rfl rfl rfl (Ops.k rfl rfl rfl rfl rfl (Ops.pick_f rfl rfl rfl (Ops.mb rfl rfl rfl (Ops.n (tQ (Cd.ret (ret1_b rfl ?_)))))))
    exact ⟨⟨false, rfl, fun h => (nomatch h)⟩, St.refl w⟩
  ·refine Ops.k rfl rfl rfl rfl rfl (Ops.k rfl rfl rfl rfl rfl (Ops.k rfl rfl rfl rfl rfl (Ops.pick_f rfl rfl rfl (Ops.mb rfl rfl rfl (Ops.k rfl rfl rfl rfl rfl (Ops.k rfl rfl rfl rfl rfl (Ops.pick_f rfl rfl rfl (Ops.mb rfl rfl rfl (Ops.n ?_)))))))))
   refine tQ (Cd.ret (ret1_b rfl ?_))
   exact ⟨⟨false, rfl, fun h => (nomatch h)⟩, St.refl w⟩
 ·refine Ops.k rfl rfl rfl rfl rfl (Ops.k rfl rfl rfl rfl rfl (Ops.k rfl rfl rfl rfl rfl (Ops.k rfl rfl rfl rfl rfl (Ops.pick_f rfl rfl rfl (Ops.mb rfl rfl rfl (Ops.k rfl rfl rfl rfl rfl (Ops.k rfl rfl rfl rfl rfl (Ops.k rfl rfl rfl rfl rfl (Ops.pick_f rfl rfl rfl ?_)))))))))
  refine Ops.mb rfl rfl rfl (Ops.k rfl rfl rfl rfl rfl (Ops.k rfl rfl rfl rfl rfl (Ops.pick_f rfl rfl rfl (Ops.mb rfl rfl rfl (Ops.n (tQ (Cd.ret (ret1_b rfl ?_))))))))
  exact ⟨⟨false, rfl, fun h => (nomatch h)⟩, St.refl w⟩
end Go.Proofs.YtbhnfehcpnnjcaaGreatDoor.Vc
/-
 An answer: a maniplex and a code. Conditions: none.
-/
namespace Go.Proofs.YtbhnfehcpnnjcaaGreatDoor.Vc
open Go.RowKit

/-- an answer: a maniplex, or none, and a code -/
def AnsX (L : List (List Int)) (K : Int) (w : World) (v : Value) (w' : World) : Prop := ∃ A c, ∃ rs : List SlV, v = .tuple #[.agg #[.slice A L.length c], .int .i64 K] ∧ rs.length = L.length ∧ St w w' (mat 28 2 A L.length c rs L)
end Go.Proofs.YtbhnfehcpnnjcaaGreatDoor.Vc
/-
 The draws of maniplexes, walked: the map of a rotation. Conditions: as each states them.
-/
namespace Go.Proofs.YtbhnfehcpnnjcaaGreatDoor.Vc
open Go.RowKit

/-- an answer: a code and rows of numbers in memory of its own -/
def AnsQ (w : World) (v : Value) (w' : World) : Prop :=
 ∃ (n : Nat) (A : Option Addr) (c : Nat) (rs : List SlV) (xss : List (List Int)) (code : Int), v = .tuple #[.agg #[.slice A n c], .int .i64 code] ∧ n ≤ 6 ∧ rs.length = n ∧ xss.length = n ∧ (∀ p ∈ xss, p.length ≤ 20001 ∧ ∀ x ∈ p, -1 ≤ x ∧ x ≤ 20001) ∧ St w w' (mat 28 2 A n c rs xss)

def Qb (M : Nat) (y : List Int) : Prop := y.length = M ∧ ∀ x ∈ y, -1 ≤ x ∧ x ≤ 20001
theorem Qb.set {M : Nat} {y : List Int} {i : Nat} {v : Int} (h : Qb M y) (hv : -1 ≤ v ∧ v ≤ 20001) : Qb M (y.set i v) :=
 ⟨by rw [List.length_set]; exact h.1, fun z hz => (List.mem_or_eq_of_mem_set hz).elim (h.2 z) (fun e => e ▸ hv)⟩
theorem Qb.zero {M : Nat} : Qb M (List.replicate M 0) := ⟨by simp, fun x hx => by obtain ⟨_, rfl⟩ := List.mem_replicate.1 hx; decide⟩

/-- how far the open statement is -/
structure Mr4 (w0 : World) (n M : Nat) (A : Option Addr) (c : Nat) (A2 : Option Addr) (S : Nat → Bool) (e : Env) (w : World) : Prop where
  f0 : e 0 = .slice A n c
  f2 : e 2 = .pointer A2
  f4 : e 4 = .int .i64 (n : Int)
  p0 : S 0 = true → e 15 = .int .i64 (n : Int)
  p1 : S 1 = true → e 16 = .int .i64 (M : Int)
  p3 : S 3 = true → e 18 = .int .i64 (n : Int)
  p4 : S 4 = true → e 19 = .int .i64 (M : Int)
  p6 : S 6 = true → e 21 = .int .i64 (n : Int)
  p7 : S 7 = true → e 22 = .int .i64 (M : Int)
  mem : ∃ (B0 B1 B2 A24 A5 : Option Addr) (b0 b1 b2 b3 b5 : List Ck) (vs : List Value),
    (S 2 = true → e 17 = .slice B0 M M ∧ b0 = [CkI 2 B0 M M (List.replicate M 0)]) ∧
    (S 5 = true → e 20 = .slice B1 M M ∧ b1 = [CkI 2 B1 M M (List.replicate M 0)]) ∧
    (S 8 = true → e 23 = .slice B2 M M ∧ b2 = [CkI 2 B2 M M (List.replicate M 0)]) ∧
    (S 9 = true → e 24 = .slice A24 3 3 ∧ b3 = [CkR 28 A24 3 3 [⟨B0, M, M⟩, ⟨B1, M, M⟩, ⟨B2, M, M⟩]]) ∧
    (S 10 = true → e 25 = .agg #[.slice A24 3 3]) ∧
    (S 11 = true → e 5 = .pointer A5 ∧ b5 = [Bx 26 1 A5 vs]) ∧
    (S 12 = false → vs = [.slice none 0 0]) ∧
    (S 12 = true → vs = [.slice A24 3 3]) ∧
    St w0 w (b3 ++ (b0 ++ (b1 ++ (b2 ++ (b5 ++ [Bx 26 1 A2 [.slice none 0 0]])))))

theorem MapOfRotation_c (A : Option Addr) (n c : Nat) (p : List Int) (w : World) (hR : RdI w A n p) (hn : n ≤ 9223372036854775807) :
  Ret Tryz.prog 108 [.slice A n c] w (AnsQ w) := by
 refine Ret.of_cd Tryz.func108 rfl Tryz.ntmps108 rfl (postc2 rfl rfl) (Cd.seq (Cd.region (Ops.new1 (St.refl w) rfl ?_)))
 intro A2 w1 hS1
 refine Ops.mi rfl rfl rfl (Ops.n (tQ (Cd.seq (Cd.seq (Cd.region (Ops.ms rfl rfl rfl (Ops.call (IsRotation_c A n c p w1 (hS1.oldI hR) hn) rfl rfl rfl ?_)))))))
 rintro _ w2 ⟨⟨b, rfl, hb⟩, hT⟩
 have hS2 := hS1.later hT.below
 first | refine Ops.not_p rfl rfl ?_ | refine Ops.not rfl rfl ?_
 refine Ops.n (tQ ?_)
 refine Cd.cond_p (b = false) (congrArg Value.bool (by cases b <;> rfl)) (fun h1 => ?_) (fun h1 => ?_)
 ·refine Cd.seq (Cd.region (Ops.bld0 (by exact inferInstance) rfl ?_))
  skip
  refine Ops.st_agg 1 0 hS2 rfl rfl rfl rfl rfl rfl rfl ?_
  intro w3 hS3
  refine Ops.mi rfl rfl rfl (Ops.n (tQ (Cd.ret (thenQ_r ?_))))
  skip
  refine retc2_r rfl (hS3.rd 0 rfl) rfl ?_
  exact ⟨0, none, 0, [], [], 1, rfl, by decide, rfl, rfl, fun p hp => (nomatch hp), hS3.none.nil _⟩
 ·have hb2 : b = true := by cases b <;> simp at h1 ⊢
  obtain ⟨hn2, hpl, hpr, _⟩ := hb hb2
  have hpn := hR.1
  refine Cd.skip (tQ (Cd.seq (Cd.region (Ops.ms rfl rfl rfl (Ops.len rfl rfl (Ops.mi rfl rfl rfl (Ops.n (tQ (Cd.seq ?_)))))))))
  obtain ⟨M, hM⟩ : ∃ M : Nat, M = 2 * n := ⟨_, rfl⟩
  refine Cd.drawS (by kernel_rfl) (by kernel_rfl) (fun S e1 w1 => Mr4 w n M A c A2 S e1 w1) (fun w4 hb => ⟨rfl, rfl, rfl, fun h => (nomatch h), fun h => (nomatch h), fun h => (nomatch h), fun h => (nomatch h), fun h => (nomatch h), fun h => (nomatch h), none, none, none, none, none, [], [], [], [], [], [.slice none 0 0], fun h => (nomatch h), fun h => (nomatch h), fun h => (nomatch h), fun h => (nomatch h), fun h => (nomatch h), fun h => (nomatch h), fun _ => rfl, fun h => (nomatch h), hS2.later hb⟩) ?_ ?_
  ·intro S i o e1 w4 hq hSk hd hcl hI
   obtain ⟨f0, f2, f4, p0, p1, p3, p4, p6, p7, B0, B1, B2, A24, A5, b0, b1, b2, b3, b5, vs, m2, m5, m8, m9, m10, m11, m12f, m12, hT⟩ := hI
   match i, hq, hSk with
   | 0, hq, hSk =>
    obtain rfl := Option.some.inj hq
    refine Ops.mi rfl (by exact f4) rfl (Ops.n ?_)
    exact ⟨f0, f2, f4, fun _ => rfl, p1, p3, p4, p6, p7, B0, B1, B2, A24, A5, b0, b1, b2, b3, b5, vs, m2, m5, m8, m9, m10, m11, m12f, m12, hT⟩
   | 1, hq, hSk =>
    obtain rfl := Option.some.inj hq
    refine Ops.mul rfl (by exact p0 (deps_of hd 0 rfl)) rfl (by omega) (Ops.n ?_)
    exact ⟨f0, f2, f4, p0, fun _ => congrArg (Value.int .i64) (by omega), p3, p4, p6, p7, B0, B1, B2, A24, A5, b0, b1, b2, b3, b5, vs, m2, m5, m8, m9, m10, m11, m12f, m12, hT⟩
   | 2, hq, hSk =>
    obtain rfl := Option.some.inj hq
    have n9 : S 9 = false := (notyet hSk fun h => deps_of (hcl 9 _ h rfl) 2 rfl)
    refine Ops.mkI M (hT.sub (ks' := b3 ++ (b1 ++ (b2 ++ (b5 ++ [Bx 26 1 A2 [.slice none 0 0]])))) ((List.Sublist.refl _).append (List.sublist_append_right _ _))) (by exact p1 (deps_of hd 1 rfl)) rfl (by omega) ?_
    intro A' w5 hT5
    have hT6 : St w w5 (b3 ++ ([CkI 2 A' M M (List.replicate M 0)] ++ (b1 ++ (b2 ++ (b5 ++ [Bx 26 1 A2 [.slice none 0 0]]))))) := by
     refine hT5.perm ?_
     have := (List.perm_middle (a := CkI 2 A' M M (List.replicate M 0)) (l₁ := b3) (l₂ := b1 ++ (b2 ++ ((b5 ++ [Bx 26 1 A2 [.slice none 0 0]]))))).symm
     simpa only [List.append_assoc, List.singleton_append, List.cons_append, List.nil_append] using this
    refine Ops.n ?_
    exact ⟨f0, f2, f4, p0, p1, p3, p4, p6, p7, A', B1, B2, A24, A5, _, b1, b2, b3, b5, vs, fun _ => ⟨rfl, rfl⟩, m5, m8, fun h => (nomatch n9.symm.trans h), m10, m11, m12f, m12, hT6⟩
   | 3, hq, hSk =>
    obtain rfl := Option.some.inj hq
    refine Ops.mi rfl (by exact f4) rfl (Ops.n ?_)
    exact ⟨f0, f2, f4, p0, p1, fun _ => rfl, p4, p6, p7, B0, B1, B2, A24, A5, b0, b1, b2, b3, b5, vs, m2, m5, m8, m9, m10, m11, m12f, m12, hT⟩
   | 4, hq, hSk =>
    obtain rfl := Option.some.inj hq
    refine Ops.mul rfl (by exact p3 (deps_of hd 3 rfl)) rfl (by omega) (Ops.n ?_)
    exact ⟨f0, f2, f4, p0, p1, p3, fun _ => congrArg (Value.int .i64) (by omega), p6, p7, B0, B1, B2, A24, A5, b0, b1, b2, b3, b5, vs, m2, m5, m8, m9, m10, m11, m12f, m12, hT⟩
   | 5, hq, hSk =>
    obtain rfl := Option.some.inj hq
    have n9 : S 9 = false := (notyet hSk fun h => deps_of (hcl 9 _ h rfl) 5 rfl)
    refine Ops.mkI M (hT.sub (ks' := b3 ++ (b0 ++ (b2 ++ (b5 ++ [Bx 26 1 A2 [.slice none 0 0]])))) ((List.Sublist.refl _).append ((List.Sublist.refl _).append (List.sublist_append_right _ _)))) (by exact p4 (deps_of hd 4 rfl)) rfl (by omega) ?_
    intro A' w5 hT5
    have hT6 : St w w5 (b3 ++ (b0 ++ ([CkI 2 A' M M (List.replicate M 0)] ++ (b2 ++ (b5 ++ [Bx 26 1 A2 [.slice none 0 0]]))))) := by
     refine hT5.perm ?_
     have := (List.perm_middle (a := CkI 2 A' M M (List.replicate M 0)) (l₁ := b3 ++ b0) (l₂ := b2 ++ ((b5 ++ [Bx 26 1 A2 [.slice none 0 0]])))).symm
     simpa only [List.append_assoc, List.singleton_append, List.cons_append, List.nil_append] using this
    refine Ops.n ?_
    exact ⟨f0, f2, f4, p0, p1, p3, p4, p6, p7, B0, A', B2, A24, A5, b0, _, b2, b3, b5, vs, m2, fun _ => ⟨rfl, rfl⟩, m8, fun h => (nomatch n9.symm.trans h), m10, m11, m12f, m12, hT6⟩
   | 6, hq, hSk =>
    obtain rfl := Option.some.inj hq
    refine Ops.mi rfl (by exact f4) rfl (Ops.n ?_)
    exact ⟨f0, f2, f4, p0, p1, p3, p4, fun _ => rfl, p7, B0, B1, B2, A24, A5, b0, b1, b2, b3, b5, vs, m2, m5, m8, m9, m10, m11, m12f, m12, hT⟩
   | 7, hq, hSk =>
    obtain rfl := Option.some.inj hq
    refine Ops.mul rfl (by exact p6 (deps_of hd 6 rfl)) rfl (by omega) (Ops.n ?_)
    exact ⟨f0, f2, f4, p0, p1, p3, p4, p6, fun _ => congrArg (Value.int .i64) (by omega), B0, B1, B2, A24, A5, b0, b1, b2, b3, b5, vs, m2, m5, m8, m9, m10, m11, m12f, m12, hT⟩
   | 8, hq, hSk =>
    obtain rfl := Option.some.inj hq
    have n9 : S 9 = false := (notyet hSk fun h => deps_of (hcl 9 _ h rfl) 8 rfl)
    refine Ops.mkI M (hT.sub (ks' := b3 ++ (b0 ++ (b1 ++ (b5 ++ [Bx 26 1 A2 [.slice none 0 0]])))) ((List.Sublist.refl _).append ((List.Sublist.refl _).append ((List.Sublist.refl _).append (List.sublist_append_right _ _))))) (by exact p7 (deps_of hd 7 rfl)) rfl (by omega) ?_
    intro A' w5 hT5
    have hT6 : St w w5 (b3 ++ (b0 ++ (b1 ++ ([CkI 2 A' M M (List.replicate M 0)] ++ (b5 ++ [Bx 26 1 A2 [.slice none 0 0]]))))) := by
     refine hT5.perm ?_
     have := (List.perm_middle (a := CkI 2 A' M M (List.replicate M 0)) (l₁ := b3 ++ b0 ++ b1) (l₂ := (b5 ++ [Bx 26 1 A2 [.slice none 0 0]]))).symm
     simpa only [List.append_assoc, List.singleton_append, List.cons_append, List.nil_append] using this
    refine Ops.n ?_
    exact ⟨f0, f2, f4, p0, p1, p3, p4, p6, p7, B0, B1, A', A24, A5, b0, b1, _, b3, b5, vs, m2, m5, fun _ => ⟨rfl, rfl⟩, fun h => (nomatch n9.symm.trans h), m10, m11, m12f, m12, hT6⟩
   | 9, hq, hSk =>
    obtain rfl := Option.some.inj hq
    obtain ⟨h17, rfl⟩ := m2 (deps_of hd 2 rfl)
    obtain ⟨h20, rfl⟩ := m5 (deps_of hd 5 rfl)
    obtain ⟨h23, rfl⟩ := m8 (deps_of hd 8 rfl)
    have n10 : S 10 = false := (notyet hSk fun h => deps_of (hcl 10 _ h rfl) 9 rfl)
    have n12 : S 12 = false := (notyet hSk fun h => deps_of (hcl 12 _ h rfl) 9 rfl)
    refine Ops.bs3R (s0 := ⟨B0, M, M⟩) (s1 := ⟨B1, M, M⟩) (s2 := ⟨B2, M, M⟩) (hT.sub (List.sublist_append_right _ _)) (by exact h17) (by exact h20) (by exact h23) rfl ?_
    intro A24 w5 hT5
    refine Ops.n ?_
    exact ⟨f0, f2, f4, p0, p1, p3, p4, p6, p7, B0, B1, B2, A24, A5, _, _, _, [CkR 28 A24 3 3 [⟨B0, M, M⟩, ⟨B1, M, M⟩, ⟨B2, M, M⟩]], b5, vs, fun _ => ⟨h17, rfl⟩, fun _ => ⟨h20, rfl⟩, fun _ => ⟨h23, rfl⟩, fun _ => ⟨rfl, rfl⟩, fun h => (nomatch n10.symm.trans h), m11, m12f, fun h => (nomatch n12.symm.trans h), hT5⟩
   | 10, hq, hSk =>
    obtain rfl := Option.some.inj hq
    obtain ⟨h24, hb3⟩ := m9 (deps_of hd 9 rfl)
    refine Ops.bld1 (by exact inferInstance) rfl (by exact h24) rfl rfl (Ops.n ?_)
    exact ⟨f0, f2, f4, p0, p1, p3, p4, p6, p7, B0, B1, B2, A24, A5, b0, b1, b2, b3, b5, vs, m2, m5, m8, m9, fun _ => rfl, m11, m12f, m12, hT⟩
   | 11, hq, hSk =>
    obtain rfl := Option.some.inj hq
    have n12 : S 12 = false := (notyet hSk fun h => deps_of (hcl 12 _ h rfl) 11 rfl)
    obtain rfl := m12f n12
    refine Ops.new1 (hT.sub (ks' := (b3 ++ (b0 ++ (b1 ++ b2))) ++ [Bx 26 1 A2 [.slice none 0 0]]) (by simp only [List.append_assoc]; exact (List.Sublist.refl _).append ((List.Sublist.refl _).append ((List.Sublist.refl _).append ((List.Sublist.refl _).append (List.sublist_append_right _ _)))))) rfl ?_
    intro A' w5 hT5
    have hT6 : St w w5 (b3 ++ (b0 ++ (b1 ++ (b2 ++ ([Bx 26 1 A' [.slice none 0 0]] ++ [Bx 26 1 A2 [.slice none 0 0]]))))) := by
     have := hT5.perm (List.perm_middle (l₁ := b3 ++ (b0 ++ (b1 ++ b2)))).symm
     simpa only [List.append_assoc, List.singleton_append] using this
    refine Ops.n ?_
    exact ⟨f0, f2, f4, p0, p1, p3, p4, p6, p7, B0, B1, B2, A24, A', b0, b1, b2, b3, _, _, m2, m5, m8, m9, m10, fun _ => ⟨rfl, rfl⟩, fun _ => rfl, fun h => (nomatch n12.symm.trans h), hT6⟩
   | 12, hq, hSk =>
    obtain rfl := Option.some.inj hq
    obtain ⟨h5, rfl⟩ := m11 (deps_of hd 11 rfl)
    obtain ⟨h17, rfl⟩ := m2 (deps_of hd 2 rfl)
    obtain ⟨h20, rfl⟩ := m5 (deps_of hd 5 rfl)
    obtain ⟨h23, rfl⟩ := m8 (deps_of hd 8 rfl)
    obtain ⟨h24, rfl⟩ := m9 (deps_of hd 9 rfl)
    obtain rfl := m12f hSk
    refine Ops.st_agg 1 4 hT rfl (by exact h5) (by exact m10 (deps_of hd 10 rfl)) rfl rfl rfl rfl ?_
    intro w5 hT5
    refine Ops.n ?_
    exact ⟨f0, f2, f4, p0, p1, p3, p4, p6, p7, B0, B1, B2, A24, A5, _, _, _, _, _, [.slice A24 3 3], fun _ => ⟨h17, rfl⟩, fun _ => ⟨h20, rfl⟩, fun _ => ⟨h23, rfl⟩, fun _ => ⟨h24, rfl⟩, m10, fun _ => ⟨h5, rfl⟩, fun h => (nomatch (show true = false from h)), fun _ => rfl, hT5⟩
   | i + 13, hq, _ => exact (nomatch hq)
  ·intro S e1 w4 hall hI
   obtain ⟨f0, f2, f4, p0, p1, p3, p4, p6, p7, B0, B1, B2, A24, A5, b0, b1, b2, b3, b5, vs, m2, m5, m8, m9, m10, m11, m12f, m12, hT⟩ := hI
   obtain ⟨h5, rfl⟩ := m11 (hall 11 (by decide))
   obtain ⟨_, rfl⟩ := m2 (hall 2 (by decide))
   obtain ⟨_, rfl⟩ := m5 (hall 5 (by decide))
   obtain ⟨_, rfl⟩ := m8 (hall 8 (by decide))
   obtain ⟨_, rfl⟩ := m9 (hall 9 (by decide))
   obtain rfl := m12 (hall 12 (by decide))
   refine thenQ_ext (F := [(0, .slice A n c), (2, .pointer A2), (4, .int .i64 (n : Int)), (5, .pointer A5)]) ⟨f0, f2, f4, h5, trivial⟩ ?_
   have hT : St w w4 (mat 28 2 A24 3 3 [⟨B0, M, M⟩, ⟨B1, M, M⟩, ⟨B2, M, M⟩] [(List.replicate M 0), (List.replicate M 0), (List.replicate M 0)] ++ [Bx 26 1 A5 [.slice A24 3 3], Bx 26 1 A2 [.slice none 0 0]]) := hT
   refine tQ (Cd.seq (Cd.seq (Cd.region (Ops.mi rfl rfl rfl (Ops.n (tQ (Cd.block ?_)))))))
   refine Cd.loop (α := Nat × List Int × List Int × List Int) (fun s => [(0, .slice A n c), (2, .pointer A2), (4, .int .i64 (n : Int)), (5, .pointer A5), (6, .int .i64 (s.1 : Int))]) (fun s w' => St w w' (mat 28 2 A24 3 3 [⟨B0, M, M⟩, ⟨B1, M, M⟩, ⟨B2, M, M⟩] [s.2.1, s.2.2.1, s.2.2.2] ++ [Bx 26 1 A5 [.slice A24 3 3], Bx 26 1 A2 [.slice none 0 0]]) ∧ s.1 ≤ n ∧ Qb M s.2.1 ∧ Qb M s.2.2.1 ∧ Qb M s.2.2.2) (fun s => n - s.1) (0, (List.replicate M 0), (List.replicate M 0), (List.replicate M 0)) ⟨rfl, rfl, rfl, rfl, rfl, trivial⟩ ⟨hT, Nat.zero_le _, Qb.zero, Qb.zero, Qb.zero⟩ ?_
   rintro ⟨f, y0, y1, y2⟩ e w5 ⟨hT5, hf, q0, q1, q2⟩
   dsimp only at hT5 hf q0 q1 q2 ⊢
   refine Cd.seq (Cd.seq (Cd.region (Ops.mi rfl rfl rfl (Ops.mi rfl rfl rfl (Ops.lss rfl rfl rfl (Ops.n (tQ ?_)))))))
   refine Cd.cond_p _ rfl (fun h2 => ?_) (fun h2 => ?_)
   ·have hP5 := hT5.oldI hR
    have hv : 0 ≤ gi p (f : Int) ∧ gi p (f : Int) < (n : Int) := by
     rw [gi_mem (by omega)]
     have := hpr _ (List.getElem_mem (l := p) (n := f) (by omega))
     omega
    generalize hV : gi p (f : Int) = v at hv
    refine Cd.skip (tQ (Cd.seq (Cd.block (Cd.seq ?_))))
    refine Cd.draw [.ex (.int .i64 ((f : Int))), .ex (.int .i64 (((f : Int)) + ((1 : Int)))), .ex (.int .i64 ((f : Int))), .ex (.int .i64 ((f : Int) % 2)), .ex (.int .i64 (((2 : Int)) * ((f : Int) % 2))), .ex (.int .i64 ((((f : Int)) + ((1 : Int))) - (((2 : Int)) * ((f : Int) % 2)))), .ex (.slice (A) (n) (c)), .ex (.int .i64 ((f : Int))), .ex (.pointer (ptrAt (A) ((f : Int)).toNat)), .ex (.int .i64 (gi (p) ((f : Int)))), .ex (.int .i64 ((((f : Int)) + ((1 : Int))) - (((2 : Int)) * ((f : Int) % 2)))), .ex (.int .i64 (gi (p) ((f : Int))))] (by kernel_rfl) (by kernel_rfl) rfl (lx (lx (lx (lx (lx (lx (lx (lx (lx (lx (lx (lx (fun _ h => by cases h))))))))))))) ⟨?_, ?_, ?_, ?_, ?_, ?_, ?_, ?_, ?_, ?_, ?_, ?_, trivial⟩ ?_
    ·intro e1 w1 hb hp hun
     refine Ops.mi rfl rfl rfl (Ops.n (d0 (by exact rfl)))
    ·intro e1 w1 hb hp hun
     refine Ops.add rfl rfl rfl (by omega) (Ops.n (d0 (by exact rfl)))
    ·intro e1 w1 hb hp hun
     refine Ops.mi rfl rfl rfl (Ops.n (d0 (by exact rfl)))
    ·intro e1 w1 hb hp hun
     refine Ops.rem rfl rfl rfl (by omega) (Ops.n (d0 (by exact rfl)))
    ·intro e1 w1 hb hp hun
     refine Ops.mul rfl rfl rfl (by omega) (Ops.n (d0 (by exact rfl)))
    ·intro e1 w1 hb hp hun
     refine Ops.sub rfl rfl rfl (by omega) (Ops.n (d0 (by exact rfl)))
    ·intro e1 w1 hb hp hun
     refine Ops.ms rfl rfl rfl (Ops.n (d0 (by exact rfl)))
    ·intro e1 w1 hb hp hun
     refine Ops.mi rfl rfl rfl (Ops.n (d0 (by exact rfl)))
    ·intro e1 w1 hb hp hun
     refine Ops.idx (hP5.later hb).2 rfl rfl rfl (by omega) (by omega) (Ops.n (d0 (by exact rfl)))
    ·intro e1 w1 hb hp hun
     refine Ops.ld_int (hP5.later hb) rfl (by omega) rfl rfl (Ops.n (d0 (by exact rfl)))
    ·intro e1 w1 hb hp hun
     refine Ops.mi rfl rfl rfl (Ops.n (d0 (by exact rfl)))
    ·intro e1 w1 hb hp hun
     refine Ops.mi rfl rfl rfl (Ops.n (d0 (by exact rfl)))
    intro u w6 hb6 _
    rw [hV]
    have hU0 := hT5.later hb6
    refine tQ (Cd.seq (Cd.region (Ops.fld (hU0.rd 4 rfl) rfl rfl rfl rfl inferInstance (Ops.ldf_s (hU0.rd 4 rfl) rfl rfl rfl rfl rfl ?_))))
    skip
    refine Ops.idx (hU0.rd 0 rfl) rfl rfl rfl (by omega) (by show (0 : Int) < (3 : Int); decide) ?_
    refine Ops.ld_sl (i := 0) (hU0.rdR 0 rfl) rfl (by show 0 < 3; decide) rfl rfl ?_
    refine Ops.mi rfl rfl rfl (Ops.mul rfl rfl rfl (by omega) (Ops.mi rfl rfl rfl (Ops.mul rfl rfl rfl (by omega) (Ops.add rfl rfl rfl (by omega) ?_))))
    refine Ops.idx (hU0.rd 1 rfl) rfl rfl rfl (by omega) (by show 2 * (f : Int) < (M : Int); omega) ?_
    refine Ops.st_int (i := 2 * (f : Int)) 1 hU0 rfl rfl rfl (by show (2 * (f : Int)).toNat < M; omega) ?_
    intro x0 hU1
    have hU1 : St w x0 (mat 28 2 A24 3 3 [⟨B0, M, M⟩, ⟨B1, M, M⟩, ⟨B2, M, M⟩] [(y0.set (2 * (f : Int)).toNat (2 * ((f : Int) + 1 - 2 * ((f : Int) % 2)) + 1)), y1, y2] ++ [Bx 26 1 A5 [.slice A24 3 3], Bx 26 1 A2 [.slice none 0 0]]) := hU1
    refine Ops.n (tQ (Cd.seq (Cd.region (Ops.fld (hU1.rd 4 rfl) rfl rfl rfl rfl inferInstance (Ops.ldf_s (hU1.rd 4 rfl) rfl rfl rfl rfl rfl ?_)))))
    skip
    refine Ops.idx (hU1.rd 0 rfl) rfl rfl rfl (by omega) (by show (0 : Int) < (3 : Int); decide) ?_
    refine Ops.ld_sl (i := 0) (hU1.rdR 0 rfl) rfl (by show 0 < 3; decide) rfl rfl ?_
    refine Ops.mi rfl rfl rfl (Ops.mul rfl rfl rfl (by omega) (Ops.add rfl rfl rfl (by omega) (Ops.mi rfl rfl rfl (Ops.mul rfl rfl rfl (by omega) ?_))))
    refine Ops.idx (hU1.rd 1 rfl) rfl rfl rfl (by omega) (by show 2 * (f : Int) + 1 < (M : Int); omega) ?_
    refine Ops.st_int (i := 2 * (f : Int) + 1) 1 hU1 rfl rfl rfl (by show (2 * (f : Int) + 1).toNat < M; omega) ?_
    intro x1 hU2
    have hU2 : St w x1 (mat 28 2 A24 3 3 [⟨B0, M, M⟩, ⟨B1, M, M⟩, ⟨B2, M, M⟩] [((y0.set (2 * (f : Int)).toNat (2 * ((f : Int) + 1 - 2 * ((f : Int) % 2)) + 1)).set (2 * (f : Int) + 1).toNat (2 * ((f : Int) + 1 - 2 * ((f : Int) % 2)))), y1, y2] ++ [Bx 26 1 A5 [.slice A24 3 3], Bx 26 1 A2 [.slice none 0 0]]) := hU2
    refine Ops.n (tQ (Cd.seq (Cd.region (Ops.fld (hU2.rd 4 rfl) rfl rfl rfl rfl inferInstance (Ops.ldf_s (hU2.rd 4 rfl) rfl rfl rfl rfl rfl ?_)))))
    skip
    refine Ops.idx (hU2.rd 0 rfl) rfl rfl rfl (by omega) (by show (1 : Int) < (3 : Int); decide) ?_
    refine Ops.ld_sl (i := 1) (hU2.rdR 0 rfl) rfl (by show 1 < 3; decide) rfl rfl ?_
    refine Ops.mi rfl rfl rfl (Ops.mul rfl rfl rfl (by omega) (Ops.mi rfl rfl rfl (Ops.mul rfl rfl rfl (by omega) (Ops.add rfl rfl rfl (by omega) ?_))))
    refine Ops.idx (hU2.rd 2 rfl) rfl rfl rfl (by omega) (by show 2 * (f : Int) < (M : Int); omega) ?_
    refine Ops.st_int (i := 2 * (f : Int)) 2 hU2 rfl rfl rfl (by show (2 * (f : Int)).toNat < M; omega) ?_
    intro x2 hU3
    have hU3 : St w x2 (mat 28 2 A24 3 3 [⟨B0, M, M⟩, ⟨B1, M, M⟩, ⟨B2, M, M⟩] [((y0.set (2 * (f : Int)).toNat (2 * ((f : Int) + 1 - 2 * ((f : Int) % 2)) + 1)).set (2 * (f : Int) + 1).toNat (2 * ((f : Int) + 1 - 2 * ((f : Int) % 2)))), (y1.set (2 * (f : Int)).toNat (2 * v + 1)), y2] ++ [Bx 26 1 A5 [.slice A24 3 3], Bx 26 1 A2 [.slice none 0 0]]) := hU3
    refine Ops.n (tQ (Cd.seq (Cd.region (Ops.fld (hU3.rd 4 rfl) rfl rfl rfl rfl inferInstance (Ops.ldf_s (hU3.rd 4 rfl) rfl rfl rfl rfl rfl ?_)))))
    skip
    refine Ops.idx (hU3.rd 0 rfl) rfl rfl rfl (by omega) (by show (1 : Int) < (3 : Int); decide) ?_
    refine Ops.ld_sl (i := 1) (hU3.rdR 0 rfl) rfl (by show 1 < 3; decide) rfl rfl ?_
    refine Ops.mi rfl rfl rfl (Ops.mul rfl rfl rfl (by omega) (Ops.add rfl rfl rfl (by omega) (Ops.mi rfl rfl rfl (Ops.mul rfl rfl rfl (by omega) ?_))))
    refine Ops.idx (hU3.rd 2 rfl) rfl rfl rfl (by omega) (by show 2 * v + 1 < (M : Int); omega) ?_
    refine Ops.st_int (i := 2 * v + 1) 2 hU3 rfl rfl rfl (by show (2 * v + 1).toNat < M; omega) ?_
    intro x3 hU4
    have hU4 : St w x3 (mat 28 2 A24 3 3 [⟨B0, M, M⟩, ⟨B1, M, M⟩, ⟨B2, M, M⟩] [((y0.set (2 * (f : Int)).toNat (2 * ((f : Int) + 1 - 2 * ((f : Int) % 2)) + 1)).set (2 * (f : Int) + 1).toNat (2 * ((f : Int) + 1 - 2 * ((f : Int) % 2)))), ((y1.set (2 * (f : Int)).toNat (2 * v + 1)).set (2 * v + 1).toNat (2 * (f : Int))), y2] ++ [Bx 26 1 A5 [.slice A24 3 3], Bx 26 1 A2 [.slice none 0 0]]) := hU4
    refine Ops.n (tQ (Cd.seq (Cd.region (Ops.fld (hU4.rd 4 rfl) rfl rfl rfl rfl inferInstance (Ops.ldf_s (hU4.rd 4 rfl) rfl rfl rfl rfl rfl ?_)))))
    skip
    refine Ops.idx (hU4.rd 0 rfl) rfl rfl rfl (by omega) (by show (2 : Int) < (3 : Int); decide) ?_
    refine Ops.ld_sl (i := 2) (hU4.rdR 0 rfl) rfl (by show 2 < 3; decide) rfl rfl ?_
    refine Ops.mi rfl rfl rfl (Ops.mul rfl rfl rfl (by omega) (Ops.mi rfl rfl rfl (Ops.mul rfl rfl rfl (by omega) (Ops.add rfl rfl rfl (by omega) ?_))))
    refine Ops.idx (hU4.rd 3 rfl) rfl rfl rfl (by omega) (by show 2 * (f : Int) < (M : Int); omega) ?_
    refine Ops.st_int (i := 2 * (f : Int)) 3 hU4 rfl rfl rfl (by show (2 * (f : Int)).toNat < M; omega) ?_
    intro x4 hU5
    have hU5 : St w x4 (mat 28 2 A24 3 3 [⟨B0, M, M⟩, ⟨B1, M, M⟩, ⟨B2, M, M⟩] [((y0.set (2 * (f : Int)).toNat (2 * ((f : Int) + 1 - 2 * ((f : Int) % 2)) + 1)).set (2 * (f : Int) + 1).toNat (2 * ((f : Int) + 1 - 2 * ((f : Int) % 2)))), ((y1.set (2 * (f : Int)).toNat (2 * v + 1)).set (2 * v + 1).toNat (2 * (f : Int))), (y2.set (2 * (f : Int)).toNat (2 * (f : Int) + 1))] ++ [Bx 26 1 A5 [.slice A24 3 3], Bx 26 1 A2 [.slice none 0 0]]) := hU5
    refine Ops.n (tQ (Cd.region (Ops.fld (hU5.rd 4 rfl) rfl rfl rfl rfl inferInstance (Ops.ldf_s (hU5.rd 4 rfl) rfl rfl rfl rfl rfl ?_))))
    skip
    refine Ops.idx (hU5.rd 0 rfl) rfl rfl rfl (by omega) (by show (2 : Int) < (3 : Int); decide) ?_
    refine Ops.ld_sl (i := 2) (hU5.rdR 0 rfl) rfl (by show 2 < 3; decide) rfl rfl ?_
    refine Ops.mi rfl rfl rfl (Ops.mul rfl rfl rfl (by omega) (Ops.add rfl rfl rfl (by omega) (Ops.mi rfl rfl rfl (Ops.mul rfl rfl rfl (by omega) ?_))))
    refine Ops.idx (hU5.rd 3 rfl) rfl rfl rfl (by omega) (by show 2 * (f : Int) + 1 < (M : Int); omega) ?_
    refine Ops.st_int (i := 2 * (f : Int) + 1) 3 hU5 rfl rfl rfl (by show (2 * (f : Int) + 1).toNat < M; omega) ?_
    intro x5 hU6
    have hU6 : St w x5 (mat 28 2 A24 3 3 [⟨B0, M, M⟩, ⟨B1, M, M⟩, ⟨B2, M, M⟩] [((y0.set (2 * (f : Int)).toNat (2 * ((f : Int) + 1 - 2 * ((f : Int) % 2)) + 1)).set (2 * (f : Int) + 1).toNat (2 * ((f : Int) + 1 - 2 * ((f : Int) % 2)))), ((y1.set (2 * (f : Int)).toNat (2 * v + 1)).set (2 * v + 1).toNat (2 * (f : Int))), ((y2.set (2 * (f : Int)).toNat (2 * (f : Int) + 1)).set (2 * (f : Int) + 1).toNat (2 * (f : Int)))] ++ [Bx 26 1 A5 [.slice A24 3 3], Bx 26 1 A2 [.slice none 0 0]]) := hU6
    refine Ops.n (blockQ_n (tQ (Cd.region (Ops.mi rfl rfl rfl (Ops.add rfl rfl rfl (by omega) (Ops.mi rfl rfl rfl (Ops.n (tQ ?_))))))))
    exact ⟨(f + 1, ((y0.set (2 * (f : Int)).toNat (2 * ((f : Int) + 1 - 2 * ((f : Int) % 2)) + 1)).set (2 * (f : Int) + 1).toNat (2 * ((f : Int) + 1 - 2 * ((f : Int) % 2)))), ((y1.set (2 * (f : Int)).toNat (2 * v + 1)).set (2 * v + 1).toNat (2 * (f : Int))), ((y2.set (2 * (f : Int)).toNat (2 * (f : Int) + 1)).set (2 * (f : Int) + 1).toNat (2 * (f : Int)))), by show n - (f + 1) < n - f; omega, ⟨rfl, rfl, rfl, rfl, rfl, trivial⟩, hU6, by show f + 1 ≤ n; omega, (q0.set (by omega)).set (by omega), (q1.set (by omega)).set (by omega), (q2.set (by omega)).set (by omega)⟩
   ·have hrows : RowsI w5 A24 3 [⟨B0, M, M⟩, ⟨B1, M, M⟩, ⟨B2, M, M⟩] [y0, y1, y2] := St.rowsI hT5 rfl
    refine Cd.exit (thenQ_x (thenQ_x (blockQ_x (tQ (Cd.seq (Cd.seq (Cd.region (Ops.ld_agg 0 (hT5.rd 4 rfl) rfl rfl rfl ?_))))))))
    skip
    refine Ops.call (l14Is_c A24 3 3 _ [y0, y1, y2] w5 hrows (by decide)) rfl rfl rfl ?_
    rintro _ w6 ⟨rfl, hT'⟩
    have hT6 := hT5.later hT'.below
    first | refine Ops.not_p rfl rfl ?_ | refine Ops.not rfl rfl ?_
    refine Ops.n (tQ ?_)
    refine Cd.cond_p (¬ (Mani [y0, y1, y2] ∧ 3 = 3)) (congrArg Value.bool (by simp)) (fun h3 => ?_) (fun h3 => ?_)
    ·refine Cd.seq (Cd.region (Ops.bld0 (by exact inferInstance) rfl ?_))
     skip
     refine Ops.st_agg 1 5 hT6 rfl rfl rfl rfl rfl rfl rfl ?_
     intro w7 hT7
     refine Ops.mi rfl rfl rfl (Ops.n (tQ (Cd.ret (thenQ_r ?_))))
     skip
     refine retc2_r rfl (hT7.rd 5 rfl) rfl ?_
     exact ⟨0, none, 0, [], [], 5, rfl, by decide, rfl, rfl, fun p hp => (nomatch hp), hT7.none.nil _⟩
    ·refine Cd.skip (tQ (Cd.seq (Cd.region (Ops.ld_agg 0 (hT6.rd 4 rfl) rfl rfl rfl ?_))))
     skip
     refine Ops.st_agg 1 5 hT6 rfl rfl rfl rfl rfl rfl rfl ?_
     intro w7 hT7
     refine Ops.mi rfl rfl rfl (Ops.n (tQ (Cd.ret ?_)))
     skip
     refine retc2_r rfl (hT7.rd 5 rfl) rfl ?_
     refine ⟨3, A24, 3, _, [y0, y1, y2], 0, rfl, by decide, rfl, rfl, fun p hp => ?_, hT7.sub (ks' := mat 28 2 A24 3 3 [⟨B0, M, M⟩, ⟨B1, M, M⟩, ⟨B2, M, M⟩] [y0, y1, y2]) (List.sublist_append_left (mat 28 2 A24 3 3 [⟨B0, M, M⟩, ⟨B1, M, M⟩, ⟨B2, M, M⟩] [y0, y1, y2]) _)⟩
     have hq : Qb M p := by
      simp only [List.mem_cons, List.not_mem_nil, or_false] at hp
      rcases hp with rfl | rfl | rfl <;> assumption
     exact ⟨by have := hq.1; omega, hq.2⟩
end Go.Proofs.YtbhnfehcpnnjcaaGreatDoor.Vc
/-
 Rows of structs of two cells, a slice and a number: the rules of the operations on them. Conditions: as each rule names them.
-/
namespace Go.Proofs.YtbhnfehcpnnjcaaGreatDoor.Vc
open Go.RowKit

structure CV where
 s : SlV
 v : Int
def flatC : List CV → List Value
 | [] => []
 | x :: r => x.s.v :: .int .i64 x.v :: flatC r
/-- a row of such structs of one's own: k of them, room for q -/
def CkC (t : TypeId) (A : Option Addr) (k q : Nat) (cs : List CV) : Ck := ⟨A, 2 * k, min (2 * q) maxLen, t, flatC cs⟩
/-- .. that can be read -/
def RdC (w : World) (A : Option Addr) (k : Nat) (cs : List CV) : Prop := cs.length = k ∧ Rd w A (2 * k) (fun j => (flatC cs).getD j undef)
/-- the address behind some -/
def cutC (A : Option Addr) (q l : Nat) : Option Addr := if q = l then A else ptrAt A (l * 2)
section
variable {w0 w : World} {ks : List Ck} {i : Nat} {t : TypeId} {A : Option Addr} {k q : Nat} {cs : List CV}
end
section
variable {P : Program} {N : Nat} {ops : Array Oper} {K : Env → World → Prop} {rest : List Oper} {e : Env} {w0 w w' : World} {ks : List Ck} {d : Nat} {ty : TypeId} {pos : String} {af : Array Edge}
theorem Ops.bld2c {t : TypeId} {f0 f1 : Field} {z0 z1 y0 y1 : Value} {b b0 b1 : Nat} [Und P t (.struct #[f0, f1])] [Inf P t (.agg #[z0, z1]) 2 b] {x0 x1 : Operand} {v0 v1 : Value} (hI0 : Inf P f0.type y0 1 b0) (hI1 : Inf P f1.type y1 1 b1) (ho : f0.offset = 0) (ho1 : f1.offset = 1) (h0 : ev e x0 = v0) (h1 : ev e x1 = v1) (c0 : v0.oneCell' = true) (c1 : v1.oneCell' = true) (hb : Nat.blt d N = true)
    (hK : Ops P N ops K rest (upd e d (.agg #[v0, v1])) w) : Ops P N ops K (⟨some d, .build t #[(0, x0), (1, x1)], ty, pos, af, none⟩ :: rest) e w := by
  obtain ⟨inf, hi, hz0, hs, hby⟩ := Inf.get P t
  obtain ⟨inf0, hi0, hz00, hs0, hby0⟩ := hI0.get P f0.type
  obtain ⟨inf1, hi1, hz01, hs1, hby1⟩ := hI1.get P f1.type
  have e0 : v0.cells = #[v0] := by cases v0 <;> simp [Value.oneCell'] at c0 <;> rfl
  have e1 : v1.cells = #[v1] := by cases v1 <;> simp [Value.oneCell'] at c1 <;> rfl
  have ez : (Value.agg #[z0, z1]).cells = #[z0, z1] := rfl
  refine .val (w' := w) ?_ hb hK
  simp [execOp, Instr.build, run_underlying (Und.out (P := P) (t := t)), sizeOf, typeInfo, zeroValue, hi, hz0, hi0, hs0, hi1, hs1, ho, ho1, h0, h1, e0, e1, ez, Instr.fill]

end
end Go.Proofs.YtbhnfehcpnnjcaaGreatDoor.Vc
/-
 The reference's tests of diagrams and presentations, where they hold, and its universal polytope, walked. Conditions: as each states them.
-/
namespace Go.Proofs.YtbhnfehcpnnjcaaGreatDoor.Vc
open Go.RowKit

theorem l12Is_c (A : Option Addr) (n c : Nat) (labels : List Int) (w : World) (hR : RdI w A n labels) (hn : n < 5) (hl : ∀ x ∈ labels, x = 0 ∨ (2 ≤ x ∧ x ≤ 32)) :
  Ret Tryz.prog 120 [.slice A n c] w (fun v w' => v = .bool true ∧ w' = w) := by
 have hll := hR.1
 refine Ret.of_cd Tryz.func120 rfl Tryz.ntmps120 rfl (post1 rfl) (Cd.seq (Cd.region (Ops.mb rfl rfl rfl (Ops.n (tQ (Cd.seq (Cd.seq (Cd.region (Ops.mi rfl rfl rfl ?_)))))))))
 refine Ops.n (tQ (Cd.block ?_))
 refine Cd.loop (α := Nat) (fun i => [(0, .slice A n c), (3, .int .i64 (i : Int))]) (fun i w' => w' = w ∧ i ≤ n) (fun i => n - i) 0 ⟨rfl, rfl, trivial⟩ ⟨rfl, Nat.zero_le _⟩ ?_
 rintro i e w1 ⟨rfl, hi⟩
 refine Cd.seq (Cd.seq (Cd.region (Ops.mi rfl rfl rfl (Ops.ms rfl rfl rfl (Ops.len rfl rfl (Ops.lss rfl rfl rfl (Ops.n (tQ ?_))))))))
 refine Cd.cond_p _ rfl (fun h1 => ?_) (fun h1 => ?_)
 ·have hx := hl (gi labels (i : Int)) (by rw [gi_mem (by omega)]; exact List.getElem_mem _)
  refine Cd.skip (tQ (Cd.seq (Cd.block (Cd.seq (Cd.region (Ops.ms rfl rfl rfl (Ops.mi rfl rfl rfl (Ops.idx hR.2 rfl rfl rfl (by omega) (by omega) (Ops.ld_int hR rfl (by omega) rfl rfl ?_)))))))))
  refine Ops.neq rfl rfl rfl (Ops.mb rfl rfl rfl ?_)
  refine Ops.split_p 15 rfl (fun h2 => ?_) (fun h2 => ?_)
  ·refine Ops.g rfl rfl rfl (Ops.ms rfl rfl rfl (Ops.g rfl rfl rfl (Ops.mi rfl rfl rfl (Ops.g rfl rfl rfl (Ops.idx hR.2 rfl rfl rfl (by omega) (by omega) (Ops.g rfl rfl rfl (Ops.ld_int hR rfl (by omega) rfl rfl (Ops.g rfl rfl rfl (Ops.call (l01In_c _ _ _ _) rfl rfl rfl ?_)))))))))
   rintro _ w2 ⟨rfl, rfl⟩
   refine Ops.g rfl rfl rfl ?_
   first | refine Ops.not_p rfl rfl ?_ | refine Ops.not rfl rfl ?_
   refine Ops.pick_t rfl rfl rfl (Ops.n (tQ ?_))
   refine Cd.cond_pf rfl (fun h => h (by omega)) ?_
   refine Cd.skip (blockQ_n (tQ (Cd.region (Ops.mi rfl rfl rfl (Ops.add rfl rfl rfl (by omega) (Ops.mi rfl rfl rfl (Ops.n (tQ ?_))))))))
   exact ⟨i + 1, by omega, ⟨rfl, rfl, trivial⟩, rfl, by omega⟩
  ·refine Ops.k rfl rfl rfl rfl rfl (Ops.k rfl rfl rfl rfl rfl (Ops.k rfl rfl rfl rfl rfl (Ops.k rfl rfl rfl rfl rfl (Ops.k rfl rfl rfl rfl rfl (Ops.k rfl rfl rfl rfl rfl (Ops.pick_f rfl rfl rfl (Ops.n (tQ (Cd.cond_f rfl ?_)))))))))
   refine Cd.skip (blockQ_n (tQ (Cd.region (Ops.mi rfl rfl rfl (Ops.add rfl rfl rfl (by omega) (Ops.mi rfl rfl rfl (Ops.n (tQ ?_))))))))
   exact ⟨i + 1, by omega, ⟨rfl, rfl, trivial⟩, rfl, by omega⟩
 ·refine Cd.exit (thenQ_x (thenQ_x (blockQ_x (tQ (Cd.seq (Cd.region (Ops.ms rfl rfl rfl (Ops.len rfl rfl (Ops.lss rfl rfl rfl ?_)))))))))
  refine Ops.mb rfl rfl rfl (Ops.n (tQ (Cd.ret (ret1_b rfl ?_))))
  exact ⟨by rw [decide_eq_true (by omega)], rfl⟩

theorem l11Word_c (letters : Int) (A : Option Addr) (n c : Nat) (ws : List Int) (w : World) (hR : RdI w A n ws) (hlt : 0 ≤ letters ∧ letters ≤ 1000) (hn : n ≤ 64) (hw : ∀ x ∈ ws, 0 ≤ x ∧ x < letters) :
  Ret Tryz.prog 148 [.int .i64 letters, .slice A n c] w (fun v w' => v = .bool true ∧ w' = w) := by
 have hll := hR.1
 refine Ret.of_cd Tryz.func148 rfl Tryz.ntmps148 rfl (post1 rfl) (Cd.seq (Cd.region (Ops.mb rfl rfl rfl (Ops.n (tQ (Cd.seq (Cd.seq (Cd.region (Ops.mi rfl rfl rfl ?_)))))))))
 refine Ops.n (tQ (Cd.block ?_))
 refine Cd.loop (α := Nat) (fun i => [(0, .int .i64 letters), (1, .slice A n c), (5, .int .i64 (i : Int))]) (fun i w' => w' = w ∧ i ≤ n) (fun i => n - i) 0 ⟨rfl, rfl, rfl, trivial⟩ ⟨rfl, Nat.zero_le _⟩ ?_
 rintro i e w1 ⟨rfl, hi⟩
 refine Cd.seq (Cd.seq (Cd.region (Ops.mi rfl rfl rfl (Ops.ms rfl rfl rfl (Ops.len rfl rfl (Ops.lss rfl rfl rfl (Ops.n (tQ ?_))))))))
 refine Cd.cond_p _ rfl (fun h1 => ?_) (fun h1 => ?_)
 ·have hx := hw (gi ws (i : Int)) (by rw [gi_mem (by omega)]; exact List.getElem_mem _)
  refine Cd.skip (tQ (Cd.seq (Cd.block (Cd.seq (Cd.region (Ops.ms rfl rfl rfl (Ops.mi rfl rfl rfl (Ops.idx hR.2 rfl rfl rfl (by omega) (by omega) (Ops.ld_int hR rfl (by omega) rfl rfl ?_)))))))))
  refine Ops.mi rfl rfl rfl (Ops.sub rfl rfl rfl (by omega) (Ops.call (l01In_c _ _ _ _) rfl rfl rfl ?_))
  rintro _ w2 ⟨rfl, rfl⟩
  first | refine Ops.not_p rfl rfl ?_ | refine Ops.not rfl rfl ?_
  refine Ops.n (tQ ?_)
  refine Cd.cond_pf rfl (fun h => h (by omega)) ?_
  refine Cd.skip (blockQ_n (tQ (Cd.region (Ops.mi rfl rfl rfl (Ops.add rfl rfl rfl (by omega) (Ops.mi rfl rfl rfl (Ops.n (tQ ?_))))))))
  exact ⟨i + 1, by omega, ⟨rfl, rfl, rfl, trivial⟩, rfl, by omega⟩
 ·refine Cd.exit (thenQ_x (thenQ_x (blockQ_x (tQ (Cd.seq (Cd.region (Ops.ms rfl rfl rfl (Ops.len rfl rfl (Ops.leq rfl rfl rfl ?_)))))))))
  refine Ops.mb rfl rfl rfl (Ops.n (tQ (Cd.ret (ret1_b rfl ?_))))
  exact ⟨by rw [decide_eq_true (by omega)], rfl⟩

/-- words that are words -/
def WordsOk (letters : Int) (least : Nat) (wss : List (List Int)) : Prop := wss.length ≤ 24 ∧ ∀ ws ∈ wss, least ≤ ws.length ∧ ws.length ≤ 64 ∧ ∀ x ∈ ws, 0 ≤ x ∧ x < letters
instance (letters : Int) (least : Nat) (wss : List (List Int)) : Decidable (WordsOk letters least wss) := by unfold WordsOk; exact inferInstance
theorem l11Words_c (letters : Int) (least : Nat) (A : Option Addr) (n c : Nat) (rs : List SlV) (wss : List (List Int)) (w : World) (hR : RowsI w A n rs wss) (hlt : 0 ≤ letters ∧ letters ≤ 1000) (hle : least ≤ 1) (hW : WordsOk letters least wss) :
  Ret Tryz.prog 143 [.int .i64 letters, .slice A n c, .int .i64 (least : Int)] w (fun v w' => v = .bool true ∧ w' = w) := by
 have hll := hR.len
 have hn := hW.1
 refine Ret.of_cd Tryz.func143 rfl Tryz.ntmps143 rfl (post1 rfl) (Cd.seq (Cd.region (Ops.mb rfl rfl rfl (Ops.n (tQ (Cd.seq (Cd.seq (Cd.region (Ops.mi rfl rfl rfl ?_)))))))))
 refine Ops.n (tQ (Cd.block ?_))
 refine Cd.loop (α := Nat) (fun i => [(0, .int .i64 letters), (1, .slice A n c), (2, .int .i64 (least : Int)), (7, .int .i64 (i : Int))]) (fun i w' => w' = w ∧ i ≤ n) (fun i => n - i) 0 ⟨rfl, rfl, rfl, rfl, trivial⟩ ⟨rfl, Nat.zero_le _⟩ ?_
 rintro i e w1 ⟨rfl, hi⟩
 refine Cd.seq (Cd.seq (Cd.region (Ops.mi rfl rfl rfl (Ops.ms rfl rfl rfl (Ops.len rfl rfl (Ops.lss rfl rfl rfl (Ops.n (tQ ?_))))))))
 refine Cd.cond_p _ rfl (fun h1 => ?_) (fun h1 => ?_)
 ·have hrow := hR.at_ (i := (i : Int)) (by omega) (by omega)
  have hx := hW.2 (gl wss (i : Int)) (by rw [gl_mem (by omega)]; exact List.getElem_mem _)
  have hrl := hrow.1
  refine Cd.skip (tQ (Cd.seq (Cd.block (Cd.seq (Cd.region (Ops.mi rfl rfl rfl (Ops.ms rfl rfl rfl (Ops.mi rfl rfl rfl (Ops.idx hR.top.2 rfl rfl rfl (by omega) (by omega) ?_)))))))))
  refine Ops.ld_sl hR.top rfl (by omega) rfl rfl ?_
  skip
  refine Ops.call (l11Word_c letters _ _ _ (gl wss (i : Int)) _ hrow hlt (by omega) hx.2.2) rfl rfl rfl ?_
  rintro _ w2 ⟨rfl, rfl⟩
  first | refine Ops.not_p rfl rfl ?_ | refine Ops.not rfl rfl ?_
  refine Ops.mb rfl rfl rfl ?_
  refine Ops.split 21 rfl (fun h => absurd h (by decide)) (fun _ => ?_) --f
  refine Ops.g rfl rfl rfl (Ops.ms rfl rfl rfl (Ops.g rfl rfl rfl (Ops.mi rfl rfl rfl (Ops.g rfl rfl rfl (Ops.idx hR.top.2 rfl rfl rfl (by omega) (by omega) (Ops.g rfl rfl rfl (Ops.ld_sl hR.top rfl (by omega) rfl rfl (Ops.g rfl rfl rfl (Ops.len rfl rfl ?_)))))))))
  refine Ops.g rfl rfl rfl (Ops.mi rfl rfl rfl (Ops.g rfl rfl rfl (Ops.lss rfl rfl rfl (Ops.pick_f rfl rfl rfl (Ops.n (tQ (Cd.cond_pf rfl (by omega) (Cd.skip (blockQ_n ?_)))))))))
  refine tQ (Cd.region (Ops.mi rfl rfl rfl (Ops.add rfl rfl rfl (by omega) (Ops.mi rfl rfl rfl (Ops.n (tQ ?_))))))
  exact ⟨i + 1, by omega, ⟨rfl, rfl, rfl, rfl, trivial⟩, rfl, by omega⟩
 ·refine Cd.exit (thenQ_x (thenQ_x (blockQ_x (tQ (Cd.seq (Cd.region (Ops.ms rfl rfl rfl (Ops.len rfl rfl (Ops.leq rfl rfl rfl ?_)))))))))
  refine Ops.mb rfl rfl rfl (Ops.n (tQ (Cd.ret (ret1_b rfl ?_))))
  exact ⟨by rw [decide_eq_true (by omega)], rfl⟩

theorem l11Is_c (gens : Nat) (Ar : Option Addr) (nr cr : Nat) (rsr : List SlV) (rel : List (List Int)) (w : World) (hR : RowsI w Ar nr rsr rel) (hg : 1 ≤ gens ∧ gens ≤ 5) (hW : WordsOk (gens : Int) 1 rel) :
  Ret Tryz.prog 142 [.agg #[.int .i64 (gens : Int), .slice Ar nr cr]] w (fun v w' => v = .bool true ∧ St w w' []) := by
 refine Ret.of_cd Tryz.func142 rfl Tryz.ntmps142 rfl (post1 rfl) (Cd.seq (Cd.region (Ops.box2 (St.refl w) rfl rfl ?_)))
 intro A1 w1 hS1
 refine Ops.mb rfl rfl rfl (Ops.n (tQ (Cd.seq (Cd.region (Ops.fld (hS1.rd 0 rfl) rfl rfl rfl rfl inferInstance (Ops.ldf_i (hS1.rd 0 rfl) rfl rfl rfl rfl rfl ?_))))))
 skip
 refine Ops.call (l01In_c _ _ _ _) rfl rfl rfl ?_
 rintro _ w2 ⟨rfl, rfl⟩
 refine Ops.mb rfl rfl rfl ?_
 refine Ops.split_p 6 rfl (fun _ => ?_) (fun h => absurd (by omega) h) --t
 refine Ops.g rfl rfl rfl (Ops.fld (hS1.rd 0 rfl) rfl rfl rfl rfl inferInstance (Ops.g rfl rfl rfl (Ops.ldf_i (hS1.rd 0 rfl) rfl rfl rfl rfl rfl (Ops.g rfl rfl rfl (Ops.fld (hS1.rd 0 rfl) rfl rfl rfl rfl inferInstance (Ops.g rfl rfl rfl (Ops.ldf_s (hS1.rd 0 rfl) rfl rfl rfl rfl rfl (Ops.g rfl rfl rfl ?_))))))))
 refine Ops.call (l11Words_c (gens : Int) 1 Ar nr cr rsr rel _ (hS1.oldRows hR) (by omega) (by decide) hW) rfl rfl rfl ?_
 rintro _ w2 ⟨rfl, rfl⟩
 refine Ops.pick_t rfl rfl rfl (Ops.mb rfl rfl rfl (Ops.n (tQ (Cd.ret (ret1_b rfl ?_)))))
 exact ⟨rfl, hS1.none⟩
theorem l11Code_c (gens : Nat) (Ar : Option Addr) (nr cr : Nat) (rsr : List SlV) (rel : List (List Int)) (w : World) (hR : RowsI w Ar nr rsr rel) (hg : 1 ≤ gens ∧ gens ≤ 5) (hW : WordsOk (gens : Int) 1 rel) :
  Ret Tryz.prog 134 [.agg #[.int .i64 (gens : Int), .slice Ar nr cr], .slice none 0 0] w (fun v w' => v = .int .i64 0 ∧ St w w' []) := by
 refine Ret.of_cd Tryz.func134 rfl Tryz.ntmps134 rfl (post1 rfl) (Cd.seq (Cd.region (Ops.box2 (St.refl w) rfl rfl ?_)))
 intro A1 w1 hS1
 refine Ops.mi rfl rfl rfl (Ops.n (tQ (Cd.seq (Cd.seq (Cd.region (Ops.ld_agg 1 (hS1.rd 0 rfl) rfl rfl rfl ?_))))))
 skip
 refine Ops.call (l11Is_c gens Ar nr cr rsr rel _ (hS1.oldRows hR) hg hW) rfl rfl rfl ?_
 rintro _ w2 ⟨rfl, hst⟩
 have hS2 := hS1.later hst.below
 first | refine Ops.not_p rfl rfl ?_ | refine Ops.not rfl rfl ?_
 refine Ops.mb rfl rfl rfl ?_
 refine Ops.split 8 rfl (fun h => absurd h (by decide)) (fun _ => ?_) --f
 refine Ops.g rfl rfl rfl (Ops.fld (hS2.rd 0 rfl) rfl rfl rfl rfl inferInstance (Ops.g rfl rfl rfl (Ops.ldf_i (hS2.rd 0 rfl) rfl rfl rfl rfl rfl (Ops.g rfl rfl rfl (Ops.ms rfl rfl rfl (Ops.g rfl rfl rfl ?_))))))
 refine Ops.call (l11Words_c (gens : Int) 0 none 0 0 [] [] _ (RowsI.nil _) (by omega) (by decide) ⟨by decide, fun x hx => (nomatch hx)⟩) rfl rfl rfl ?_
 rintro _ w3 ⟨rfl, rfl⟩
 refine Ops.g rfl rfl rfl ?_
 first | refine Ops.not_p rfl rfl ?_ | refine Ops.not rfl rfl ?_
 refine Ops.pick_f rfl rfl rfl (Ops.n (tQ (Cd.cond_f rfl (Cd.skip (tQ (Cd.seq (Cd.region (Ops.mi rfl rfl rfl (Ops.n ?_)))))))))
 refine tQ (Cd.ret (ret1_i rfl ?_))
 exact ⟨rfl, hS2.none⟩

/-- how far the open statement is -/
structure Wr4 (w0 : World) (A2 A4 : Option Addr) (gens : Nat) (Ar : Option Addr) (nr cr : Nat) (rel : List (List Int)) (S : Nat → Bool) (e : Env) (w : World) : Prop where
  f1 : e 1 = .slice none 0 0
  f2 : e 2 = .pointer A2
  f4 : e 4 = .pointer A4
  p0 : S 0 = true → e 16 = .pointer (ptrAt A2 0)
  p1 : S 1 = true → e 17 = .int .i64 (gens : Int)
  p2 : S 2 = true → e 18 = .pointer (ptrAt A2 1)
  p3 : S 3 = true → e 19 = .slice Ar nr cr
  mem : ∃ (B : Option Addr) (cB : Nat) (rsB : List SlV) (M bs : List Ck) (Ad : Option Addr), (S 4 = false → M = []) ∧ (S 4 = true → e 20 = .slice B nr cB ∧ rsB.length = nr ∧ M = mat 28 2 B nr cB rsB rel) ∧ (S 5 = true → e 21 = .agg #[.int .i64 (gens : Int), .slice B nr cB]) ∧ (S 6 = false → bs = []) ∧
    (S 6 = true → e 7 = .pointer Ad ∧ ((S 7 = false ∧ bs = [Bx 118 2 Ad [.int .i64 0, .slice none 0 0]]) ∨ (S 7 = true ∧ bs = [Bx 118 2 Ad [.int .i64 (gens : Int), .slice B nr cB]]))) ∧
    St w0 w (bs ++ (M ++ [Bx 118 2 A4 [.int .i64 0, .slice none 0 0], Bx 118 2 A2 [.int .i64 (gens : Int), .slice Ar nr cr]]))

theorem WithRelators_c (gens : Nat) (Ar : Option Addr) (nr cr : Nat) (rsr : List SlV) (rel : List (List Int)) (w : World) (hR : RowsI w Ar nr rsr rel) (hg : 1 ≤ gens ∧ gens ≤ 5) (hW : WordsOk (gens : Int) 1 rel) :
  Ret Tryz.prog 121 [.agg #[.int .i64 (gens : Int), .slice Ar nr cr], .slice none 0 0] w (fun v w' => ∃ B cB rsB, v = .tuple #[.agg #[.int .i64 (gens : Int), .slice B nr cB], .int .i64 0] ∧ rsB.length = nr ∧ St w w' (mat 28 2 B nr cB rsB rel)) := by
 have hrl := hR.len
 have h24 := hW.1
 refine Ret.of_cd Tryz.func121 rfl Tryz.ntmps121 rfl (postc2 rfl rfl) (Cd.seq (Cd.region (Ops.box2 (St.refl w) rfl rfl ?_)))
 intro A2 w1 hS1
 skip
 refine Ops.new2 hS1 rfl ?_
 intro A4 w2 hS2
 refine Ops.mi rfl rfl rfl (Ops.n (tQ (Cd.seq (Cd.seq (Cd.region (Ops.ld_agg 1 (hS2.rd 1 rfl) rfl rfl rfl (Ops.ms rfl rfl rfl (Ops.call (l11Code_c gens Ar nr cr rsr rel _ (hS2.oldRows hR) hg hW) rfl rfl rfl ?_))))))))
 rintro _ w3 ⟨rfl, hst⟩
 have hS3 := hS2.later hst.below
 refine Ops.mi rfl rfl rfl (Ops.n (tQ (Cd.seq (Cd.region (Ops.mi rfl rfl rfl (Ops.neq rfl rfl rfl (Ops.n (tQ ?_))))))))
 refine Cd.cond_pf rfl (fun h => h rfl) ?_
 refine Cd.skip (tQ (Cd.seq ?_))
 refine Cd.drawS (by kernel_rfl) (by kernel_rfl) (fun S e1 w1 => Wr4 w A2 A4 gens Ar nr cr rel S e1 w1) (fun w4 hb => ⟨rfl, rfl, rfl, fun h => (nomatch h), fun h => (nomatch h), fun h => (nomatch h), fun h => (nomatch h), none, 0, [], [], [], none, fun _ => rfl, fun h => (nomatch h), fun h => (nomatch h), fun _ => rfl, fun h => (nomatch h), hS3.later hb⟩) ?_ ?_
 ·intro S k o e1 w4 hk hSk hd hcl hI
  obtain ⟨f1, f2, f4, p0, p1, p2, p3, B, cB, rsB, M, bs, Ad, m0, m1, m2, m3, m4, hT⟩ := hI
  have hRR : RowsI w4 Ar nr rsr rel := hT.oldRows hR
  have hB2 : Rd w4 A2 2 (fun j => [Value.int .i64 (gens : Int), .slice Ar nr cr].getD j undef) := (((hT.sub (List.sublist_append_right _ _)).sub (List.sublist_append_right _ _))).rd 1 rfl
  match k, hk, hSk with
  | 0, hk, hSk =>
   obtain rfl := Option.some.inj hk
   refine Ops.fld hB2 (by exact f2) rfl rfl rfl inferInstance (Ops.n ?_)
   exact ⟨f1, f2, f4, fun _ => rfl, p1, p2, p3, B, cB, rsB, M, bs, Ad, m0, m1, m2, m3, m4, hT⟩
  | 1, hk, hSk =>
   obtain rfl := Option.some.inj hk
   refine Ops.ldf_i hB2 (by exact p0 (deps_of hd 0 rfl)) rfl rfl rfl rfl (Ops.n ?_)
   exact ⟨f1, f2, f4, p0, fun _ => rfl, p2, p3, B, cB, rsB, M, bs, Ad, m0, m1, m2, m3, m4, hT⟩
  | 2, hk, hSk =>
   obtain rfl := Option.some.inj hk
   refine Ops.fld hB2 (by exact f2) rfl rfl rfl inferInstance (Ops.n ?_)
   exact ⟨f1, f2, f4, p0, p1, fun _ => rfl, p3, B, cB, rsB, M, bs, Ad, m0, m1, m2, m3, m4, hT⟩
  | 3, hk, hSk =>
   obtain rfl := Option.some.inj hk
   refine Ops.ldf_s hB2 (by exact p2 (deps_of hd 2 rfl)) rfl rfl rfl rfl (Ops.n ?_)
   exact ⟨f1, f2, f4, p0, p1, p2, fun _ => rfl, B, cB, rsB, M, bs, Ad, m0, m1, m2, m3, m4, hT⟩
  | 4, hk, hSk =>
   obtain rfl := Option.some.inj hk
   have hM := m0 hSk
   subst hM
   have n5 : S 5 = false := by
    cases h : S 5 with
    | false => rfl
    | true => rw [← hSk]; exact (deps_of (hcl 5 _ h rfl) 4 rfl).symm
   have n7 : S 7 = false := by
    cases h : S 7 with
    | false => rfl
    | true => rw [← n5]; exact (deps_of (hcl 7 _ h rfl) 5 rfl).symm
   refine Ops.call (l01Own2_c Ar nr cr rsr rel _ hRR (by omega) (fun j hj => by
    have hrow := hR.at_ (i := (j : Int)) (by omega) (by omega)
    have h1 := (hW.2 (gl rel (j : Int)) (by rw [gl_mem (by omega)]; exact List.getElem_mem _)).2.1
    have h2 := hrow.1
    have e : rg rsr (j : Int) = rsr.getD j slNil := by simp [rg]
    rw [← e]
    omega)) rfl (by exact congrArg (fun v => [v]) (p3 (deps_of hd 3 rfl))) rfl ?_
   rintro _ w5 ⟨B', c', rs', rfl, hrl', hst5⟩
   refine Ops.n ?_
   refine ⟨f1, f2, f4, p0, p1, p2, p3, B', c', rs', _, bs, Ad, fun h => (nomatch (show true = false from h)), fun _ => ⟨rfl, hrl', rfl⟩, fun h => (nomatch n5.symm.trans h), m3, fun h => ?_, ?_⟩
   ·obtain ⟨h7, h8⟩ := m4 h
    refine ⟨h7, .inl ⟨n7, ?_⟩⟩
    rcases h8 with h8 | h8
    ·exact h8.2
    ·exact (nomatch n7.symm.trans h8.1)
   ·have h9 := hT.call hst5
    have h9 : St w w5 (mat 28 2 B' nr c' rs' rel ++ (bs ++ [Bx 118 2 A4 [.int .i64 0, .slice none 0 0], Bx 118 2 A2 [.int .i64 (gens : Int), .slice Ar nr cr]])) := h9
    exact h9.toBack
  | 5, hk, hSk =>
   obtain rfl := Option.some.inj hk
   obtain ⟨h20, hrB, hM⟩ := m1 (deps_of hd 4 rfl)
   refine Ops.bld2c (by exact inferInstance) (by exact inferInstance) rfl rfl (by exact p1 (deps_of hd 1 rfl)) (by exact h20) rfl rfl rfl (Ops.n ?_)
   exact ⟨f1, f2, f4, p0, p1, p2, p3, B, cB, rsB, M, bs, Ad, m0, m1, fun _ => rfl, m3, m4, hT⟩
  | 6, hk, hSk =>
   obtain rfl := Option.some.inj hk
   have hbs := m3 hSk
   subst hbs
   have n7 : S 7 = false := by
    cases h : S 7 with
    | false => rfl
    | true => rw [← hSk]; exact (deps_of (hcl 7 _ h rfl) 6 rfl).symm
   refine Ops.new2 hT rfl ?_
   intro Ae w5 hT5
   refine Ops.n ?_
   exact ⟨f1, f2, f4, p0, p1, p2, p3, B, cB, rsB, M, [Bx 118 2 Ae [.int .i64 0, .slice none 0 0]], Ae, m0, m1, m2, fun h => (nomatch (show true = false from h)), fun _ => ⟨rfl, .inl ⟨n7, rfl⟩⟩, hT5⟩
  | 7, hk, hSk =>
   obtain rfl := Option.some.inj hk
   have hs6 := deps_of hd 6 rfl
   obtain ⟨h7, h8⟩ := m4 hs6
   rcases h8 with ⟨_, rfl⟩ | h8
   ·refine Ops.st_agg 2 0 hT rfl (by exact h7) (by exact m2 (deps_of hd 5 rfl)) rfl rfl rfl rfl ?_
    intro w5 hT5
    refine Ops.n ?_
    exact ⟨f1, f2, f4, p0, p1, p2, p3, B, cB, rsB, M, [Bx 118 2 Ad [.int .i64 (gens : Int), .slice B nr cB]], Ad, m0, m1, m2, fun h => (nomatch hs6.symm.trans h), fun _ => ⟨h7, .inr ⟨rfl, rfl⟩⟩, hT5⟩
   ·exact (nomatch hSk.symm.trans h8.1)
  | q + 8, hk, _ => exact (nomatch hk)
 ·intro S e1 w4 hall hI
  obtain ⟨f1, f2, f4, p0, p1, p2, p3, B, cB, rsB, M, bs, Ad, m0, m1, m2, m3, m4, hT⟩ := hI
  obtain ⟨h7, h8⟩ := m4 (hall 6 (by decide))
  rcases h8 with h8 | ⟨_, rfl⟩
  ·exact (nomatch (hall 7 (by decide)).symm.trans h8.1)
  obtain ⟨_, hrB, hM⟩ := m1 (hall 4 (by decide))
  subst hM
  refine thenQ_ext (F := [(1, .slice none 0 0), (2, .pointer A2), (4, .pointer A4), (7, .pointer Ad)]) ⟨f1, f2, f4, h7, trivial⟩ ?_
  have hT := (hT : St w w4 ([Bx 118 2 Ad [.int .i64 (gens : Int), .slice B nr cB]] ++ (mat 28 2 B nr cB rsB rel ++ [Bx 118 2 A4 [.int .i64 0, .slice none 0 0], Bx 118 2 A2 [.int .i64 (gens : Int), .slice Ar nr cr]])))
  have hT2 : St w w4 ([Bx 118 2 Ad [.int .i64 (gens : Int), .slice B nr cB], Bx 118 2 A4 [.int .i64 0, .slice none 0 0], Bx 118 2 A2 [.int .i64 (gens : Int), .slice Ar nr cr]] ++ mat 28 2 B nr cB rsB rel) := hT.perm (List.Perm.cons _ (List.perm_append_comm (l₂ := [_, _])))
  refine tQ (Cd.seq (Cd.seq (Cd.region (Ops.mi rfl rfl rfl (Ops.n (tQ (Cd.block ?_)))))))
  refine Cd.loop (α := Unit) (fun _ => [(1, .slice none 0 0), (4, .pointer A4), (7, .pointer Ad), (8, .int .i64 0)]) (fun _ w' => w' = w4) (fun _ => 0) () ⟨rfl, rfl, rfl, rfl, trivial⟩ rfl ?_
  rintro ⟨⟩ e w5 rfl
  refine Cd.seq (Cd.seq (Cd.region (Ops.mi rfl rfl rfl (Ops.ms rfl rfl rfl (Ops.len rfl rfl (Ops.lss rfl rfl rfl (Ops.n (tQ ?_))))))))
  refine Cd.cond_pf rfl (by decide) ?_
  refine Cd.exit (thenQ_x (thenQ_x (blockQ_x (tQ (Cd.seq (Cd.seq (Cd.region (Ops.fld (hT2.rd 0 rfl) rfl rfl rfl rfl inferInstance (Ops.ldf_s (hT2.rd 0 rfl) rfl rfl rfl rfl rfl ?_)))))))))
  refine Ops.len rfl rfl (Ops.gtr rfl rfl rfl (Ops.n (tQ (Cd.cond_pf rfl (by omega) (Cd.skip (tQ (Cd.seq (Cd.region (Ops.ld_agg 1 (hT2.rd 0 rfl) rfl rfl rfl ?_)))))))))
  skip
  refine Ops.st_agg 2 1 hT2 rfl rfl rfl rfl rfl rfl rfl ?_
  intro w6 hT6
  refine Ops.mi rfl rfl rfl (Ops.n (tQ (Cd.ret ?_)))
  skip
  refine retc2_r rfl (hT6.rd 1 rfl) rfl ?_
  exact ⟨B, cB, rsB, rfl, hrB, ((hT6.sub ((List.Sublist.refl _).cons _)).sub ((List.Sublist.refl _).cons _)).sub ((List.Sublist.refl _).cons _)⟩
end Go.Proofs.YtbhnfehcpnnjcaaGreatDoor.Vc
/-
 The reference's universal polytope, walked. Conditions: as each states them.
-/
namespace Go.Proofs.YtbhnfehcpnnjcaaGreatDoor.Vc
open Go.RowKit

theorem l11Small_c (gens : Nat) (Ar : Option Addr) (nr cr : Nat) (rsr : List SlV) (rel : List (List Int)) (T : List (List Int)) (w : World) (hR : RowsI w Ar nr rsr rel) (hrel : ∀ x ∈ rel, x.length ≤ 1000000) (hnr : nr ≤ 1000000) (hp : tableP gens rel = some T) (hT0 : 0 < T.length) (hT4 : (gl T 0).length ≤ 400) :
  Ret Tryz.prog 123 [.agg #[.int .i64 (gens : Int), .slice Ar nr cr], .slice none 0 0] w (fun v w' => ∃ A c rs, v = .tuple #[.slice A T.length c, .int .i64 0] ∧ rs.length = T.length ∧ St w w' (mat 28 2 A T.length c rs T)) := by
 refine Ret.of_cd Tryz.func123 rfl Tryz.ntmps123 rfl (post2 rfl) (Cd.seq (Cd.region (Ops.box2 (St.refl w) rfl rfl ?_)))
 intro A2 w1 hS1
 refine Ops.ms rfl rfl rfl (Ops.mi rfl rfl rfl (Ops.n (tQ (Cd.seq (Cd.region (Ops.ld_agg 1 (hS1.rd 0 rfl) rfl rfl rfl (Ops.ms rfl rfl rfl (Ops.call (l11Table_c gens Ar nr cr rsr rel T _ (hS1.oldRows hR) hrel hnr hp) rfl rfl rfl ?_))))))))
 rintro _ w2 ⟨A, c, rs, rfl, hrl, hst⟩
 have hS2 := hS1.call hst
 have hRT : RowsI w2 A T.length rs T := St.rowsI hS2 rfl
 have hr0 := hRT.at_ (i := 0) (Int.le_refl _) (by omega)
 have hr1 := hr0.1
 refine Ops.mv_tup rfl rfl rfl (Ops.extract rfl rfl rfl (Ops.extract rfl rfl rfl (Ops.ms rfl rfl rfl (Ops.mb rfl rfl rfl (Ops.n (tQ (Cd.seq (Cd.seq (Cd.region ?_)))))))))
 refine Ops.mb rfl rfl rfl ?_
 first | refine Ops.not_p rfl rfl ?_ | refine Ops.not rfl rfl ?_
 refine Ops.mb rfl rfl rfl ?_
 refine Ops.split 16 rfl (fun h => absurd h (by decide)) (fun _ => ?_) --f
 refine Ops.g rfl rfl rfl (Ops.ms rfl rfl rfl (Ops.g rfl rfl rfl (Ops.idx hRT.top.2 rfl rfl rfl (by omega) (by omega) (Ops.g rfl rfl rfl (Ops.ld_sl (i := 0) hRT.top rfl (by omega) rfl rfl (Ops.g rfl rfl rfl (Ops.len rfl rfl (Ops.g rfl rfl rfl (Ops.gtr rfl rfl rfl ?_)))))))))
 refine Ops.pick_f rfl rfl rfl (Ops.n (tQ (Cd.cond_pf rfl (by omega) (Cd.skip (tQ (Cd.seq (Cd.region (Ops.ms rfl rfl rfl (Ops.ms rfl rfl rfl ?_)))))))))
 refine Ops.mi rfl rfl rfl (Ops.n (tQ (Cd.ret (ret2_si rfl rfl ?_))))
 exact ⟨A, c, rs, rfl, hrl, hS2.sub (List.sublist_append_left _ _)⟩

/-- what a diagram gives -/
structure UniOk (labels : List Int) (T : List (List Int)) : Prop where
 len : labels.length < 5
 lab : ∀ x ∈ labels, x = 0 ∨ (2 ≤ x ∧ x ≤ 32)
 words : WordsOk ((labels.length + 1 : Nat) : Int) 1 (presP labels)
 tab : tableP (labels.length + 1) (presP labels) = some T
 mani : Mani T

theorem specUniversalPolytope_c (Al : Option Addr) (nl cl : Nat) (labels : List Int) (T : List (List Int)) (w : World) (hR : RdI w Al nl labels) (hU : UniOk labels T) :
  Ret Tryz.prog 106 [.slice Al nl cl, .slice none 0 0] w (AnsX T 0 w) := by
 obtain ⟨u1, u2, u3, u4, u5⟩ := hU
 have hll := hR.1
 have hT5 := u5.1
 have hT40 := u5.2.1
 rw [hll] at u1 u3 u4
 refine Ret.of_cd Tryz.func106 rfl Tryz.ntmps106 rfl (postc2 rfl rfl) (Cd.seq (Cd.region (Ops.new1 (St.refl w) rfl ?_)))
 intro A4 w1 hS1
 refine Ops.mi rfl rfl rfl (Ops.n (tQ (Cd.seq (Cd.seq (Cd.region (Ops.ms rfl rfl rfl (Ops.call (l12Is_c Al nl cl labels _ (hS1.oldI hR) u1 u2) rfl rfl rfl ?_)))))))
 rintro _ w2 ⟨rfl, rfl⟩
 first | refine Ops.not_p rfl rfl ?_ | refine Ops.not rfl rfl ?_
 refine Ops.n (tQ (Cd.cond_f rfl (Cd.skip (tQ (Cd.seq (Cd.region (Ops.ms rfl rfl rfl ?_)))))))
 refine Ops.call (l12Presentation_c Al nl cl labels _ (hS1.oldI hR) (by omega) (fun x hx => by have := u2 x hx; omega)) rfl rfl rfl ?_
 rintro _ w3 ⟨B, c, rs, rfl, hrl, hst3⟩
 have hS3 := hS1.call hst3
 have hRp : RowsI w3 B (presP labels).length rs (presP labels) := St.rowsI hS3 rfl
 have hgens : ((nl : Int) + 1) = ((nl + 1 : Nat) : Int) := by omega
 rw [hgens]
 refine Ops.ms rfl rfl rfl (Ops.call (WithRelators_c (nl + 1) B (presP labels).length c rs (presP labels) _ hRp (by omega) u3) rfl rfl rfl ?_)
 rintro _ w4 ⟨B2, c2, rs2, rfl, hrl2, hst4⟩
 have hS4 := hS3.call hst4
 refine Ops.mv_tup rfl rfl rfl (Ops.extract rfl rfl rfl (Ops.extract rfl rfl rfl (Ops.new2 hS4 rfl ?_)))
 intro A6 w5 hS5
 skip
 refine Ops.st_agg 2 0 hS5 rfl rfl rfl rfl rfl rfl rfl ?_
 intro w6 hS6
 have hS6 : St w w6 (Bx 118 2 A6 [.int .i64 ((nl + 1 : Nat) : Int), .slice B2 (presP labels).length c2] :: (mat 28 2 B2 (presP labels).length c2 rs2 (presP labels) ++ (mat 28 2 B (presP labels).length c rs (presP labels) ++ [Bx 26 1 A4 [.slice none 0 0]]))) := hS6
 have hRq : RowsI w6 B2 (presP labels).length rs2 (presP labels) := St.rowsI hS6.tail rfl
 refine Ops.mi rfl rfl rfl (Ops.n (tQ (Cd.seq (Cd.seq (Cd.region (Ops.mi rfl rfl rfl (Ops.neq rfl rfl rfl (Ops.n (tQ ?_)))))))))
 refine Cd.cond_pf rfl (fun h => h rfl) ?_
 refine Cd.skip (tQ (Cd.seq (Cd.region (Ops.ld_agg 1 (hS6.rd 0 rfl) rfl rfl rfl ?_))))
 skip
 refine Ops.call (l11Small_c (nl + 1) B2 (presP labels).length c2 rs2 (presP labels) T _ hRq (fun x hx => by have := (u3.2 x hx).2.1; omega) (by have := u3.1; omega) u4 (by omega) (by omega)) rfl rfl rfl ?_
 rintro _ w7 ⟨A, cA, rsA, rfl, hrlA, hst7⟩
 have hS7 := hS6.call hst7
 have hRT : RowsI w7 A T.length rsA T := St.rowsI hS7 rfl
 have hr0 := hRT.at_ (i := 0) (Int.le_refl _) (by omega)
 have hr1 := hr0.1
 refine Ops.mv_tup rfl rfl rfl (Ops.extract rfl rfl rfl (Ops.extract rfl rfl rfl (Ops.ms rfl rfl rfl (Ops.mi rfl rfl rfl (Ops.n (tQ (Cd.seq (Cd.seq (Cd.region ?_)))))))))
 refine Ops.mi rfl rfl rfl (Ops.neq rfl rfl rfl (Ops.mb rfl rfl rfl ?_))
 refine Ops.split_p 33 rfl (fun h => absurd rfl h) (fun _ => ?_) --f
 refine Ops.g rfl rfl rfl (Ops.ms rfl rfl rfl (Ops.g rfl rfl rfl (Ops.idx hRT.top.2 rfl rfl rfl (by omega) (by omega) (Ops.g rfl rfl rfl (Ops.ld_sl (i := 0) hRT.top rfl (by omega) rfl rfl (Ops.g rfl rfl rfl (Ops.len rfl rfl (Ops.g rfl rfl rfl (Ops.gtr rfl rfl rfl ?_)))))))))
 refine Ops.pick_f rfl rfl rfl (Ops.n (tQ (Cd.cond_pf rfl (by omega) (Cd.skip (tQ (Cd.seq (Cd.region (Ops.ms rfl rfl rfl (Ops.bld1 (by exact inferInstance) rfl rfl rfl rfl ?_)))))))))
 refine Ops.new1 hS7 rfl ?_
 intro A10 w8 hS8
 skip
 refine Ops.st_agg 1 0 hS8 rfl rfl rfl rfl rfl rfl rfl ?_
 intro w9 hS9
 have hS9 : St w w9 (Bx 26 1 A10 [.slice A T.length cA] :: (mat 28 2 A T.length cA rsA T ++ (Bx 118 2 A6 [.int .i64 ((nl + 1 : Nat) : Int), .slice B2 (presP labels).length c2] :: (mat 28 2 B2 (presP labels).length c2 rs2 (presP labels) ++ (mat 28 2 B (presP labels).length c rs (presP labels) ++ [Bx 26 1 A4 [.slice none 0 0]]))))) := hS9
 have hRT9 : RowsI w9 A T.length rsA T := St.rowsI hS9.tail rfl
 refine Ops.n (tQ (Cd.seq (Cd.seq (Cd.region (Ops.ld_agg 0 (hS9.rd 0 rfl) rfl rfl rfl (Ops.call (l02Is_c A T.length cA rsA T _ hRT9 (by omega)) rfl rfl rfl ?_))))))
 rintro _ w10 ⟨rfl, hst10⟩
 have hS10 := hS9.later hst10.below
 have hS11 : St w w10 ([Bx 26 1 A10 [.slice A T.length cA], Bx 26 1 A4 [.slice none 0 0]] ++ mat 28 2 A T.length cA rsA T) := by
  have h1 : St w w10 (Bx 26 1 A10 [.slice A T.length cA] :: (mat 28 2 A T.length cA rsA T ++ [Bx 26 1 A4 [.slice none 0 0]])) :=
   hS10.sub (List.Sublist.cons_cons _ (List.Sublist.append_left (((List.sublist_append_right _ _).trans (List.sublist_append_right _ _)).cons _) _))
  exact h1.perm (List.Perm.cons _ (List.perm_append_comm (l₂ := [_])))
 first | refine Ops.not_p rfl rfl ?_ | refine Ops.not rfl rfl ?_
 refine Ops.n (tQ ?_)
 refine Cd.cond_pf rfl (fun h => h u5) ?_
 refine Cd.skip (tQ (Cd.seq (Cd.region (Ops.ld_agg 0 (hS11.rd 0 rfl) rfl rfl rfl (Ops.st_agg 1 1 hS11 rfl rfl rfl rfl rfl rfl rfl ?_)))))
 intro w12 hS12
 refine Ops.mi rfl rfl rfl (Ops.n (tQ (Cd.ret ?_)))
 skip
 refine retc2_r rfl (hS12.rd 1 rfl) rfl ?_
 exact ⟨A, cA, rsA, rfl, hrlA, (hS12.sub ((List.Sublist.refl _).cons _)).sub ((List.Sublist.refl _).cons _)⟩
end Go.Proofs.YtbhnfehcpnnjcaaGreatDoor.Vc
/-
 Universal polytopes of small diagrams, computed. Conditions: none.
-/
namespace Go.Proofs.YtbhnfehcpnnjcaaGreatDoor.Vc
open Go.RowKit

def uniT (labels : List Int) : List (List Int) := (tableP (labels.length + 1) (presP labels)).getD []
def uniB (labels : List Int) : Bool := decide (labels.length < 5) && decide (∀ x ∈ labels, x = 0 ∨ (2 ≤ x ∧ x ≤ 32)) && decide (WordsOk ((labels.length + 1 : Nat) : Int) 1 (presP labels)) && (tableP (labels.length + 1) (presP labels)).isSome && decide (Mani (uniT labels))
theorem uniOk {labels : List Int} (h : uniB labels = true) : UniOk labels (uniT labels) := by
 simp only [uniB, Bool.and_eq_true, decide_eq_true_eq] at h
 obtain ⟨⟨⟨⟨h1, h2⟩, h3⟩, h4⟩, h5⟩ := h
 refine ⟨h1, h2, h3, ?_, h5⟩
 obtain ⟨T, hT⟩ := Option.isSome_iff_exists.1 h4
 rw [hT, uniT, hT]
 rfl
set_option maxRecDepth 100000 in
theorem uni_22 : uniB [2, 2] = true := by kernel_rfl
set_option maxRecDepth 100000 in
theorem uni_23 : uniB [2, 3] = true := by kernel_rfl
set_option maxRecDepth 100000 in
theorem uni_42 : uniB [4, 2] = true := by kernel_rfl
set_option maxRecDepth 100000 in
theorem uni_52 : uniB [5, 2] = true := by kernel_rfl
set_option maxRecDepth 100000 in
theorem uni_26 : uniB [2, 6] = true := by kernel_rfl
set_option maxRecDepth 100000 in
theorem uni_33 : uniB [3, 3] = true := by kernel_rfl
set_option maxRecDepth 100000 in
theorem uni_43 : uniB [4, 3] = true := by kernel_rfl
set_option maxRecDepth 100000 in
theorem uni_34 : uniB [3, 4] = true := by kernel_rfl
end Go.Proofs.YtbhnfehcpnnjcaaGreatDoor.Vc
/-
 The draws of maniplexes, walked: solids. Conditions: as each states them.
-/
namespace Go.Proofs.YtbhnfehcpnnjcaaGreatDoor.Vc
open Go.RowKit

section
variable {P : Program} {N : Nat} {ops : Array Oper} {K : Env → World → Prop} {rest : List Oper} {e : Env} {w0 w : World} {ks : List Ck} {d : Nat} {ty : TypeId} {pos : String} {af : Array Edge}
def idxR : Nat → List SlV → List (Nat × Value)
 | _, [] => []
 | k, v :: r => (k, v.v) :: idxR (k + 1) r
theorem fill_rows : ∀ (vs : List SlV) (k : Nat) (cells : Array Value), k + vs.length ≤ cells.size → ∃ out, Instr.fill (fun i => some (i * 1, 1)) cells (idxR k vs) = some out ∧ out.size = cells.size ∧ (∀ j, j < k → out[j]? = cells[j]?) ∧ (∀ j, j < vs.length → out[k + j]? = vs[j]?.map SlV.v) ∧ (∀ j, k + vs.length ≤ j → out[j]? = cells[j]?)
 | [], k, cells, _ => ⟨cells, rfl, rfl, fun _ _ => rfl, fun j hj => absurd hj (Nat.not_lt_zero _), fun _ _ => rfl⟩
 | v :: r, k, cells, h => by
  have hk : k < cells.size := by simp at h; omega
  obtain ⟨out, h1, h2, h3, h4, h5⟩ := fill_rows r (k + 1) (cells.setIfInBounds k v.v) (by simp at h ⊢; omega)
  refine ⟨out, ?_, by rw [h2]; simp, fun j hj => ?_, fun j hj => ?_, fun j hj => ?_⟩
  ·show Instr.fill _ cells ((k, v.v) :: idxR (k + 1) r) = some out
   rw [← h1]
   simp [Instr.fill, SlV.v, Value.cells, show ¬ cells.size < k + 1 by omega]
  ·rw [h3 j (by omega), Array.getElem?_setIfInBounds, if_neg (by omega)]
  ·cases j with
   | zero => rw [Nat.add_zero, h3 k (by omega), Array.getElem?_setIfInBounds, if_pos rfl, if_pos hk]; rfl
   | succ q =>
    have := h4 q (by simpa using hj)
    rw [show k + (q + 1) = k + 1 + q by omega, this]
    rfl
  ·rw [h5 j (by simp at hj ⊢; omega), Array.getElem?_setIfInBounds, if_neg (by simp at hj; omega)]
theorem fill_litR (vs : List SlV) (cells : Array Value) (h : cells.size = vs.length) : Instr.fill (fun i => some (i * 1, 1)) cells (idxR 0 vs) = some (vs.map SlV.v).toArray := by
 obtain ⟨out, h1, h2, _, h4, _⟩ := fill_rows vs 0 cells (by omega)
 rw [h1]
 congr 1
 apply Array.ext'
 apply List.ext_getElem?
 intro j
 by_cases hj : j < vs.length
 ·have := h4 j hj
  rw [Nat.zero_add] at this
  simpa using this
 ·rw [List.getElem?_eq_none (by simpa [h2, h] using hj), List.getElem?_eq_none (by simpa using hj)]
theorem Ops.bsLR {t el : TypeId} {z : Value} {b n : Nat} [Und P t (.slice el)] [Inf P el z 1 b] {ps : Array (Nat × Operand)} (vs : List SlV) (hS : St w0 w ks) (hv : (ps.toList.map fun p => (p.1, ev e p.2)) = idxR 0 vs) (hn : vs.length = n) (hn0 : n ≠ 0) (hn1 : n ≤ 1000) (hz : z.cells = #[z]) (hb : Nat.blt d N = true)
    (hK : ∀ A w', St w0 w' (CkR el A n n vs :: ks) → Ops P N ops K rest (upd e d (.slice A n n)) w') : Ops P N ops K (⟨some d, .buildSlice t n ps, ty, pos, af, none⟩ :: rest) e w := by
  subst hn
  obtain ⟨inf, hi, hz0, hs, hby⟩ := Inf.get P el
  have hA := hS.alloc (vs.map SlV.v) el (by simp [maxLen]; omega) (isM_R _)
  refine .val (w' := w.alloc (.cells (vs.map SlV.v).toArray el)) ?_ hb (hK _ _ (by simpa [CkR] using hA))
  have hf := fill_litR vs ((Array.range (vs.length * 1)).map ((#[z] : Array Value)[· % (#[z] : Array Value).size]!)) (by simp)
  have hv' : (ps.map fun p => (p.1, ev e p.2)).toList = idxR 0 vs := by rw [Array.toList_map]; exact hv
  have h24 : ¬ 16777216 < vs.length := by omega
  simp only [Nat.mul_one] at hf
  simp [execOp, Instr.buildSlice, run_underlying (Und.out (P := P) (t := t)), sizeOf, typeInfo, zeroValue, hi, hs, hz0, hz, newRow, hv, h24, hn0]
  simp at hf
  simp [hf]
end
theorem Mani.bound {xss : List (List Int)} (h : Mani xss) : xss.length ≤ 6 ∧ ∀ p ∈ xss, p.length ≤ 20001 ∧ ∀ x ∈ p, -1 ≤ x ∧ x ≤ 20001 := by
 obtain ⟨h1, h2, h3, _⟩ := h
 refine ⟨by omega, fun p hp => ?_⟩
 obtain ⟨q1, q2, _⟩ := h3 p hp
 obtain ⟨q3, q4, _⟩ := q2
 exact ⟨by omega, fun x hx => by have := q4 x hx; omega⟩

theorem uni_at : ∀ r : Nat, r < 8 → UniOk (gl [[3, 3], [3, 3], [4, 3], [3, 4], [2, 3], [4, 2], [5, 2], [2, 6]] (r : Int)) (uniT (gl [[3, 3], [3, 3], [4, 3], [3, 4], [2, 3], [4, 2], [5, 2], [2, 6]] (r : Int)))
 | 0, _ => uniOk uni_33
 | 1, _ => uniOk uni_33
 | 2, _ => uniOk uni_43
 | 3, _ => uniOk uni_34
 | 4, _ => uniOk uni_23
 | 5, _ => uniOk uni_42
 | 6, _ => uniOk uni_52
 | 7, _ => uniOk uni_26
 | r + 8, h => absurd h (by omega)

theorem l14DrawSolid_c {w0 w : World} {ks : List Ck} (ix : Nat) {As : Option Addr} {k : Ck} (most : Nat) (hS : St w0 w ks) (hk : ks[ix]? = some k) (hK : srcK w0 As k) (hm : 8 ≤ most ∧ most ≤ 1000) :
  Ret Tryz.prog 84 [.pointer As, .int .i64 (most : Int)] w (AnsS w0 ks ix As) := by
 refine Ret.of_cd Tryz.func84 rfl Tryz.ntmps84 rfl (postc rfl rfl) (Cd.seq (Cd.region (Ops.new1 hS rfl ?_)))
 intro A4 w1 hS1
 refine Ops.n (tQ ?_)
 refine Cd.join (α := Ck) (fun _ => [(0, .pointer As), (1, .int .i64 (most : Int)), (4, .pointer A4)]) (fun k' w' => srcK w0 As k' ∧ St w0 w' (Bx 26 1 A4 [.slice none 0 0] :: ks.set ix k')) ?_ ?_
 ·refine Cd.seq (Cd.region (Ops.mv_ptr rfl rfl rfl (Ops.call (srcNext_c (ix + 1) 4 hS1 (by exact hk) hK) rfl rfl rfl ?_)))
  rintro _ w2 ⟨r, k1, rfl, hr, hK1, hS2⟩
  have hS2 : St w0 w2 (Bx 26 1 A4 [.slice none 0 0] :: ks.set ix k1) := hS2
  have hk1 := setK_get (k' := k1) hk
  refine Ops.n (tQ (Cd.block (Cd.seq (Cd.region (Ops.eql rfl rfl rfl (Ops.mb rfl rfl rfl (Ops.n (tQ ?_))))))))
  refine Cd.cond_p _ rfl (fun h1 => ?_) (fun h1 => ?_)
  ·refine Cd.seq (Cd.region ?_)
   refine Ops.bsL [3, 3] hS2 rfl rfl (by decide) (by decide) rfl rfl ?_
   intro L0 v0 hL0
   skip
   refine Ops.bsL [3, 3] hL0 rfl rfl (by decide) (by decide) rfl rfl ?_
   intro L1 v1 hL1
   skip
   refine Ops.bsL [4, 3] hL1 rfl rfl (by decide) (by decide) rfl rfl ?_
   intro L2 v2 hL2
   skip
   refine Ops.bsL [3, 4] hL2 rfl rfl (by decide) (by decide) rfl rfl ?_
   intro L3 v3 hL3
   skip
   refine Ops.bsL [2, 3] hL3 rfl rfl (by decide) (by decide) rfl rfl ?_
   intro L4 v4 hL4
   skip
   refine Ops.bsL [4, 2] hL4 rfl rfl (by decide) (by decide) rfl rfl ?_
   intro L5 v5 hL5
   skip
   refine Ops.bsL [5, 2] hL5 rfl rfl (by decide) (by decide) rfl rfl ?_
   intro L6 v6 hL6
   skip
   refine Ops.bsL [2, 6] hL6 rfl rfl (by decide) (by decide) rfl rfl ?_
   intro L7 v7 hL7
   skip
   refine Ops.bsLR [⟨L0, 2, 2⟩, ⟨L1, 2, 2⟩, ⟨L2, 2, 2⟩, ⟨L3, 2, 2⟩, ⟨L4, 2, 2⟩, ⟨L5, 2, 2⟩, ⟨L6, 2, 2⟩, ⟨L7, 2, 2⟩] hL7 rfl rfl (by decide) (by decide) rfl rfl ?_
   intro A27 w3 hS3
   refine Ops.mv_ptr rfl rfl rfl (Ops.call (srcNext_c (ix + 10) 8 hS3 (by exact hk1) hK1) rfl rfl rfl ?_)
   rintro _ w4 ⟨g, k2, rfl, hg, hK2, hS4⟩
   obtain ⟨q, rfl⟩ : ∃ q : Nat, g = q := ⟨g.toNat, by omega⟩
   have hq : q < 8 := by omega
   have hrow : RdI w4 (rg [⟨L0, 2, 2⟩, ⟨L1, 2, 2⟩, ⟨L2, 2, 2⟩, ⟨L3, 2, 2⟩, ⟨L4, 2, 2⟩, ⟨L5, 2, 2⟩, ⟨L6, 2, 2⟩, ⟨L7, 2, 2⟩] (q : Int)).a (rg [⟨L0, 2, 2⟩, ⟨L1, 2, 2⟩, ⟨L2, 2, 2⟩, ⟨L3, 2, 2⟩, ⟨L4, 2, 2⟩, ⟨L5, 2, 2⟩, ⟨L6, 2, 2⟩, ⟨L7, 2, 2⟩] (q : Int)).n (gl [[3, 3], [3, 3], [4, 3], [3, 4], [2, 3], [4, 2], [5, 2], [2, 6]] (q : Int)) := by
    rcases (by omega : q = 0 ∨ q = 1 ∨ q = 2 ∨ q = 3 ∨ q = 4 ∨ q = 5 ∨ q = 6 ∨ q = 7) with rfl | rfl | rfl | rfl | rfl | rfl | rfl | rfl
    ·exact hS4.rdI 8 rfl
    ·exact hS4.rdI 7 rfl
    ·exact hS4.rdI 6 rfl
    ·exact hS4.rdI 5 rfl
    ·exact hS4.rdI 4 rfl
    ·exact hS4.rdI 3 rfl
    ·exact hS4.rdI 2 rfl
    ·exact hS4.rdI 1 rfl
   have hU := uni_at q hq
   skip
   refine Ops.idx (hS4.rd 0 rfl) rfl rfl rfl (by omega) (by show (q : Int) < (8 : Int); omega) ?_
   refine Ops.ld_sl (i := (q : Int)) (hS4.rdR 0 rfl) rfl (by show (q : Int).toNat < 8; omega) rfl rfl ?_
   have hS5 : St w0 w4 (Bx 26 1 A4 [.slice none 0 0] :: (ks.set ix k1).set ix k2) := hS4.tail.tail.tail.tail.tail.tail.tail.tail.tail
   rw [List.set_set] at hS5
   generalize uniT (gl [[3, 3], [3, 3], [4, 3], [3, 4], [2, 3], [4, 2], [5, 2], [2, 6]] (q : Int)) = T at hU
   generalize gl [[3, 3], [3, 3], [4, 3], [3, 4], [2, 3], [4, 2], [5, 2], [2, 6]] (q : Int) = L at hU hrow
   generalize rg [⟨L0, 2, 2⟩, ⟨L1, 2, 2⟩, ⟨L2, 2, 2⟩, ⟨L3, 2, 2⟩, ⟨L4, 2, 2⟩, ⟨L5, 2, 2⟩, ⟨L6, 2, 2⟩, ⟨L7, 2, 2⟩] (q : Int) = sl at hrow
   obtain ⟨La, ln, lc⟩ := sl
   refine Ops.ms rfl rfl rfl (Ops.n (tQ (Cd.seq (Cd.region (Ops.ms rfl rfl rfl (Ops.call (specUniversalPolytope_c La ln lc L T w4 hrow hU) rfl rfl rfl ?_))))))
   rintro _ w5 ⟨A, c, rs, rfl, hrl, hT⟩
   have hMa := hU.mani
   have hS6 : St w0 w5 (Bx 26 1 A4 [.slice none 0 0] :: (mat 28 2 A T.length c rs T ++ ks.set ix k2)) := (hS5.call hT).perm List.perm_middle
   have hcap : T.length ≤ c ∧ c ≤ 9223372036854775807 := hS6.cap 1 rfl
   refine Ops.mv_tup rfl rfl rfl (Ops.extract rfl rfl rfl (Ops.extract rfl rfl rfl (Ops.new1 hS6 rfl ?_)))
   intro A6 w6 hS7
   skip
   refine Ops.st_agg 1 0 hS7 rfl rfl rfl rfl rfl rfl rfl ?_
   intro w7 hS8
   have hS8 : St w0 w7 (Bx 26 1 A6 [.slice A T.length c] :: Bx 26 1 A4 [.slice none 0 0] :: (mat 28 2 A T.length c rs T ++ ks.set ix k2)) := hS8
   have hM1 := hMa.1
   refine Ops.mi rfl rfl rfl (Ops.n (tQ (Cd.seq (Cd.region (Ops.mi rfl rfl rfl (Ops.eql rfl rfl rfl (Ops.mb rfl rfl rfl ?_)))))))
   refine Ops.split_p 39 rfl (fun h2 => ?_) (fun h2 => ?_)
   ·refine Ops.g rfl rfl rfl (Ops.ld_agg 0 (hS8.rd 0 rfl) rfl rfl rfl (Ops.g rfl rfl rfl (Ops.call (l02Flags_c A T.length c rs T w7 (St.rowsI hS8.tail.tail rfl) (by omega)) rfl rfl rfl ?_)))
    rintro _ w8 ⟨rfl, hT'⟩
    have hS9 := hS8.later hT'.below
    refine Ops.g rfl rfl rfl (Ops.mi rfl rfl rfl (Ops.g rfl rfl rfl (Ops.leq rfl rfl rfl (Ops.pick_t rfl rfl rfl (Ops.n (tQ ?_))))))
    refine Cd.cond_p _ rfl (fun h3 => ?_) (fun h3 => ?_)
    ·refine Cd.seq (Cd.region (Ops.ld_agg 0 (hS9.rd 0 rfl) rfl rfl rfl ?_))
     skip
     refine Ops.st_agg 1 1 hS9 rfl rfl rfl rfl rfl rfl rfl ?_
     intro w9 hS10
     refine Ops.n (tQ (Cd.ret (blockQ_r (thenQ_r ?_))))
     skip
     refine retc_r rfl (hS10.rd 1 rfl) ?_
     exact ⟨T.length, A, c, rs, T, _, k2, rfl, hMa.bound.1, hcap, hMa.bound.2, hK2, fun w'' Y h => St.rowsI h rfl, hS10.tail.tail⟩
    ·refine Cd.skip (blockQ_n (tQ ?_))
     exact ⟨k2, ⟨rfl, rfl, rfl, trivial⟩, hK2, hS9.tail.sub (List.Sublist.cons_cons _ (List.sublist_append_right _ _))⟩
   ·exact absurd rfl h2 --x
  ·refine Cd.seq (Cd.region (Ops.eql rfl rfl rfl (Ops.mb rfl rfl rfl (Ops.n (tQ ?_)))))
   refine Cd.cond_p _ rfl (fun h2 => ?_) (fun h2 => ?_)
   ·refine Cd.seq (Cd.region (Ops.mv_ptr rfl rfl rfl (Ops.mi rfl rfl rfl (Ops.quo rfl rfl rfl (by omega) ?_))))
    skip
    refine Ops.minI rfl rfl rfl ?_
    skip
    refine Ops.call (l14DrawRotation_c (ix + 1) _ hS2 (by exact hk1) hK1 (by omega)) rfl rfl rfl ?_
    rintro _ w3 ⟨Ar, nr, cr, ps, k2, rfl, hnr, hps, hK2, hS3⟩
    have hS3 : St w0 w3 (CkI 2 Ar nr cr ps :: Bx 26 1 A4 [.slice none 0 0] :: (ks.set ix k1).set ix k2) := hS3
    rw [List.set_set] at hS3
    refine Ops.ms rfl rfl rfl (Ops.n (tQ (Cd.seq (Cd.region (Ops.ms rfl rfl rfl (Ops.call (MapOfRotation_c Ar nr cr ps w3 (hS3.rdI 0 rfl) (by omega)) rfl rfl rfl ?_))))))
    rintro _ w4 ⟨n, A, c, rs, xss, code, rfl, hn, hrl, hxl, hb, hT⟩
    have hS4 : St w0 w4 (Bx 26 1 A4 [.slice none 0 0] :: (mat 28 2 A n c rs xss ++ ks.set ix k2)) := ((hS3.tail).call hT).perm (List.perm_middle (l₁ := mat 28 2 A n c rs xss))
    have hcap : n ≤ c ∧ c ≤ 9223372036854775807 := hS4.cap 1 rfl
    refine Ops.mv_tup rfl rfl rfl (Ops.extract rfl rfl rfl (Ops.extract rfl rfl rfl (Ops.new1 hS4 rfl ?_)))
    intro A9 w5 hS5
    skip
    refine Ops.st_agg 1 0 hS5 rfl rfl rfl rfl rfl rfl rfl ?_
    intro w6 hS6
    have hS6 : St w0 w6 (Bx 26 1 A9 [.slice A n c] :: Bx 26 1 A4 [.slice none 0 0] :: (mat 28 2 A n c rs xss ++ ks.set ix k2)) := hS6
    refine Ops.mi rfl rfl rfl (Ops.n (tQ (Cd.seq (Cd.region (Ops.mi rfl rfl rfl (Ops.eql rfl rfl rfl (Ops.n (tQ ?_))))))))
    refine Cd.cond_p _ rfl (fun h3 => ?_) (fun h3 => ?_)
    ·refine Cd.seq (Cd.region (Ops.ld_agg 0 (hS6.rd 0 rfl) rfl rfl rfl ?_))
     skip
     refine Ops.st_agg 1 1 hS6 rfl rfl rfl rfl rfl rfl rfl ?_
     intro w7 hS7
     refine Ops.n (tQ (Cd.ret (blockQ_r (thenQ_r ?_))))
     skip
     refine retc_r rfl (hS7.rd 1 rfl) ?_
     exact ⟨n, A, c, rs, xss, _, k2, rfl, hn, hcap, hb, hK2, fun w'' Y h => St.rowsI h hxl, hS7.tail.tail⟩
    ·refine Cd.skip (blockQ_n (tQ ?_))
     exact ⟨k2, ⟨rfl, rfl, rfl, trivial⟩, hK2, hS6.tail.sub (List.Sublist.cons_cons _ (List.sublist_append_right _ _))⟩
   ·refine Cd.skip (blockQ_n (tQ ?_))
    exact ⟨k1, ⟨rfl, rfl, rfl, trivial⟩, hK1, hS2⟩
 ·rintro k1 e w2 ⟨hK1, hS2⟩
  refine Cd.seq (Cd.seq (Cd.region (Ops.mi rfl rfl rfl (Ops.n (tQ (Cd.block ?_))))))
  refine Cd.loop (α := Nat × Ck) (fun s => [(0, .pointer As), (1, .int .i64 (most : Int)), (4, .pointer A4), (11, .int .i64 (s.1 : Int))]) (fun s w' => srcK w0 As s.2 ∧ s.1 ≤ 20 ∧ St w0 w' (Bx 26 1 A4 [.slice none 0 0] :: ks.set ix s.2)) (fun s => 20 - s.1) (0, k1) ⟨rfl, rfl, rfl, rfl, trivial⟩ ⟨hK1, Nat.zero_le _, hS2⟩ ?_
  rintro ⟨i, k2⟩ e w3 ⟨hK2, hi, hS3⟩
  dsimp only at hK2 hi hS3 ⊢
  have hk2 := setK_get (k' := k2) hk
  refine Cd.seq (Cd.seq (Cd.region (Ops.mi rfl rfl rfl (Ops.lss rfl rfl rfl (Ops.n (tQ ?_))))))
  refine Cd.cond_p _ rfl (fun h1 => ?_) (fun h1 => ?_)
  ·refine Cd.skip (tQ (Cd.seq (Cd.block (Cd.seq (Cd.region (Ops.mv_ptr rfl rfl rfl (Ops.mi rfl rfl rfl (Ops.call (l02Draw_c (ix + 1) most hS3 (by exact hk2) hK2 hm) rfl rfl rfl ?_))))))))
   rintro _ w4 ⟨n, N, A, c, rs, xss, k3, rfl, hn, hN, hrl, hxl, hG, hK3, hS4⟩
   have hS4 : St w0 w4 (mat 28 2 A n c rs xss ++ (Bx 26 1 A4 [.slice none 0 0] :: (ks.set ix k2).set ix k3)) := hS4
   rw [List.set_set] at hS4
   have hS4 : St w0 w4 (Bx 26 1 A4 [.slice none 0 0] :: (mat 28 2 A n c rs xss ++ ks.set ix k3)) := hS4.perm List.perm_middle
   have hcap : n ≤ c ∧ c ≤ 9223372036854775807 := hS4.cap 1 rfl
   skip
   refine Ops.new1 hS4 rfl ?_
   intro A12 w5 hS5
   skip
   refine Ops.st_agg 1 0 hS5 rfl rfl rfl rfl rfl rfl rfl ?_
   intro w6 hS6
   have hS6 : St w0 w6 (Bx 26 1 A12 [.slice A n c] :: Bx 26 1 A4 [.slice none 0 0] :: (mat 28 2 A n c rs xss ++ ks.set ix k3)) := hS6
   refine Ops.n (tQ (Cd.seq (Cd.region (Ops.ld_agg 0 (hS6.rd 0 rfl) rfl rfl rfl ?_))))
   skip
   refine Ops.call (l14Is_c A n c rs xss w6 (St.rowsI hS6.tail.tail hxl) (by omega)) rfl rfl rfl ?_
   rintro _ w7 ⟨rfl, hT⟩
   have hS7 := hS6.later hT.below
   refine Ops.n (tQ ?_)
   refine Cd.cond_p _ rfl (fun h2 => ?_) (fun h2 => ?_)
   ·refine Cd.seq (Cd.region (Ops.ld_agg 0 (hS7.rd 0 rfl) rfl rfl rfl ?_))
    skip
    refine Ops.st_agg 1 1 hS7 rfl rfl rfl rfl rfl rfl rfl ?_
    intro w8 hS8
    refine Ops.n (tQ (Cd.ret (blockQ_r (thenQ_r (thenQ_r (blockQ_r (thenQ_r ?_)))))))
    skip
    refine retc_r rfl (hS8.rd 1 rfl) ?_
    exact ⟨n, A, c, rs, xss, _, k3, rfl, by omega, hcap, h2.1.bound.2, hK3, fun w'' Y h => St.rowsI h hxl, hS8.tail.tail⟩
   ·refine Cd.skip (blockQ_n (tQ (Cd.region (Ops.mi rfl rfl rfl (Ops.add rfl rfl rfl (by omega) (Ops.mi rfl rfl rfl (Ops.n (tQ ?_))))))))
    exact ⟨(i + 1, k3), by show 20 - (i + 1) < 20 - i; omega, ⟨rfl, rfl, rfl, rfl, trivial⟩, hK3, by show i + 1 ≤ 20; omega, hS7.tail.sub (List.Sublist.cons_cons _ (List.sublist_append_right _ _))⟩
  ·refine Cd.exit (thenQ_x (thenQ_x (blockQ_x (tQ (Cd.seq (Cd.region ?_))))))
   refine Ops.bsL [2, 2] hS3 rfl rfl (by decide) (by decide) rfl rfl ?_
   intro A72 w4 hS4
   skip
   refine Ops.call (specUniversalPolytope_c A72 2 2 [2, 2] _ w4 (hS4.rdI 0 rfl) (uniOk uni_22)) rfl rfl rfl ?_
   rintro _ w5 ⟨A, c, rs, rfl, hrl, hT⟩
   have hMa := (uniOk uni_22).mani
   generalize uniT [2, 2] = T at hrl hT hMa
   have hS5 : St w0 w5 (Bx 26 1 A4 [.slice none 0 0] :: (mat 28 2 A T.length c rs T ++ ks.set ix k2)) := (hS4.tail.call hT).perm List.perm_middle
   have hcap : T.length ≤ c ∧ c ≤ 9223372036854775807 := hS5.cap 1 rfl
   refine Ops.mv_tup rfl rfl rfl (Ops.extract rfl rfl rfl (Ops.extract rfl rfl rfl (Ops.new1 hS5 rfl ?_)))
   intro A13 w6 hS6
   skip
   refine Ops.st_agg 1 0 hS6 rfl rfl rfl rfl rfl rfl rfl ?_
   intro w7 hS7
   refine Ops.mi rfl rfl rfl (Ops.n (tQ (Cd.seq (Cd.region (Ops.ld_agg 0 (hS7.rd 0 rfl) rfl rfl rfl ?_)))))
   skip
   refine Ops.st_agg 1 1 hS7 rfl rfl rfl rfl rfl rfl rfl ?_
   intro w8 hS8
   refine Ops.n (tQ (Cd.ret ?_))
   skip
   refine retc_r rfl (hS8.rd 1 rfl) ?_
   exact ⟨T.length, A, c, rs, T, _, k2, rfl, hMa.bound.1, hcap, hMa.bound.2, hK2, fun w'' Y h => St.rowsI h rfl, hS8.tail.tail⟩
end Go.Proofs.YtbhnfehcpnnjcaaGreatDoor.Vc
/-
 The draws of maniplexes, walked: the choice of a maniplex. Conditions: as each states them.
-/
namespace Go.Proofs.YtbhnfehcpnnjcaaGreatDoor.Vc
open Go.RowKit

theorem l14Draw_c {w0 w : World} {ks : List Ck} (ix : Nat) {As : Option Addr} {k : Ck} (most : Nat) (hS : St w0 w ks) (hk : ks[ix]? = some k) (hK : srcK w0 As k) (hm : 8 ≤ most ∧ most ≤ 1000) :
  Ret Tryz.prog 58 [.pointer As, .int .i64 (most : Int)] w (AnsS w0 ks ix As) := by
 refine Ret.of_cd Tryz.func58 rfl Tryz.ntmps58 rfl (postc rfl rfl) (Cd.seq (Cd.region (Ops.new1 hS rfl ?_)))
 intro A4 w1 hS1
 refine Ops.n (tQ (Cd.seq (Cd.seq (Cd.region (Ops.mv_ptr rfl rfl rfl (Ops.call (srcNext_c (ix + 1) 12 hS1 (by exact hk) hK) rfl rfl rfl ?_))))))
 rintro _ w2 ⟨r, k1, rfl, hr, hK1, hS2⟩
 have hS2 : St w0 w2 (Bx 26 1 A4 [.slice none 0 0] :: ks.set ix k1) := hS2
 have hk1 := setK_get (k' := k1) hk
 refine Ops.eql rfl rfl rfl (Ops.n (tQ ?_))
 refine Cd.cond_p _ rfl (fun h1 => ?_) (fun h1 => ?_)
 ·refine Cd.seq (Cd.region (Ops.mv_ptr rfl rfl rfl (Ops.mi rfl rfl rfl (Ops.call (l02Spoil_c (ix + 1) most hS2 (by exact hk1) hK1 hm) rfl rfl rfl ?_))))
  rintro _ w3 ⟨n, A, c, rs, xss, X, k2, rfl, hn, hcap, hb, hK2, hX, hS3⟩
  have hS3 : St w0 w3 (X ++ (Bx 26 1 A4 [.slice none 0 0] :: (ks.set ix k1).set ix k2)) := hS3
  rw [List.set_set] at hS3
  skip
  refine Ops.st_agg 1 0 (hS3.perm List.perm_middle) rfl rfl rfl rfl rfl rfl rfl ?_
  intro w4 hS4
  refine Ops.n (tQ (Cd.ret (thenQ_r ?_)))
  skip
  refine retc_r rfl (hS4.rd 0 rfl) ?_
  exact ⟨n, A, c, rs, xss, X, k2, rfl, hn, hcap, hb, hK2, hX, hS4.tail⟩
 ·refine Cd.skip (tQ (Cd.seq (Cd.region (Ops.mv_ptr rfl rfl rfl (Ops.mi rfl rfl rfl (Ops.call (l14DrawSolid_c (ix + 1) most hS2 (by exact hk1) hK1 hm) rfl rfl rfl ?_))))))
  rintro _ w3 ⟨n, A, c, rs, xss, X, k2, rfl, hn, hcap, hb, hK2, hX, hS3⟩
  have hS3 : St w0 w3 (X ++ (Bx 26 1 A4 [.slice none 0 0] :: (ks.set ix k1).set ix k2)) := hS3
  rw [List.set_set] at hS3
  skip
  refine Ops.st_agg 1 0 (hS3.perm List.perm_middle) rfl rfl rfl rfl rfl rfl rfl ?_
  intro w4 hS4
  refine Ops.n (tQ (Cd.ret ?_))
  skip
  refine retc_r rfl (hS4.rd 0 rfl) ?_
  exact ⟨n, A, c, rs, xss, X, k2, rfl, hn, hcap, hb, hK2, hX, hS4.tail⟩

theorem l18Draw_c {w0 w : World} {ks : List Ck} (ix : Nat) {As : Option Addr} {k : Ck} (most : Nat) (hS : St w0 w ks) (hk : ks[ix]? = some k) (hK : srcK w0 As k) (hm : 8 ≤ most ∧ most ≤ 1000) :
  Ret Tryz.prog 38 [.pointer As, .int .i64 (most : Int)] w (AnsS w0 ks ix As) := by
 refine Ret.of_cd Tryz.func38 rfl Tryz.ntmps38 rfl (postc rfl rfl) (Cd.seq (Cd.region (Ops.new1 hS rfl ?_)))
 intro A4 w1 hS1
 refine Ops.n (tQ (Cd.seq (Cd.seq (Cd.region (Ops.mv_ptr rfl rfl rfl (Ops.call (srcNext_c (ix + 1) 2 hS1 (by exact hk) hK) rfl rfl rfl ?_))))))
 rintro _ w2 ⟨r, k1, rfl, hr, hK1, hS2⟩
 have hS2 : St w0 w2 (Bx 26 1 A4 [.slice none 0 0] :: ks.set ix k1) := hS2
 have hk1 := setK_get (k' := k1) hk
 refine Ops.eql rfl rfl rfl (Ops.n (tQ ?_))
 refine Cd.cond_p _ rfl (fun h1 => ?_) (fun h1 => ?_)
 ·refine Cd.seq (Cd.region (Ops.mv_ptr rfl rfl rfl (Ops.mi rfl rfl rfl (Ops.call (l14Draw_c (ix + 1) most hS2 (by exact hk1) hK1 hm) rfl rfl rfl ?_))))
  rintro _ w3 ⟨n, A, c, rs, xss, X, k2, rfl, hn, hcap, hb, hK2, hX, hS3⟩
  have hS3 : St w0 w3 (X ++ (Bx 26 1 A4 [.slice none 0 0] :: (ks.set ix k1).set ix k2)) := hS3
  rw [List.set_set] at hS3
  skip
  refine Ops.st_agg 1 0 (hS3.perm List.perm_middle) rfl rfl rfl rfl rfl rfl rfl ?_
  intro w4 hS4
  refine Ops.n (tQ (Cd.ret (thenQ_r ?_)))
  skip
  refine retc_r rfl (hS4.rd 0 rfl) ?_
  exact ⟨n, A, c, rs, xss, X, k2, rfl, hn, hcap, hb, hK2, hX, hS4.tail⟩
 ·refine Cd.skip (tQ (Cd.seq (Cd.region (Ops.mv_ptr rfl rfl rfl (Ops.mi rfl rfl rfl (Ops.call (l02Spoil_c (ix + 1) most hS2 (by exact hk1) hK1 hm) rfl rfl rfl ?_))))))
  rintro _ w3 ⟨n, A, c, rs, xss, X, k2, rfl, hn, hcap, hb, hK2, hX, hS3⟩
  have hS3 : St w0 w3 (X ++ (Bx 26 1 A4 [.slice none 0 0] :: (ks.set ix k1).set ix k2)) := hS3
  rw [List.set_set] at hS3
  skip
  refine Ops.st_agg 1 0 (hS3.perm List.perm_middle) rfl rfl rfl rfl rfl rfl rfl ?_
  intro w4 hS4
  refine Ops.n (tQ (Cd.ret ?_))
  skip
  refine retc_r rfl (hS4.rd 0 rfl) ?_
  exact ⟨n, A, c, rs, xss, X, k2, rfl, hn, hcap, hb, hK2, hX, hS4.tail⟩

end Go.Proofs.YtbhnfehcpnnjcaaGreatDoor.Vc
/-
 The draws of maniplexes, walked: arguments of a path. Conditions: as each states them.
-/
namespace Go.Proofs.YtbhnfehcpnnjcaaGreatDoor.Vc
open Go.RowKit
section
variable {P : Program} {N : Nat} {ops : Array Oper} {K : Env → World → Prop} {rest : List Oper} {e : Env} {w0 w w' : World} {ks : List Ck} {d : Nat} {ty : TypeId} {pos : String} {af : Array Edge}
def retc3 (a n u u2 : Nat) (R : Value → World → Prop) : Post
 | .normal, e, w => ∃ A f, e a = .pointer A ∧ Rd w A n f ∧ R (.tuple #[.agg ((List.range n).map f).toArray, e u, e u2]) w
 | .ret, e, w => ∃ A f, e a = .pointer A ∧ Rd w A n f ∧ R (.tuple #[.agg ((List.range n).map f).toArray, e u, e u2]) w
 | _, _, _ => False
end

theorem l01FromG_c (Ac : Option Addr) (nc cc : Nat) (bs : List Int) (w : World) (hY : RdY w Ac nc bs) (hnc : nc ≤ 1000000) :
  Ret Tryz.prog 39 [.slice Ac nc cc] w (fun v w' => ∃ (As : Option Addr) (k : Ck), v = .pointer As ∧ (∀ w0, RdY w0 Ac nc bs → srcK w0 As k) ∧ St w w' [k]) := by
 refine Ret.of_cd Tryz.func39 rfl Tryz.ntmps39 rfl (post1 rfl) (Cd.seq (Cd.region (Ops.mv_ptr rfl rfl rfl (Ops.n (tQ (Cd.seq (Cd.region (Ops.ms rfl rfl rfl (Ops.ms rfl rfl rfl ?_)))))))))
 refine Ops.len rfl rfl (Ops.convK rfl rfl (wrap_u64_in _ (by omega)) ?_)
 skip
 refine Ops.addW rfl rfl rfl fun r1 _ => ?_
 skip
 refine Ops.bld02 (by exact inferInstance) (by exact inferInstance) (by exact inferInstance) rfl rfl rfl rfl rfl rfl rfl rfl (Ops.box3' (St.refl w) rfl rfl ?_)
 intro As w2 hS
 refine Ops.mv_ptr rfl rfl rfl (Ops.n (tQ (Cd.seq (Cd.seq (Cd.region (Ops.mi rfl rfl rfl (Ops.n (tQ (Cd.block ?_)))))))))
 refine Cd.loop (α := Nat × Int) (fun s => [(0, .slice Ac nc cc), (3, .pointer As), (4, .int .i64 (s.1 : Int))]) (fun s w' => St w w' [Bx 65 3 As [.slice Ac nc cc, .int .i64 0, .int .u64 s.2]] ∧ s.1 ≤ nc) (fun s => nc - s.1) (0, _) ⟨rfl, rfl, rfl, trivial⟩ ⟨hS, Nat.zero_le _⟩ ?_
 rintro ⟨i, h⟩ e w3 ⟨hS1, hi⟩
 dsimp only at hS1 hi ⊢
 refine Cd.seq (Cd.seq (Cd.region (Ops.mi rfl rfl rfl (Ops.ms rfl rfl rfl (Ops.len rfl rfl (Ops.lss rfl rfl rfl (Ops.mb rfl rfl rfl ?_)))))))
 refine Ops.split_p 16 rfl (fun h1 => ?_) (fun h1 => ?_)
 ·skip
  refine Ops.g rfl rfl rfl (Ops.mi rfl rfl rfl (Ops.g rfl rfl rfl (Ops.lss rfl rfl rfl (Ops.pick_t rfl rfl rfl (Ops.n (tQ ?_))))))
  refine Cd.cond_p _ rfl (fun h2 => ?_) (fun h2 => ?_)
  ·skip
   have h255 := hY.at_ (j := (i : Int)) (by omega) (by omega)
   have hY1 := hY.below hS1.below
   refine Cd.skip (tQ (Cd.seq (Cd.block ?_)))
   refine Cd.drawN [15] [.ex (.pointer (As)), .ex (.pointer (As)), .ex (.pointer (As)), .ex (.pointer (ptrAt (As) 2)), .ex (.int .u64 h), .pr (fun v _ => ∃ r : Int, v = .int .u64 r), .ex (.slice (Ac) (nc) (cc)), .ex (.int .i64 ((i : Int))), .ex (.pointer (ptrAt Ac (i : Int).toNat)), .ex (.int .u8 (bs.getD (i : Int).toNat 0)), .ex (.int .u64 (bs.getD (i : Int).toNat 0)), .pr (fun v _ => ∃ r : Int, v = .int .u64 r), .pr (fun v _ => ∃ r : Int, v = .int .u64 r), .ex (.pointer (As)), .ex (.pointer (ptrAt (As) 2)), .pr (fun _ w' => ∃ r : Int, St w w' [Bx 65 3 As [.slice Ac nc cc, .int .i64 0, .int .u64 r]])] (by kernel_rfl) (by kernel_rfl) (lx (lx (lx (lx (lx (List.forall_mem_cons.2 ⟨Yd.lasts_pr (fun _ _ _ h _ => h), (lx (lx (lx (lx (lx (List.forall_mem_cons.2 ⟨Yd.lasts_pr (fun _ _ _ h _ => h), (List.forall_mem_cons.2 ⟨Yd.lasts_pr (fun _ _ _ h _ => h), (lx (lx (List.forall_mem_cons.2 ⟨Yd.lasts_pr (fun v w w' h hb => by obtain ⟨r, h⟩ := h; exact ⟨r, h.later hb⟩), (fun _ h => by cases h)⟩)))⟩)⟩))))))⟩)))))) ⟨?_, ?_, ?_, ?_, ?_, ?_, ?_, ?_, ?_, ?_, ?_, ?_, ?_, ?_, ?_, ?_, trivial⟩ ?_
   ·intro e1 w1 cc hlo hhi hb0 hp hun hq
    show Ops _ _ _ _ _ _ _
    refine Ops.mv_ptr rfl rfl rfl (Ops.n (n0 rfl (by exact rfl)))
   ·intro e1 w1 cc hlo hhi hb0 hp hun hq
    show Ops _ _ _ _ _ _ _
    refine Ops.mv_ptr rfl rfl rfl (Ops.n (n0 rfl (by exact rfl)))
   ·intro e1 w1 cc hlo hhi hb0 hp hun hq
    show Ops _ _ _ _ _ _ _
    obtain rfl := cc_of hlo hhi (b := 0) (by kernel_rfl) (by kernel_rfl); clear hlo hhi
    have hb := hb0 rfl
    refine Ops.nilp ((hS1.rd 0 rfl).below hb) (Nat.succ_pos _) rfl rfl (Ops.n (n0 rfl (by exact rfl)))
   ·intro e1 w1 cc hlo hhi hb0 hp hun hq
    show Ops _ _ _ _ _ _ _
    obtain rfl := cc_of hlo hhi (b := 0) (by kernel_rfl) (by kernel_rfl); clear hlo hhi
    have hb := hb0 rfl
    refine Ops.fld ((hS1.rd 0 rfl).below hb) rfl rfl rfl rfl inferInstance (Ops.n (n0 rfl (by exact rfl)))
   ·intro e1 w1 cc hlo hhi hb0 hp hun hq
    show Ops _ _ _ _ _ _ _
    obtain rfl := cc_of hlo hhi (b := 0) (by kernel_rfl) (by kernel_rfl); clear hlo hhi
    have hb := hb0 rfl
    refine Ops.ldf_i (k := .u64) ((hS1.rd 0 rfl).below hb) rfl rfl rfl rfl rfl (Ops.n (n0 rfl (by exact rfl)))
   ·intro e1 w1 cc hlo hhi hb0 hp hun hq
    show Ops _ _ _ _ _ _ _
    refine Ops.mulW rfl rfl rfl fun r _ => ?_
    refine Ops.n ?_
    exact AfterN.dn rfl (Below.refl _ _) ⟨r, rfl⟩
   ·intro e1 w1 cc hlo hhi hb0 hp hun hq
    show Ops _ _ _ _ _ _ _
    refine Ops.ms rfl rfl rfl (Ops.n (n0 rfl (by exact rfl)))
   ·intro e1 w1 cc hlo hhi hb0 hp hun hq
    show Ops _ _ _ _ _ _ _
    refine Ops.mi rfl rfl rfl (Ops.n (n0 rfl (by exact rfl)))
   ·intro e1 w1 cc hlo hhi hb0 hp hun hq
    show Ops _ _ _ _ _ _ _
    obtain rfl := cc_of hlo hhi (b := 0) (by kernel_rfl) (by kernel_rfl); clear hlo hhi
    have hb := hb0 rfl
    refine Ops.idx (hY1.below hb).2.2 rfl rfl rfl (by omega) (by omega) (Ops.n (n0 rfl (by exact rfl)))
   ·intro e1 w1 cc hlo hhi hb0 hp hun hq
    show Ops _ _ _ _ _ _ _
    obtain rfl := cc_of hlo hhi (b := 0) (by kernel_rfl) (by kernel_rfl); clear hlo hhi
    have hb := hb0 rfl
    refine Ops.ld_byte (hY1.below hb) rfl (by omega) rfl rfl (Ops.n (n0 rfl (by exact rfl)))
   ·intro e1 w1 cc hlo hhi hb0 hp hun hq
    show Ops _ _ _ _ _ _ _
    refine Ops.convK rfl rfl (wrap_u64_in _ (by omega)) (Ops.n (n0 rfl (by exact rfl)))
   ·intro e1 w1 cc hlo hhi hb0 hp hun hq
    show Ops _ _ _ _ _ _ _
    obtain rfl := cc_of hlo hhi (b := 0) (by kernel_rfl) (by kernel_rfl); clear hlo hhi
    have hb := hb0 rfl
    obtain ⟨r, hr⟩ := (hp 5 _ _ (by kernel_rfl) rfl rfl (by kernel_rfl))
    refine Ops.addW (by exact hr) rfl rfl fun r _ => ?_
    refine Ops.n ?_
    exact AfterN.dn rfl (Below.refl _ _) ⟨r, rfl⟩
   ·intro e1 w1 cc hlo hhi hb0 hp hun hq
    show Ops _ _ _ _ _ _ _
    obtain rfl := cc_of hlo hhi (b := 0) (by kernel_rfl) (by kernel_rfl); clear hlo hhi
    have hb := hb0 rfl
    obtain ⟨r, hr⟩ := (hp 11 _ _ (by kernel_rfl) rfl rfl (by kernel_rfl))
    refine Ops.addW (by exact hr) rfl rfl fun r _ => ?_
    refine Ops.n ?_
    exact AfterN.dn rfl (Below.refl _ _) ⟨r, rfl⟩
   ·intro e1 w1 cc hlo hhi hb0 hp hun hq
    show Ops _ _ _ _ _ _ _
    obtain rfl := cc_of hlo hhi (b := 0) (by kernel_rfl) (by kernel_rfl); clear hlo hhi
    have hb := hb0 rfl
    refine Ops.nilp ((hS1.rd 0 rfl).below hb) (Nat.succ_pos _) rfl rfl (Ops.n (n0 rfl (by exact rfl)))
   ·intro e1 w1 cc hlo hhi hb0 hp hun hq
    show Ops _ _ _ _ _ _ _
    obtain rfl := cc_of hlo hhi (b := 0) (by kernel_rfl) (by kernel_rfl); clear hlo hhi
    have hb := hb0 rfl
    refine Ops.fld ((hS1.rd 0 rfl).below hb) rfl rfl rfl rfl inferInstance (Ops.n (n0 rfl (by exact rfl)))
   ·intro e1 w1 cc hlo hhi hb0 hp hun hq
    show Ops _ _ _ _ _ _ _
    obtain rfl := cc_of hlo hhi (b := 0) (by kernel_rfl) (by kernel_rfl); clear hlo hhi
    have hb := hb0 rfl
    obtain ⟨r, hr⟩ := (hp 12 _ _ (by kernel_rfl) rfl rfl (by kernel_rfl))
    refine Ops.stf 0 (hS1.later hb) rfl rfl (by exact hr) rfl rfl ?_
    intro w9 hT
    refine Ops.n ?_
    exact AfterT.st rfl ⟨r, hT⟩
   intro u w5 _ hu
   obtain ⟨r, hT⟩ := hu 15 _ rfl (by kernel_rfl)
   refine blockQ_n (tQ (Cd.region (Ops.mi rfl rfl rfl (Ops.add rfl rfl rfl (by omega) (Ops.mi rfl rfl rfl (Ops.n (tQ ?_)))))))
   exact ⟨(i + 1, r), by show nc - (i + 1) < nc - i; omega, ⟨rfl, rfl, rfl, trivial⟩, hT, by show i + 1 ≤ nc; omega⟩
  ·refine Cd.exit (thenQ_x (thenQ_x (blockQ_x (tQ (Cd.seq (Cd.region (Ops.mv_ptr rfl rfl rfl (Ops.mv_ptr rfl rfl rfl (Ops.n ?_)))))))))
   refine tQ (Cd.ret (ret1_v rfl ?_))
   exact ⟨As, _, rfl, fun w0 h0 => ⟨Ac, nc, cc, 0, h, bs, rfl, ⟨Int.le_refl _, by omega⟩, hnc, h0⟩, hS1⟩
 ·skip
  refine Ops.k rfl rfl rfl rfl rfl (Ops.k rfl rfl rfl rfl rfl (Ops.pick_f rfl rfl rfl (Ops.n (tQ (Cd.cond_f rfl (Cd.exit (thenQ_x (thenQ_x (blockQ_x ?_)))))))))
  refine tQ (Cd.seq (Cd.region (Ops.mv_ptr rfl rfl rfl (Ops.mv_ptr rfl rfl rfl (Ops.n (tQ (Cd.ret (ret1_v rfl ?_))))))))
  exact ⟨As, _, rfl, fun w0 h0 => ⟨Ac, nc, cc, 0, h, bs, rfl, ⟨Int.le_refl _, by omega⟩, hnc, h0⟩, hS1⟩

end Go.Proofs.YtbhnfehcpnnjcaaGreatDoor.Vc
/-
 The law of distances, walked: a number in a list. Conditions: as each states them.
-/
namespace Go.Proofs.YtbhnfehcpnnjcaaGreatDoor.Vc
open Go.RowKit

theorem hasInt_c (A : Option Addr) (n c : Nat) (xs : List Int) (x : Int) (w : World) (hR : RdI w A n xs) (hn : n ≤ 9223372036854775807) :
  Ret Tryz.prog 19 [.slice A n c, .int .i64 x] w (fun v w' => v = .bool (decide (x ∈ xs)) ∧ St w w' []) := by
 have hl := hR.1
 refine Ret.of_cd Tryz.func19 rfl Tryz.ntmps19 rfl (post1 rfl) (Cd.seq (Cd.region (Ops.mb rfl rfl rfl (Ops.n (tQ (Cd.seq (Cd.seq (Cd.region (Ops.mi rfl rfl rfl ?_)))))))))
 refine Ops.n (tQ (Cd.block ?_))
 refine Cd.loop (α := Nat) (fun s => [(0, .slice A n c), (1, .int .i64 x), (5, .int .i64 (s : Int))]) (fun s w' => w' = w ∧ s ≤ n ∧ ∀ j : Nat, j < s → gi xs (j : Int) ≠ x) (fun s => n - s) 0 ⟨rfl, rfl, rfl, trivial⟩ ⟨rfl, Nat.zero_le _, fun j hj => absurd hj (Nat.not_lt_zero _)⟩ ?_
 rintro i e w1 ⟨rfl, hi, hno⟩
 refine Cd.seq (Cd.seq (Cd.region (Ops.mi rfl rfl rfl (Ops.ms rfl rfl rfl (Ops.len rfl rfl (Ops.lss rfl rfl rfl (Ops.n (tQ ?_))))))))
 refine Cd.cond_p _ rfl (fun h1 => ?_) (fun h1 => ?_)
 ·refine Cd.skip (tQ (Cd.seq (Cd.block (Cd.seq (Cd.region (Ops.ms rfl rfl rfl (Ops.mi rfl rfl rfl (Ops.idx hR.2 rfl rfl rfl (by omega) (by omega) (Ops.ld_int hR rfl (by omega) rfl rfl ?_)))))))))
  refine Ops.mi rfl rfl rfl (Ops.eql rfl rfl rfl (Ops.n (tQ ?_)))
  refine Cd.cond_p _ rfl (fun h2 => ?_) (fun h2 => ?_)
  ·refine Cd.seq (Cd.region (Ops.mb rfl rfl rfl (Ops.n (tQ (Cd.ret (blockQ_r (thenQ_r (thenQ_r (blockQ_r ?_)))))))))
   refine thenQ_r (ret1_b rfl ?_)
   have hm : gi xs (i : Int) ∈ xs := by
    rw [gi_mem (by omega)]; exact List.getElem_mem _
   exact ⟨congrArg Value.bool (decide_eq_true (h2 ▸ hm)).symm, St.refl _⟩
  ·refine Cd.skip (blockQ_n (tQ (Cd.region (Ops.mi rfl rfl rfl (Ops.add rfl rfl rfl (by omega) (Ops.mi rfl rfl rfl (Ops.n (tQ ?_))))))))
   refine ⟨i + 1, by show n - (i + 1) < n - i; omega, ⟨rfl, rfl, rfl, trivial⟩, rfl, by omega, fun j hj => ?_⟩
   rcases Nat.lt_or_ge j i with h | h
   ·exact hno j h
   ·obtain rfl : j = i := by omega
    exact h2
 ·refine Cd.exit (thenQ_x (thenQ_x (blockQ_x (tQ (Cd.seq (Cd.region (Ops.mb rfl rfl rfl (Ops.n (tQ ?_)))))))))
  refine Cd.ret (ret1_b rfl ?_)
  refine ⟨congrArg Value.bool (decide_eq_false fun h => ?_).symm, St.refl _⟩
  obtain ⟨j, hj, rfl⟩ := List.getElem_of_mem h
  exact hno j (by omega) (gi_mem hj)
end Go.Proofs.YtbhnfehcpnnjcaaGreatDoor.Vc
/-
 Helpers of the laws: big, likeInts, same9. Conditions: as each states them.
-/
namespace Go.Proofs.YtbhnfehcpnnjcaaGreatDoor.Vc
open Go.RowKit

theorem big_c (Ac : Option Addr) (nc cc : Nat) (w : World) : Ret Tryz.prog 4 [.slice Ac nc cc] w (fun v w' => v = .bool (decide (4096 < (nc : Int))) ∧ St w w' []) := by
 refine Ret.of_cd Tryz.func4 rfl Tryz.ntmps4 rfl (post1 rfl) (Cd.seq (Cd.region (Ops.mb rfl rfl rfl (Ops.n (tQ (Cd.seq (Cd.region (Ops.ms rfl rfl rfl (Ops.len rfl rfl ?_)))))))))
 refine Ops.gtr rfl rfl rfl (Ops.mb rfl rfl rfl (Ops.n (tQ (Cd.ret (ret1_b rfl ?_)))))
 exact ⟨rfl, St.refl w⟩

theorem likeInts_c (A : Option Addr) (n c : Nat) (xs : List Int) (B : Option Addr) (m cB : Nat) (ys : List Int) (w : World) (hX : RdI w A n xs) (hY : RdI w B m ys) (hn : n ≤ 9223372036854775806) :
  Ret Tryz.prog 8 [.slice A n c, .slice B m cB] w (fun v w' => v = .bool (decide (xs = ys)) ∧ St w w' []) := by
 have hxl := hX.1
 have hyl := hY.1
 refine Ret.of_cd Tryz.func8 rfl Tryz.ntmps8 rfl (post1 rfl) (Cd.seq (Cd.region (Ops.mb rfl rfl rfl (Ops.n (tQ (Cd.seq (Cd.seq (Cd.region (Ops.ms rfl rfl rfl ?_)))))))))
 refine Ops.len rfl rfl (Ops.ms rfl rfl rfl (Ops.len rfl rfl (Ops.neq rfl rfl rfl (Ops.n (tQ ?_)))))
 refine Cd.cond_p _ rfl (fun h1 => ?_) (fun h1 => ?_)
 ·have hne : xs ≠ ys := fun e => h1 (by rw [← hxl, ← hyl, e])
  refine Cd.seq (Cd.region (Ops.mb rfl rfl rfl (Ops.n (tQ (Cd.ret (thenQ_r (ret1_b rfl ?_)))))))
  exact ⟨by rw [decide_eq_false hne], St.refl w⟩
 ·have hnm : n = m := by omega
  subst hnm
  refine Cd.skip (tQ (Cd.seq (Cd.seq (Cd.region (Ops.mi rfl rfl rfl (Ops.n (tQ (Cd.block ?_))))))))
  refine Cd.loop (α := Nat) (fun i => [(0, .slice A n c), (1, .slice B n cB), (5, .int .i64 (i : Int))]) (fun i w' => St w w' [] ∧ i ≤ n ∧ ∀ j, j < i → xs[j]? = ys[j]?) (fun i => n - i) 0 ⟨rfl, rfl, rfl, trivial⟩ ⟨St.refl w, Nat.zero_le _, fun j hj => absurd hj (Nat.not_lt_zero _)⟩ ?_
  rintro i e w1 ⟨hS1, hi, hj⟩
  have hX1 := hS1.oldI hX
  have hY1 := hS1.oldI hY
  refine Cd.seq (Cd.seq (Cd.region (Ops.mi rfl rfl rfl (Ops.ms rfl rfl rfl (Ops.len rfl rfl (Ops.lss rfl rfl rfl (Ops.n (tQ ?_))))))))
  refine Cd.cond_p _ rfl (fun h2 => ?_) (fun h2 => ?_)
  ·refine Cd.skip (tQ (Cd.seq (Cd.block (Cd.seq ?_))))
   refine Cd.draw [.ex (.slice (A) (n) (c)), .ex (.int .i64 ((i : Int))), .ex (.pointer (ptrAt (A) ((i : Int)).toNat)), .ex (.int .i64 (gi (xs) ((i : Int)))), .ex (.slice (B) (n) (cB)), .ex (.int .i64 ((i : Int))), .ex (.pointer (ptrAt (B) ((i : Int)).toNat)), .ex (.int .i64 (gi (ys) ((i : Int)))), .ex (.bool (decide (¬ (gi (xs) ((i : Int))) = (gi (ys) ((i : Int))))))] (by kernel_rfl) (by kernel_rfl) rfl (lx (lx (lx (lx (lx (lx (lx (lx (lx (fun _ h => by cases h)))))))))) ⟨?_, ?_, ?_, ?_, ?_, ?_, ?_, ?_, ?_, trivial⟩ ?_
   ·intro e1 w1 hb hp hun
    refine Ops.ms rfl rfl rfl (Ops.n (d0 (by exact rfl)))
   ·intro e1 w1 hb hp hun
    refine Ops.mi rfl rfl rfl (Ops.n (d0 (by exact rfl)))
   ·intro e1 w1 hb hp hun
    refine Ops.idx (hX1.later hb).2 rfl rfl rfl (by omega) (by omega) (Ops.n (d0 (by exact rfl)))
   ·intro e1 w1 hb hp hun
    refine Ops.ld_int (hX1.later hb) rfl (by omega) rfl rfl (Ops.n (d0 (by exact rfl)))
   ·intro e1 w1 hb hp hun
    refine Ops.ms rfl rfl rfl (Ops.n (d0 (by exact rfl)))
   ·intro e1 w1 hb hp hun
    refine Ops.mi rfl rfl rfl (Ops.n (d0 (by exact rfl)))
   ·intro e1 w1 hb hp hun
    refine Ops.idx (hY1.later hb).2 rfl rfl rfl (by omega) (by omega) (Ops.n (d0 (by exact rfl)))
   ·intro e1 w1 hb hp hun
    refine Ops.ld_int (hY1.later hb) rfl (by omega) rfl rfl (Ops.n (d0 (by exact rfl)))
   ·intro e1 w1 hb hp hun
    refine Ops.neq rfl rfl rfl (Ops.n (d0 (by exact rfl)))
   intro u w2 hb2 _
   have hS2 := hS1.later hb2
   refine tQ ?_
   refine Cd.cond_p _ rfl (fun h3 => ?_) (fun h3 => ?_)
   ·have hne : xs ≠ ys := fun e => h3 (by rw [e])
    refine Cd.seq (Cd.region (Ops.mb rfl rfl rfl (Ops.n (tQ (Cd.ret (blockQ_r (thenQ_r (thenQ_r (blockQ_r ?_)))))))))
    refine thenQ_r (ret1_b rfl ?_)
    exact ⟨by rw [decide_eq_false hne], hS2⟩
   ·have h3 := Decidable.not_not.1 h3
    rw [gi_mem (by omega), gi_mem (by omega)] at h3
    refine Cd.skip (blockQ_n (tQ (Cd.region (Ops.mi rfl rfl rfl (Ops.add rfl rfl rfl (by omega) (Ops.mi rfl rfl rfl (Ops.n (tQ ?_))))))))
    refine ⟨i + 1, by show n - (i + 1) < n - i; omega, ⟨rfl, rfl, rfl, trivial⟩, hS2, by omega, fun j hj' => ?_⟩
    by_cases e : j = i
    ·subst e; rw [List.getElem?_eq_getElem (by omega), List.getElem?_eq_getElem (by omega), h3]
    ·exact hj j (by omega)
  ·have he : xs = ys := List.ext_getElem? fun j => by
    by_cases hjn : j < n
    ·exact hj j (by omega)
    ·rw [List.getElem?_eq_none (by omega), List.getElem?_eq_none (by omega)]
   refine Cd.exit (thenQ_x (thenQ_x (blockQ_x (tQ (Cd.seq (Cd.region (Ops.mb rfl rfl rfl (Ops.n (tQ ?_)))))))))
   refine Cd.ret (ret1_b rfl ?_)
   exact ⟨by rw [decide_eq_true he], hS1⟩

theorem same9_c (A : Option Addr) (n c : Nat) (rs : List SlV) (xss : List (List Int)) (B : Option Addr) (m cB : Nat) (rs' : List SlV) (yss : List (List Int)) (w : World) (hX : RowsI w A n rs xss) (hY : RowsI w B m rs' yss) (hn : n ≤ 9223372036854775806) (hr : ∀ x ∈ xss, x.length ≤ 9223372036854775806) :
  Ret Tryz.prog 11 [.slice A n c, .slice B m cB] w (fun v w' => v = .bool (decide (xss = yss)) ∧ St w w' []) := by
 have hxl := hX.len
 have hyl := hY.len
 refine Ret.of_cd Tryz.func11 rfl Tryz.ntmps11 rfl (post1 rfl) (Cd.seq (Cd.region (Ops.mb rfl rfl rfl (Ops.n (tQ (Cd.seq (Cd.seq (Cd.region (Ops.ms rfl rfl rfl ?_)))))))))
 refine Ops.len rfl rfl (Ops.ms rfl rfl rfl (Ops.len rfl rfl (Ops.neq rfl rfl rfl (Ops.n (tQ ?_)))))
 refine Cd.cond_p _ rfl (fun h1 => ?_) (fun h1 => ?_)
 ·have hne : xss ≠ yss := fun e => h1 (by rw [← hxl, ← hyl, e])
  refine Cd.seq (Cd.region (Ops.mb rfl rfl rfl (Ops.n (tQ (Cd.ret (thenQ_r (ret1_b rfl ?_)))))))
  exact ⟨by rw [decide_eq_false hne], St.refl w⟩
 ·have hnm : n = m := by omega
  subst hnm
  refine Cd.skip (tQ (Cd.seq (Cd.seq (Cd.region (Ops.mi rfl rfl rfl (Ops.n (tQ (Cd.block ?_))))))))
  refine Cd.loop (α := Nat) (fun i => [(0, .slice A n c), (1, .slice B n cB), (5, .int .i64 (i : Int))]) (fun i w' => St w w' [] ∧ i ≤ n ∧ ∀ j, j < i → xss[j]? = yss[j]?) (fun i => n - i) 0 ⟨rfl, rfl, rfl, trivial⟩ ⟨St.refl w, Nat.zero_le _, fun j hj => absurd hj (Nat.not_lt_zero _)⟩ ?_
  rintro i e w1 ⟨hS1, hi, hj⟩
  have hX1 := hS1.oldRows hX
  have hY1 := hS1.oldRows hY
  refine Cd.seq (Cd.seq (Cd.region (Ops.mi rfl rfl rfl (Ops.ms rfl rfl rfl (Ops.len rfl rfl (Ops.lss rfl rfl rfl (Ops.n (tQ ?_))))))))
  refine Cd.cond_p _ rfl (fun h2 => ?_) (fun h2 => ?_)
  ·have hxi := hX1.at_ (i := (i : Int)) (by omega) (by omega)
   have hyi := hY1.at_ (i := (i : Int)) (by omega) (by omega)
   have hri : (rg rs (i : Int)).n ≤ 9223372036854775806 := by
    rw [← hxi.1, gl_mem (by omega)]; exact hr _ (List.getElem_mem _)
   refine Cd.skip (tQ (Cd.seq (Cd.block (Cd.seq ?_))))
   refine Cd.draw [.ex (.slice (A) (n) (c)), .ex (.int .i64 ((i : Int))), .ex (.pointer (ptrAt (A) ((i : Int)).toNat)), .ex (.slice ((rg (rs) ((i : Int))).a) ((rg (rs) ((i : Int))).n) ((rg (rs) ((i : Int))).c)), .ex (.slice (B) (n) (cB)), .ex (.int .i64 ((i : Int))), .ex (.pointer (ptrAt (B) ((i : Int)).toNat)), .ex (.slice ((rg (rs') ((i : Int))).a) ((rg (rs') ((i : Int))).n) ((rg (rs') ((i : Int))).c)), .ex (.bool (decide (gl xss (i : Int) = gl yss (i : Int)))), .ex (.bool (decide (¬ (gl xss (i : Int) = gl yss (i : Int)))))] (by kernel_rfl) (by kernel_rfl) rfl (lx (lx (lx (lx (lx (lx (lx (lx (lx (lx (fun _ h => by cases h))))))))))) ⟨?_, ?_, ?_, ?_, ?_, ?_, ?_, ?_, ?_, ?_, trivial⟩ ?_
   ·intro e1 w1 hb hp hun
    refine Ops.ms rfl rfl rfl (Ops.n (d0 (by exact rfl)))
   ·intro e1 w1 hb hp hun
    refine Ops.mi rfl rfl rfl (Ops.n (d0 (by exact rfl)))
   ·intro e1 w1 hb hp hun
    refine Ops.idx (hX1.top.later hb).2 rfl rfl rfl (by omega) (by omega) (Ops.n (d0 (by exact rfl)))
   ·intro e1 w1 hb hp hun
    refine Ops.ld_sl (hX1.top.later hb) rfl (by omega) rfl rfl (Ops.n (d0 (by exact rfl)))
   ·intro e1 w1 hb hp hun
    refine Ops.ms rfl rfl rfl (Ops.n (d0 (by exact rfl)))
   ·intro e1 w1 hb hp hun
    refine Ops.mi rfl rfl rfl (Ops.n (d0 (by exact rfl)))
   ·intro e1 w1 hb hp hun
    refine Ops.idx (hY1.top.later hb).2 rfl rfl rfl (by omega) (by omega) (Ops.n (d0 (by exact rfl)))
   ·intro e1 w1 hb hp hun
    refine Ops.ld_sl (hY1.top.later hb) rfl (by omega) rfl rfl (Ops.n (d0 (by exact rfl)))
   ·intro e1 w1 hb hp hun
    refine Ops.call (likeInts_c _ _ _ _ _ _ _ _ _ (hxi.later hb) (hyi.later hb) hri) rfl rfl rfl ?_
    rintro _ w2 ⟨rfl, hst⟩
    refine Ops.n ?_
    exact After.dn hst.below (by exact rfl)
   ·intro e1 w1 hb hp hun
    refine Ops.not_p rfl rfl (Ops.n (d0 (by exact rfl)))
   intro u w2 hb2 _
   have hS2 := hS1.later hb2
   refine tQ ?_
   refine Cd.cond_p _ rfl (fun h3 => ?_) (fun h3 => ?_)
   ·have hne : xss ≠ yss := fun e => h3 (by rw [e])
    refine Cd.seq (Cd.region (Ops.mb rfl rfl rfl (Ops.n (tQ (Cd.ret (blockQ_r (thenQ_r (thenQ_r (blockQ_r ?_)))))))))
    refine thenQ_r (ret1_b rfl ?_)
    exact ⟨by rw [decide_eq_false hne], hS2⟩
   ·have h3 := Decidable.not_not.1 h3
    rw [gl_mem (by omega), gl_mem (by omega)] at h3
    refine Cd.skip (blockQ_n (tQ (Cd.region (Ops.mi rfl rfl rfl (Ops.add rfl rfl rfl (by omega) (Ops.mi rfl rfl rfl (Ops.n (tQ ?_))))))))
    refine ⟨i + 1, by show n - (i + 1) < n - i; omega, ⟨rfl, rfl, rfl, trivial⟩, hS2, by omega, fun j hj' => ?_⟩
    by_cases e : j = i
    ·subst e; rw [List.getElem?_eq_getElem (by omega), List.getElem?_eq_getElem (by omega), h3]
    ·exact hj j (by omega)
  ·have he : xss = yss := List.ext_getElem? fun j => by
    by_cases hjn : j < n
    ·exact hj j (by omega)
    ·rw [List.getElem?_eq_none (by omega), List.getElem?_eq_none (by omega)]
   refine Cd.exit (thenQ_x (thenQ_x (blockQ_x (tQ (Cd.seq (Cd.region (Ops.mb rfl rfl rfl (Ops.n (tQ ?_)))))))))
   refine Cd.ret (ret1_b rfl ?_)
   exact ⟨by rw [decide_eq_true he], hS1⟩
end Go.Proofs.YtbhnfehcpnnjcaaGreatDoor.Vc
/-
 The law of graphs, walked. Conditions: as each states them.
-/
namespace Go.Proofs.YtbhnfehcpnnjcaaGreatDoor.Vc
open Go.RowKit

theorem DrawEndsOfEdges_c {w0 w : World} {ks : List Ck} (Ac : Option Addr) (nc cc : Nat) (bs : List Int) (hS : St w0 w ks) (hY : RdY w0 Ac nc bs) (hnc : nc ≤ 1000000) :
  Ret Tryz.prog 20 [.slice Ac nc cc] w (fun v w' => ∃ (n : Nat) (A : Option Addr) (c : Nat) (rs : List SlV) (xss : List (List Int)) (X : List Ck), v = .agg #[.slice A n c] ∧ n ≤ 6 ∧ (n ≤ c ∧ c ≤ 9223372036854775807) ∧ (∀ (w'' : World) (Y : List Ck), St w0 w'' (X ++ Y) → RowsI w'' A n rs xss) ∧ St w0 w' (X ++ ks)) := by
 refine Ret.of_cd Tryz.func20 rfl Tryz.ntmps20 rfl (postc rfl rfl) (Cd.seq (Cd.region (Ops.new1 hS rfl ?_)))
 intro A2 w1 hS1
 refine Ops.n (tQ (Cd.seq (Cd.region (Ops.ms rfl rfl rfl (Ops.call (l01FromG_c Ac nc cc bs w1 (hY.below hS1.below) hnc) rfl rfl rfl ?_)))))
 rintro _ w2 ⟨As, k0, rfl, hK0, hT⟩
 have hK0 := hK0 w0 hY
 have hS2 : St w0 w2 (k0 :: Bx 26 1 A2 [.slice none 0 0] :: ks) := hS1.call hT
 skip
 refine Ops.call (l18Draw_c 0 48 hS2 rfl hK0 (by decide)) rfl rfl rfl ?_
 rintro _ w3 ⟨n, A, c, rs, xss, X, k1, rfl, hn, hcap, hb, hK1, hX, hS3⟩
 have hS3 : St w0 w3 (X ++ (k1 :: Bx 26 1 A2 [.slice none 0 0] :: ks)) := hS3
 have hS4 : St w0 w3 (Bx 26 1 A2 [.slice none 0 0] :: (X ++ k1 :: ks)) := hS3.perm (by
  rw [show X ++ (k1 :: Bx 26 1 A2 [.slice none 0 0] :: ks) = (X ++ [k1]) ++ Bx 26 1 A2 [.slice none 0 0] :: ks by simp, show X ++ k1 :: ks = (X ++ [k1]) ++ ks by simp]
  exact List.perm_middle)
 skip
 refine Ops.st_agg 1 0 hS4 rfl rfl rfl rfl rfl rfl rfl ?_
 intro w4 hS5
 refine Ops.n (tQ (Cd.ret ?_))
 skip
 refine retc_r rfl (hS5.rd 0 rfl) ?_
 exact ⟨n, A, c, rs, xss, X, rfl, hn, hcap, hX, hS5.tail.sub (List.Sublist.append_left (List.sublist_cons_self _ _) _)⟩

theorem DrawHamiltonianCycle_c {w0 w : World} {ks : List Ck} (Ac : Option Addr) (nc cc : Nat) (bs : List Int) (hS : St w0 w ks) (hY : RdY w0 Ac nc bs) (hnc : nc ≤ 1000000) :
  Ret Tryz.prog 5 [.slice Ac nc cc] w (fun v w' => ∃ (n : Nat) (A : Option Addr) (c : Nat) (rs : List SlV) (xss : List (List Int)) (X : List Ck), v = .agg #[.slice A n c] ∧ n ≤ 6 ∧ (n ≤ c ∧ c ≤ 9223372036854775807) ∧ (∀ (w'' : World) (Y : List Ck), St w0 w'' (X ++ Y) → RowsI w'' A n rs xss) ∧ St w0 w' (X ++ ks)) := by
 refine Ret.of_cd Tryz.func5 rfl Tryz.ntmps5 rfl (postc rfl rfl) (Cd.seq (Cd.region (Ops.new1 hS rfl ?_)))
 intro A2 w1 hS1
 refine Ops.n (tQ (Cd.seq (Cd.region (Ops.ms rfl rfl rfl (Ops.call (DrawEndsOfEdges_c Ac nc cc bs hS1 hY hnc) rfl rfl rfl ?_)))))
 rintro _ w2 ⟨n, A, c, rs, xss, X, rfl, hn, hcap, hX, hS2⟩
 have hS4 : St w0 w2 (Bx 26 1 A2 [.slice none 0 0] :: (X ++ ks)) := hS2.perm List.perm_middle
 skip
 refine Ops.st_agg 1 0 hS4 rfl rfl rfl rfl rfl rfl rfl ?_
 intro w4 hS5
 refine Ops.n (tQ (Cd.ret ?_))
 skip
 refine retc_r rfl (hS5.rd 0 rfl) ?_
 exact ⟨n, A, c, rs, xss, X, rfl, hn, hcap, hX, hS5.tail⟩

theorem FnGraphs_c (Ac : Option Addr) (nc cc : Nat) (bs : List Int) (w : World) (hT : Tab w) (hY : RdY w Ac nc bs) :
  Ret Tryz.prog 3 [.slice Ac nc cc] w (fun v w' => v = .bool true ∧ St w w' []) := by
 refine Ret.of_cd Tryz.func3 rfl Tryz.ntmps3 rfl (post1 rfl) (Cd.seq (Cd.region (Ops.mb rfl rfl rfl (Ops.n (tQ (Cd.seq (Cd.seq (Cd.region (Ops.ms rfl rfl rfl ?_)))))))))
 refine Ops.call (big_c Ac nc cc w) rfl rfl rfl ?_
 rintro _ w1 ⟨rfl, hT1⟩
 refine Ops.n (tQ ?_)
 refine Cd.cond_p _ rfl (fun h1 => ?_) (fun h1 => ?_)
 ·refine Cd.seq (Cd.region (Ops.mb rfl rfl rfl (Ops.n (tQ (Cd.ret (thenQ_r (ret1_b rfl ?_)))))))
  exact ⟨rfl, hT1⟩
 ·refine Cd.skip (tQ (Cd.seq (Cd.region (Ops.ms rfl rfl rfl (Ops.call (DrawHamiltonianCycle_c Ac nc cc bs (St.refl w1) (hY.below hT1.below) (by omega)) rfl rfl rfl ?_)))))
  rintro _ w2 ⟨n, A, c, rs, xss, X, rfl, hn, hcap, hX, hS2⟩
  have hR := hX w2 [] hS2
  have hT := (hT.later hT1.below).later hS2.below
  have hW0 : St w w2 [] := (hT1.call hS2).none
  skip
  refine Ops.new1 (St.refl w2) rfl ?_
  intro A3 w3 hS3
  skip
  refine Ops.st_agg 1 0 hS3 rfl rfl rfl rfl rfl rfl rfl ?_
  intro w4 hS
  have hS : St w2 w4 [Bx 26 1 A3 [.slice A n c]] := hS
  have hR := hS.oldRows hR
  have hT := hT.later hS.below
  have hW : St w w4 [] := (hW0.call hS).none
  refine Ops.n (tQ (Cd.seq (Cd.region (Ops.ld_agg 0 (hS.rd 0 rfl) rfl rfl rfl ?_))))
  skip
  refine Ops.call (implHamiltonianCycle_c A n c rs xss w4 hR hcap.1 hcap.2) rfl rfl rfl ?_
  rintro _ w5 ⟨A4, c4, rfl, hst⟩
  have hrd := hst.rdI 0 rfl
  have hcp := (hst.cap 0 rfl).1
  dsimp only at hcp
  have hb := hst.below
  have hS := hS.later hb; have hR := hR.later hb; have hT := hT.later hb; have hW := hW.later hb
  refine Ops.mv_tup rfl rfl rfl (Ops.extract rfl rfl rfl (Ops.extract rfl rfl rfl (Ops.ms rfl rfl rfl (Ops.mi rfl rfl rfl (Ops.n (tQ (Cd.seq (Cd.seq (Cd.region ?_)))))))))
  refine Ops.ld_agg 0 (hS.rd 0 rfl) rfl rfl rfl ?_
  skip
  refine Ops.call (specHamiltonianCycle_c A n c rs xss w5 hR (by omega)) rfl rfl rfl ?_
  rintro _ w6 ⟨A6, c6, rfl, hst⟩
  have hdue := hst.rdI 0 rfl
  have hb := hst.below
  have hS := hS.later hb; have hR := hR.later hb; have hT := hT.later hb; have hW := hW.later hb; have hrd := hrd.later hb
  refine Ops.mv_tup rfl rfl rfl (Ops.extract rfl rfl rfl (Ops.extract rfl rfl rfl (Ops.ms rfl rfl rfl (Ops.mi rfl rfl rfl (Ops.n (tQ (Cd.seq (Cd.region (Ops.mi rfl rfl rfl ?_)))))))))
  refine Ops.mi rfl rfl rfl (Ops.neq rfl rfl rfl (Ops.mb rfl rfl rfl ?_))
  refine Ops.split_p 45 rfl (fun h => absurd rfl h) (fun _ => ?_) --f
  refine Ops.g rfl rfl rfl (Ops.ms rfl rfl rfl (Ops.g rfl rfl rfl (Ops.ms rfl rfl rfl (Ops.g rfl rfl rfl ?_))))
  refine Ops.call (likeInts_c A4 _ c4 (hmL xss) A6 _ c6 (hmL xss) w6 hrd hdue (by have := hm_bd xss; omega)) rfl rfl rfl ?_
  rintro _ w7 ⟨rfl, hst⟩
  have hb := hst.below
  have hS := hS.later hb; have hR := hR.later hb; have hT := hT.later hb; have hW := hW.later hb; have hrd := hrd.later hb
  refine Ops.g rfl rfl rfl ?_
  first | refine Ops.not_p rfl rfl ?_ | refine Ops.not rfl rfl ?_
  refine Ops.pick_f rfl rfl rfl (Ops.n (tQ ?_))
  refine Cd.cond_pf rfl (fun h => h rfl) ?_
  refine Cd.skip (tQ (Cd.seq (Cd.region (Ops.ld_agg 0 (hS.rd 0 rfl) rfl rfl rfl ?_))))
  skip
  refine Ops.call (implEndsOfEdges_c A n c rs xss w7 hR hcap.1 hcap.2) rfl rfl rfl ?_
  rintro _ w8 ⟨A8, c8, r8, rfl, hr8, hst⟩
  have hE := hst.rowsI rfl
  have hb := hst.below
  have hS := hS.later hb; have hR := hR.later hb; have hT := hT.later hb; have hW := hW.later hb; have hrd := hrd.later hb
  refine Ops.mv_tup rfl rfl rfl (Ops.extract rfl rfl rfl (Ops.extract rfl rfl rfl (Ops.ms rfl rfl rfl (Ops.mi rfl rfl rfl (Ops.n (tQ (Cd.seq (Cd.seq (Cd.region ?_)))))))))
  refine Ops.ld_agg 0 (hS.rd 0 rfl) rfl rfl rfl ?_
  skip
  refine Ops.call (specEndsOfEdges_c A n c rs xss w8 hR (by omega)) rfl rfl rfl ?_
  rintro _ w9 ⟨A10, c10, r10, rfl, hr10, hst⟩
  have hdueE := hst.rowsI rfl
  have hb := hst.below
  have hS := hS.later hb; have hR := hR.later hb; have hT := hT.later hb; have hW := hW.later hb; have hrd := hrd.later hb; have hE := hE.later hb
  refine Ops.mv_tup rfl rfl rfl (Ops.extract rfl rfl rfl (Ops.extract rfl rfl rfl (Ops.ms rfl rfl rfl (Ops.mi rfl rfl rfl (Ops.n (tQ (Cd.seq (Cd.region (Ops.mi rfl rfl rfl ?_)))))))))
  refine Ops.mi rfl rfl rfl (Ops.neq rfl rfl rfl (Ops.mb rfl rfl rfl ?_))
  refine Ops.split_p 64 rfl (fun h => absurd rfl h) (fun _ => ?_) --f
  refine Ops.g rfl rfl rfl (Ops.ms rfl rfl rfl (Ops.g rfl rfl rfl (Ops.ms rfl rfl rfl (Ops.g rfl rfl rfl ?_))))
  refine Ops.call (same9_c A8 _ c8 r8 (eoeL xss) A10 _ c10 r10 (eoeL xss) w9 hE hdueE (by have := (eoe_bd xss).1; omega) (fun x hx => by have := (eoe_bd xss).2 x hx; omega)) rfl rfl rfl ?_
  rintro _ w10 ⟨rfl, hst⟩
  have hb := hst.below
  have hS := hS.later hb; have hR := hR.later hb; have hT := hT.later hb; have hW := hW.later hb; have hrd := hrd.later hb; have hE := hE.later hb
  refine Ops.g rfl rfl rfl ?_
  first | refine Ops.not_p rfl rfl ?_ | refine Ops.not rfl rfl ?_
  refine Ops.pick_f rfl rfl rfl (Ops.n (tQ ?_))
  refine Cd.cond_pf rfl (fun h => h rfl) ?_
  refine Cd.skip (tQ (Cd.seq (Cd.region (Ops.ld_agg 0 (hS.rd 0 rfl) rfl rfl rfl ?_))))
  skip
  refine Ops.call (implPartsOf_c A n c rs xss w10 hR hcap.1 hcap.2) rfl rfl rfl ?_
  rintro _ w11 ⟨A12, c12, rfl, hst⟩
  have hP := hst.rdI 0 rfl
  have hb := hst.below
  have hS := hS.later hb; have hR := hR.later hb; have hT := hT.later hb; have hW := hW.later hb; have hrd := hrd.later hb; have hE := hE.later hb
  refine Ops.mv_tup rfl rfl rfl (Ops.extract rfl rfl rfl (Ops.extract rfl rfl rfl (Ops.ms rfl rfl rfl (Ops.mi rfl rfl rfl (Ops.n (tQ (Cd.seq (Cd.seq (Cd.region ?_)))))))))
  refine Ops.ld_agg 0 (hS.rd 0 rfl) rfl rfl rfl ?_
  skip
  refine Ops.call (specPartsOf_c A n c rs xss w11 hR (by omega)) rfl rfl rfl ?_
  rintro _ w12 ⟨A14, c14, rfl, hst⟩
  have hdue := hst.rdI 0 rfl
  have hb := hst.below
  have hS := hS.later hb; have hR := hR.later hb; have hT := hT.later hb; have hW := hW.later hb; have hrd := hrd.later hb; have hE := hE.later hb; have hP := hP.later hb
  refine Ops.mv_tup rfl rfl rfl (Ops.extract rfl rfl rfl (Ops.extract rfl rfl rfl (Ops.ms rfl rfl rfl (Ops.mi rfl rfl rfl (Ops.n (tQ (Cd.seq (Cd.region (Ops.mi rfl rfl rfl ?_)))))))))
  refine Ops.mi rfl rfl rfl (Ops.neq rfl rfl rfl (Ops.mb rfl rfl rfl ?_))
  refine Ops.split_p 83 rfl (fun h => absurd rfl h) (fun _ => ?_) --f
  refine Ops.g rfl rfl rfl (Ops.ms rfl rfl rfl (Ops.g rfl rfl rfl (Ops.ms rfl rfl rfl (Ops.g rfl rfl rfl ?_))))
  refine Ops.call (likeInts_c A12 _ c12 (ptL xss) A14 _ c14 (ptL xss) w12 hP hdue (by have := pt_bd xss; omega)) rfl rfl rfl ?_
  rintro _ w13 ⟨rfl, hst⟩
  have hb := hst.below
  have hS := hS.later hb; have hR := hR.later hb; have hT := hT.later hb; have hW := hW.later hb; have hrd := hrd.later hb; have hE := hE.later hb; have hP := hP.later hb
  refine Ops.g rfl rfl rfl ?_
  first | refine Ops.not_p rfl rfl ?_ | refine Ops.not rfl rfl ?_
  refine Ops.pick_f rfl rfl rfl (Ops.n (tQ ?_))
  refine Cd.cond_pf rfl (fun h => h rfl) ?_
  refine Cd.skip (tQ (Cd.seq (Cd.region (Ops.ld_agg 0 (hS.rd 0 rfl) rfl rfl rfl ?_))))
  skip
  refine Ops.call (implGirthOf_c A n c rs xss w13 hT hR hcap.1 hcap.2) rfl rfl rfl ?_
  rintro _ w14 ⟨rfl, hst⟩
  have hb := hst.below
  have hS := hS.later hb; have hR := hR.later hb; have hW := hW.later hb; have hrd := hrd.later hb; have hE := hE.later hb; have hP := hP.later hb
  refine Ops.mv_tup rfl rfl rfl (Ops.extract rfl rfl rfl (Ops.extract rfl rfl rfl (Ops.mi rfl rfl rfl (Ops.mi rfl rfl rfl (Ops.n (tQ (Cd.seq (Cd.seq (Cd.region ?_)))))))))
  refine Ops.ld_agg 0 (hS.rd 0 rfl) rfl rfl rfl ?_
  skip
  refine Ops.call (specGirthOf_c A n c rs xss w14 hR (by omega)) rfl rfl rfl ?_
  rintro _ w15 ⟨rfl, hst⟩
  have hb := hst.below
  have hS := hS.later hb; have hR := hR.later hb; have hW := hW.later hb; have hrd := hrd.later hb; have hE := hE.later hb; have hP := hP.later hb
  refine Ops.mv_tup rfl rfl rfl (Ops.extract rfl rfl rfl (Ops.extract rfl rfl rfl (Ops.mi rfl rfl rfl (Ops.mi rfl rfl rfl (Ops.n (tQ (Cd.seq (Cd.region (Ops.mi rfl rfl rfl ?_)))))))))
  refine Ops.mi rfl rfl rfl (Ops.neq rfl rfl rfl (Ops.mb rfl rfl rfl ?_))
  refine Ops.split_p 102 rfl (fun h => absurd rfl h) (fun _ => ?_) --f
  refine Ops.g rfl rfl rfl (Ops.mi rfl rfl rfl (Ops.g rfl rfl rfl (Ops.mi rfl rfl rfl (Ops.g rfl rfl rfl (Ops.neq rfl rfl rfl (Ops.pick_f rfl rfl rfl (Ops.n (tQ ?_))))))))
  refine Cd.cond_pf rfl (fun h => h rfl) ?_
  refine Cd.skip (tQ (Cd.seq (Cd.region (Ops.ld_agg 0 (hS.rd 0 rfl) rfl rfl rfl ?_))))
  skip
  refine Ops.call (implCutVertices_c A n c rs xss w15 hR hcap.1 hcap.2) rfl rfl rfl ?_
  rintro _ w16 ⟨A20, c20, rfl, hst⟩
  have hC := hst.rdI 0 rfl
  have hb := hst.below
  have hS := hS.later hb; have hR := hR.later hb; have hW := hW.later hb; have hrd := hrd.later hb; have hE := hE.later hb; have hP := hP.later hb
  refine Ops.mv_tup rfl rfl rfl (Ops.extract rfl rfl rfl (Ops.extract rfl rfl rfl (Ops.ms rfl rfl rfl (Ops.mi rfl rfl rfl (Ops.n (tQ (Cd.seq (Cd.seq (Cd.region ?_)))))))))
  refine Ops.ld_agg 0 (hS.rd 0 rfl) rfl rfl rfl ?_
  skip
  refine Ops.call (specCutVertices_c A n c rs xss w16 hR (by omega)) rfl rfl rfl ?_
  rintro _ w17 ⟨A22, c22, rfl, hst⟩
  have hdue := hst.rdI 0 rfl
  have hb := hst.below
  have hS := hS.later hb; have hR := hR.later hb; have hW := hW.later hb; have hrd := hrd.later hb; have hE := hE.later hb; have hP := hP.later hb; have hC := hC.later hb
  refine Ops.mv_tup rfl rfl rfl (Ops.extract rfl rfl rfl (Ops.extract rfl rfl rfl (Ops.ms rfl rfl rfl (Ops.mi rfl rfl rfl (Ops.n (tQ (Cd.seq (Cd.region (Ops.mi rfl rfl rfl ?_)))))))))
  refine Ops.mi rfl rfl rfl (Ops.neq rfl rfl rfl (Ops.mb rfl rfl rfl ?_))
  refine Ops.split_p 120 rfl (fun h => absurd rfl h) (fun _ => ?_) --f
  refine Ops.g rfl rfl rfl (Ops.ms rfl rfl rfl (Ops.g rfl rfl rfl (Ops.ms rfl rfl rfl (Ops.g rfl rfl rfl ?_))))
  refine Ops.call (likeInts_c A20 _ c20 (cvL xss) A22 _ c22 (cvL xss) w17 hC hdue (by have := cv_bd xss; omega)) rfl rfl rfl ?_
  rintro _ w18 ⟨rfl, hst⟩
  have hb := hst.below
  have hS := hS.later hb; have hR := hR.later hb; have hW := hW.later hb; have hrd := hrd.later hb; have hE := hE.later hb; have hP := hP.later hb
  refine Ops.g rfl rfl rfl ?_
  first | refine Ops.not_p rfl rfl ?_ | refine Ops.not rfl rfl ?_
  refine Ops.pick_f rfl rfl rfl (Ops.n (tQ ?_))
  refine Cd.cond_pf rfl (fun h => h rfl) ?_
  refine Cd.skip (tQ (Cd.seq (Cd.seq (Cd.region (Ops.mi rfl rfl rfl (Ops.neq rfl rfl rfl (Ops.n (tQ ?_))))))))
  refine Cd.cond_p _ rfl (fun h2 => ?_) (fun h2 => ?_)
  ·obtain ⟨e1, e2, e3, e4⟩ := codes_same h2
   rw [e1, e2, e3, e4]
   refine Cd.seq (Cd.region (Ops.mi rfl rfl rfl (Ops.mi rfl rfl rfl (Ops.eql rfl rfl rfl (Ops.mb rfl rfl rfl ?_)))))
   refine Ops.split_p 131 rfl (fun _ => ?_) (fun h => absurd rfl h) --t
   refine Ops.g rfl rfl rfl (Ops.mi rfl rfl rfl (Ops.g rfl rfl rfl (Ops.mi rfl rfl rfl (Ops.g rfl rfl rfl (Ops.eql rfl rfl rfl (Ops.pick_t rfl rfl rfl (Ops.mb rfl rfl rfl ?_)))))))
   refine Ops.split_p 136 rfl (fun _ => ?_) (fun h => absurd rfl h) --t
   refine Ops.g rfl rfl rfl (Ops.mi rfl rfl rfl (Ops.g rfl rfl rfl (Ops.mi rfl rfl rfl (Ops.g rfl rfl rfl (Ops.eql rfl rfl rfl (Ops.pick_t rfl rfl rfl (Ops.mb rfl rfl rfl ?_)))))))
   refine Ops.split_p 141 rfl (fun _ => ?_) (fun h => absurd rfl h) --t
   refine Ops.g rfl rfl rfl (Ops.mi rfl rfl rfl (Ops.g rfl rfl rfl (Ops.mi rfl rfl rfl (Ops.g rfl rfl rfl (Ops.eql rfl rfl rfl (Ops.pick_t rfl rfl rfl (Ops.mb rfl rfl rfl (Ops.n (tQ ?_)))))))))
   refine Cd.ret (thenQ_r (ret1_b rfl ?_))
   exact ⟨rfl, hW⟩
  ·have h2 : petrieK xss = 0 := Decidable.not_not.1 h2
   have hG : Grph xss := by
    refine Classical.byContradiction fun hn => ?_
    unfold petrieK at h2
    rw [if_neg hn] at h2
    omega
   refine Cd.skip (tQ (Cd.seq (Cd.region (Ops.ld_agg 0 (hS.rd 0 rfl) rfl rfl rfl ?_))))
   skip
   refine Ops.call (implNeighboursOf_c A n c rs xss w18 hR hcap.1 hcap.2) rfl rfl rfl ?_
   rintro _ w19 ⟨A24, c24, r24, rfl, hr24, hst⟩
   have hN := hst.rowsI rfl
   have hb := hst.below
   have hW := hW.later hb; have hrd := hrd.later hb; have hE := hE.later hb; have hP := hP.later hb
   have e1 : nboL xss = nbL xss := if_pos hG
   have e2 : eoeL xss = endsL xss := if_pos hG
   rw [e1] at hN hr24
   rw [e2] at hE hr8
   rw [e1, e2]
   have hnl := nbL_len xss
   have hel := endsL_len xss
   have hsm := nb_small hG.1
   have hEl := hE.len
   have hNl := hN.len
   refine Ops.mv_tup rfl rfl rfl (Ops.extract rfl rfl rfl (Ops.extract rfl rfl rfl (Ops.ms rfl rfl rfl (Ops.mi rfl rfl rfl (Ops.n (tQ ?_))))))
   refine Cd.join (α := Unit) (fun _ => [(4, .slice A4 (hmL xss).length c4), (5, .int .i64 (hmK xss)), (8, .slice A8 (endsL xss).length c8), (12, .slice A12 (ptL xss).length c12), (13, .int .i64 (ptK xss)), (16, .int .i64 (girV xss)), (20, .slice A20 (cvL xss).length c20), (24, .slice A24 (nbL xss).length c24)]) (fun _ w' => w' = w19) ?_ ?_
   ·refine Cd.seq (Cd.region (Ops.mi rfl rfl rfl (Ops.neq rfl rfl rfl (Ops.mb rfl rfl rfl ?_))))
    refine Ops.split_p 153 rfl (fun h => absurd h2 h) (fun _ => ?_) --f
    refine Ops.g rfl rfl rfl (Ops.mi rfl rfl rfl (Ops.g rfl rfl rfl (Ops.neq rfl rfl rfl (Ops.pick_f rfl rfl rfl (Ops.mb rfl rfl rfl ?_)))))
    refine Ops.split_p 157 rfl (fun h => absurd h2 h) (fun _ => ?_) --f
    refine Ops.g rfl rfl rfl (Ops.mi rfl rfl rfl (Ops.g rfl rfl rfl (Ops.eql rfl rfl rfl (Ops.g rfl rfl rfl (Ops.mb rfl rfl rfl ?_)))))
    refine Ops.split_p 160 rfl (fun hpt => ?_) (fun hpt => ?_)
    ·obtain ⟨_, _, e3⟩ := pt_zero hpt
     have hpl : (ptL xss).length = (nbL xss).length := by rw [e3, parts_len hG.1, hnl]
     refine Ops.g rfl rfl rfl (Ops.ms rfl rfl rfl (Ops.g rfl rfl rfl (Ops.len rfl rfl (Ops.g rfl rfl rfl (Ops.ms rfl rfl rfl (Ops.g rfl rfl rfl (Ops.len rfl rfl (Ops.g rfl rfl rfl (Ops.neq rfl rfl rfl ?_)))))))))
     refine Ops.g rfl rfl rfl (Ops.mb rfl rfl rfl ?_)
     refine Ops.split_p 166 rfl (fun h => absurd (by rw [hpl]) h) (fun _ => ?_) --f
     refine Ops.g rfl rfl rfl (Ops.mi rfl rfl rfl (Ops.g rfl rfl rfl (Ops.eql rfl rfl rfl (Ops.g rfl rfl rfl (Ops.mb rfl rfl rfl ?_)))))
     refine Ops.split_p 169 rfl (fun hgk => ?_) (fun hgk => ?_)
     ·refine Ops.g rfl rfl rfl (Ops.mi rfl rfl rfl (Ops.g rfl rfl rfl ?_))
      refine Ops.rem rfl rfl rfl ⟨gir_pos xss, by decide⟩ ?_
      refine Ops.g rfl rfl rfl (Ops.neq rfl rfl rfl (Ops.g rfl rfl rfl (Ops.pick_t rfl rfl rfl (Ops.g rfl rfl rfl (Ops.pick_f rfl rfl rfl (Ops.g rfl rfl rfl (Ops.pick_t rfl rfl rfl (Ops.pick_f rfl rfl rfl (Ops.n ?_)))))))))
      refine tQ ?_
      refine Cd.cond_pf rfl (fun h => h (gir_even hpt)) ?_
      refine Cd.skip (tQ ?_)
      exact ⟨(), ⟨rfl, rfl, rfl, rfl, rfl, rfl, rfl, rfl, trivial⟩, rfl⟩
     ·refine Ops.k rfl rfl rfl rfl rfl (Ops.k rfl rfl rfl rfl rfl (Ops.k rfl rfl rfl rfl rfl (Ops.g rfl rfl rfl (Ops.pick_f rfl rfl rfl (Ops.g rfl rfl rfl (Ops.pick_f rfl rfl rfl (Ops.g rfl rfl rfl (Ops.pick_t rfl rfl rfl (Ops.pick_f rfl rfl rfl ?_)))))))))
      refine Ops.n (tQ (Cd.cond_f rfl (Cd.skip (tQ ?_))))
      exact ⟨(), ⟨rfl, rfl, rfl, rfl, rfl, rfl, rfl, rfl, trivial⟩, rfl⟩
    ·refine Ops.k rfl rfl rfl rfl rfl (Ops.k rfl rfl rfl rfl rfl (Ops.k rfl rfl rfl rfl rfl (Ops.k rfl rfl rfl rfl rfl (Ops.k rfl rfl rfl rfl rfl (Ops.k rfl rfl rfl rfl rfl (Ops.skipu rfl rfl rfl rfl (Ops.skipu rfl rfl rfl rfl (Ops.skipu rfl rfl rfl rfl (Ops.skipu rfl rfl rfl rfl ?_)))))))))
     refine Ops.skipu rfl rfl rfl rfl (Ops.skipu rfl rfl rfl rfl (Ops.skipu rfl rfl rfl rfl (Ops.k rfl rfl rfl rfl rfl (Ops.g rfl rfl rfl (Ops.pick_f rfl rfl rfl (Ops.pick_f rfl rfl rfl (Ops.n (tQ (Cd.cond_f rfl ?_)))))))))
     refine Cd.skip (tQ ?_)
     exact ⟨(), ⟨rfl, rfl, rfl, rfl, rfl, rfl, rfl, rfl, trivial⟩, rfl⟩
   ·rintro _ e w' rfl
    refine Cd.seq (Cd.seq (Cd.region (Ops.mi rfl rfl rfl (Ops.n (tQ (Cd.block ?_))))))
    refine Cd.loop (α := Nat) (fun i => [(4, .slice A4 (hmL xss).length c4), (5, .int .i64 (hmK xss)), (8, .slice A8 (endsL xss).length c8), (12, .slice A12 (ptL xss).length c12), (13, .int .i64 (ptK xss)), (16, .int .i64 (girV xss)), (20, .slice A20 (cvL xss).length c20), (24, .slice A24 (nbL xss).length c24), (26, .int .i64 (i : Int))]) (fun i w'' => Below w'.heap.size w' w'') (fun i => (endsL xss).length - i) 0 ⟨rfl, rfl, rfl, rfl, rfl, rfl, rfl, rfl, rfl, trivial⟩ (Below.refl _ _) ?_
    rintro i e w20 hb
    have hE := hE.later hb
    have hP := hP.later hb
    refine Cd.seq (Cd.seq (Cd.region (Ops.mi rfl rfl rfl (Ops.ms rfl rfl rfl (Ops.len rfl rfl (Ops.lss rfl rfl rfl (Ops.n (tQ ?_))))))))
    refine Cd.cond_p _ rfl (fun hi => ?_) (fun hi => ?_)
    ·have hi' : i < edgesN xss := by omega
     have h1p := ends_pos hG.1 i hi'
     have h1q := ends_le2 hG i hi'
     have hrow := hE.at_ (i := (i : Int)) (by omega) (by omega)
     have hrl := hrow.1
     refine Cd.skip (tQ (Cd.seq (Cd.block ?_)))
     refine Cd.join (α := Unit) (fun _ => [(4, .slice A4 (hmL xss).length c4), (5, .int .i64 (hmK xss)), (8, .slice A8 (endsL xss).length c8), (12, .slice A12 (ptL xss).length c12), (13, .int .i64 (ptK xss)), (16, .int .i64 (girV xss)), (20, .slice A20 (cvL xss).length c20), (24, .slice A24 (nbL xss).length c24), (26, .int .i64 (i : Int))]) (fun _ w' => w' = w20) ?_ ?_
     ·refine Cd.seq (Cd.region (Ops.ms rfl rfl rfl (Ops.mi rfl rfl rfl (Ops.idx hE.top.2 rfl rfl rfl (by omega) (by omega) ?_))))
      skip
      refine Ops.ld_sl hE.top rfl (by omega) rfl rfl (Ops.len rfl rfl (Ops.lss rfl rfl rfl (Ops.mb rfl rfl rfl ?_)))
      refine Ops.split_p 189 rfl (fun h => absurd h (by omega)) (fun _ => ?_) --f
      refine Ops.g rfl rfl rfl (Ops.ms rfl rfl rfl (Ops.g rfl rfl rfl (Ops.mi rfl rfl rfl (Ops.g rfl rfl rfl (Ops.idx hE.top.2 rfl rfl rfl (by omega) (by omega) (Ops.g rfl rfl rfl (Ops.ld_sl hE.top rfl (by omega) rfl rfl (Ops.g rfl rfl rfl (Ops.len rfl rfl ?_)))))))))
      refine Ops.g rfl rfl rfl (Ops.gtr rfl rfl rfl (Ops.pick_f rfl rfl rfl (Ops.mb rfl rfl rfl ?_)))
      refine Ops.split_p 197 rfl (fun h => absurd h (by omega)) (fun _ => ?_) --f
      refine Ops.g rfl rfl rfl (Ops.ms rfl rfl rfl (Ops.g rfl rfl rfl (Ops.mi rfl rfl rfl (Ops.g rfl rfl rfl (Ops.idx hE.top.2 rfl rfl rfl (by omega) (by omega) (Ops.g rfl rfl rfl (Ops.ld_sl hE.top rfl (by omega) rfl rfl (Ops.g rfl rfl rfl (Ops.len rfl rfl ?_)))))))))
      refine Ops.g rfl rfl rfl (Ops.eql rfl rfl rfl (Ops.g rfl rfl rfl (Ops.mb rfl rfl rfl ?_)))
      refine Ops.split_p 204 rfl (fun h1 => ?_) (fun h1 => ?_)
      ·refine Ops.g rfl rfl rfl (Ops.mi rfl rfl rfl (Ops.g rfl rfl rfl (Ops.neq rfl rfl rfl (Ops.g rfl rfl rfl (Ops.pick_t rfl rfl rfl (Ops.pick_f rfl rfl rfl (Ops.n (tQ ?_))))))))
       refine Cd.cond_pf rfl (fun h => h (gir_one hG hi' (by omega))) ?_
       refine Cd.skip (tQ ?_)
       exact ⟨(), ⟨rfl, rfl, rfl, rfl, rfl, rfl, rfl, rfl, rfl, trivial⟩, rfl⟩
      ·refine Ops.k rfl rfl rfl rfl rfl (Ops.k rfl rfl rfl rfl rfl (Ops.g rfl rfl rfl (Ops.pick_f rfl rfl rfl (Ops.pick_f rfl rfl rfl (Ops.n (tQ (Cd.cond_f rfl (Cd.skip (tQ ?_)))))))))
       exact ⟨(), ⟨rfl, rfl, rfl, rfl, rfl, rfl, rfl, rfl, rfl, trivial⟩, rfl⟩
     ·rintro _ e w'' rfl
      refine Cd.seq ?_
      by_cases hpt : ptK xss = 0
      ·--dup 2
       obtain ⟨q1, q2⟩ := pt_ends hpt hi'
       obtain ⟨q3, q4⟩ := ends_rng hG.1 i q1
       obtain ⟨_, _, e3⟩ := pt_zero hpt
       have hpl : (ptL xss).length = vertsN xss := by rw [e3, parts_len hG.1]
       refine Cd.draw [.ex (.int .i64 ((ptK xss))), .ex (.bool (decide (((ptK xss)) = ((0 : Int))))), .ex (.bool (true)), .ex (.slice (A8) ((endsL xss).length) (c8)), .ex (.int .i64 ((i : Int))), .ex (.pointer (ptrAt (A8) ((i : Int)).toNat)), .ex (.slice ((rg (r8) ((i : Int))).a) ((rg (r8) ((i : Int))).n) ((rg (r8) ((i : Int))).c)), .ex (.int .i64 ((((rg (r8) ((i : Int))).n : Nat) : Int))), .ex (.bool (decide (¬ ((((rg (r8) ((i : Int))).n : Nat) : Int)) = ((2 : Int))))), .ex (.bool (false)), .ex (.slice (A12) ((ptL xss).length) (c12)), .ex (.slice (A8) ((endsL xss).length) (c8)), .ex (.int .i64 ((i : Int))), .ex (.pointer (ptrAt (A8) ((i : Int)).toNat)), .ex (.slice ((rg (r8) ((i : Int))).a) ((rg (r8) ((i : Int))).n) ((rg (r8) ((i : Int))).c)), .ex (.pointer (ptrAt ((rg (r8) ((i : Int))).a) ((0 : Int)).toNat)), .ex (.int .i64 (gi ((gl (endsL xss) (i : Int))) ((0 : Int)))), .ex (.pointer (ptrAt (A12) (gi ((gl (endsL xss) (i : Int))) ((0 : Int))).toNat)), .ex (.int .i64 (gi ((ptL xss)) (gi ((gl (endsL xss) (i : Int))) ((0 : Int))))), .ex (.slice (A12) ((ptL xss).length) (c12)), .ex (.slice (A8) ((endsL xss).length) (c8)), .ex (.int .i64 ((i : Int))), .ex (.pointer (ptrAt (A8) ((i : Int)).toNat)), .ex (.slice ((rg (r8) ((i : Int))).a) ((rg (r8) ((i : Int))).n) ((rg (r8) ((i : Int))).c)), .ex (.pointer (ptrAt ((rg (r8) ((i : Int))).a) ((1 : Int)).toNat)), .ex (.int .i64 (gi ((gl (endsL xss) (i : Int))) ((1 : Int)))), .ex (.pointer (ptrAt (A12) (gi ((gl (endsL xss) (i : Int))) ((1 : Int))).toNat)), .ex (.int .i64 (gi ((ptL xss)) (gi ((gl (endsL xss) (i : Int))) ((1 : Int))))), .ex (.bool (decide ((gi ((ptL xss)) (gi ((gl (endsL xss) (i : Int))) ((0 : Int)))) = (gi ((ptL xss)) (gi ((gl (endsL xss) (i : Int))) ((1 : Int))))))), .ex (.bool (decide ((gi ((ptL xss)) (gi ((gl (endsL xss) (i : Int))) ((0 : Int)))) = (gi ((ptL xss)) (gi ((gl (endsL xss) (i : Int))) ((1 : Int))))))), .ex (.bool (decide ((gi ((ptL xss)) (gi ((gl (endsL xss) (i : Int))) ((0 : Int)))) = (gi ((ptL xss)) (gi ((gl (endsL xss) (i : Int))) ((1 : Int)))))))] (by kernel_rfl) (by kernel_rfl) rfl (lx (lx (lx (lx (lx (lx (lx (lx (lx (lx (lx (lx (lx (lx (lx (lx (lx (lx (lx (lx (lx (lx (lx (lx (lx (lx (lx (lx (lx (lx (lx (fun _ h => by cases h)))))))))))))))))))))))))))))))) ⟨?_, ?_, ?_, ?_, ?_, ?_, ?_, ?_, ?_, ?_, ?_, ?_, ?_, ?_, ?_, ?_, ?_, ?_, ?_, ?_, ?_, ?_, ?_, ?_, ?_, ?_, ?_, ?_, ?_, ?_, ?_, trivial⟩ ?_
       ·intro e1 w1 hb hp hun
        refine Ops.mi rfl rfl rfl (Ops.n (d0 (by exact rfl)))
       ·intro e1 w1 hb hp hun
        refine Ops.eql rfl rfl rfl (Ops.n (d0 (by exact rfl)))
       ·intro e1 w1 hb hp hun
        refine Ops.mb rfl rfl rfl (Ops.n ?_)
        exact d0 (by exact congrArg Value.bool (decide_eq_true hpt))
       ·intro e1 w1 hb hp hun
        refine Ops.g rfl rfl rfl (Ops.ms rfl rfl rfl (Ops.n (d0 (by exact rfl))))
       ·intro e1 w1 hb hp hun
        refine Ops.g rfl rfl rfl (Ops.mi rfl rfl rfl (Ops.n (d0 (by exact rfl))))
       ·intro e1 w1 hb hp hun
        refine Ops.g rfl rfl rfl (Ops.idx (hE.top.later hb).2 rfl rfl rfl (by omega) (by omega) (Ops.n (d0 (by exact rfl))))
       ·intro e1 w1 hb hp hun
        refine Ops.g rfl rfl rfl (Ops.ld_sl (hE.top.later hb) rfl (by omega) rfl rfl (Ops.n (d0 (by exact rfl))))
       ·intro e1 w1 hb hp hun
        refine Ops.g rfl rfl rfl (Ops.len rfl rfl (Ops.n (d0 (by exact rfl))))
       ·intro e1 w1 hb hp hun
        refine Ops.g rfl rfl rfl (Ops.neq rfl rfl rfl (Ops.n (d0 (by exact rfl))))
       ·intro e1 w1 hb hp hun
        refine Ops.g rfl rfl rfl (Ops.mb rfl rfl rfl (Ops.n ?_))
        exact d0 (by exact congrArg Value.bool (decide_eq_false (by omega)))
       ·intro e1 w1 hb hp hun
        refine Ops.g rfl rfl rfl (Ops.ms rfl rfl rfl (Ops.n (d0 (by exact rfl))))
       ·intro e1 w1 hb hp hun
        refine Ops.g rfl rfl rfl (Ops.ms rfl rfl rfl (Ops.n (d0 (by exact rfl))))
       ·intro e1 w1 hb hp hun
        refine Ops.g rfl rfl rfl (Ops.mi rfl rfl rfl (Ops.n (d0 (by exact rfl))))
       ·intro e1 w1 hb hp hun
        refine Ops.g rfl rfl rfl (Ops.idx (hE.top.later hb).2 rfl rfl rfl (by omega) (by omega) (Ops.n (d0 (by exact rfl))))
       ·intro e1 w1 hb hp hun
        refine Ops.g rfl rfl rfl (Ops.ld_sl (hE.top.later hb) rfl (by omega) rfl rfl (Ops.n (d0 (by exact rfl))))
       ·intro e1 w1 hb hp hun
        refine Ops.g rfl rfl rfl (Ops.idx (hrow.later hb).2 rfl rfl rfl (by omega) (by omega) (Ops.n (d0 (by exact rfl))))
       ·intro e1 w1 hb hp hun
        refine Ops.g rfl rfl rfl (Ops.ld_int (hrow.later hb) rfl (by omega) rfl rfl (Ops.n (d0 (by exact rfl))))
       ·intro e1 w1 hb hp hun
        refine Ops.g rfl rfl rfl (Ops.idx (hP.later hb).2 rfl rfl rfl (by omega) (by omega) (Ops.n (d0 (by exact rfl))))
       ·intro e1 w1 hb hp hun
        refine Ops.g rfl rfl rfl (Ops.ld_int (hP.later hb) rfl (by omega) rfl rfl (Ops.n (d0 (by exact rfl))))
       ·intro e1 w1 hb hp hun
        refine Ops.g rfl rfl rfl (Ops.ms rfl rfl rfl (Ops.n (d0 (by exact rfl))))
       ·intro e1 w1 hb hp hun
        refine Ops.g rfl rfl rfl (Ops.ms rfl rfl rfl (Ops.n (d0 (by exact rfl))))
       ·intro e1 w1 hb hp hun
        refine Ops.g rfl rfl rfl (Ops.mi rfl rfl rfl (Ops.n (d0 (by exact rfl))))
       ·intro e1 w1 hb hp hun
        refine Ops.g rfl rfl rfl (Ops.idx (hE.top.later hb).2 rfl rfl rfl (by omega) (by omega) (Ops.n (d0 (by exact rfl))))
       ·intro e1 w1 hb hp hun
        refine Ops.g rfl rfl rfl (Ops.ld_sl (hE.top.later hb) rfl (by omega) rfl rfl (Ops.n (d0 (by exact rfl))))
       ·intro e1 w1 hb hp hun
        refine Ops.g rfl rfl rfl (Ops.idx (hrow.later hb).2 rfl rfl rfl (by omega) (by omega) (Ops.n (d0 (by exact rfl))))
       ·intro e1 w1 hb hp hun
        refine Ops.g rfl rfl rfl (Ops.ld_int (hrow.later hb) rfl (by omega) rfl rfl (Ops.n (d0 (by exact rfl))))
       ·intro e1 w1 hb hp hun
        refine Ops.g rfl rfl rfl (Ops.idx (hP.later hb).2 rfl rfl rfl (by omega) (by omega) (Ops.n (d0 (by exact rfl))))
       ·intro e1 w1 hb hp hun
        refine Ops.g rfl rfl rfl (Ops.ld_int (hP.later hb) rfl (by omega) rfl rfl (Ops.n (d0 (by exact rfl))))
       ·intro e1 w1 hb hp hun
        refine Ops.g rfl rfl rfl (Ops.eql rfl rfl rfl (Ops.n (d0 (by exact rfl))))
       ·intro e1 w1 hb hp hun
        refine Ops.g rfl rfl rfl (Ops.pick_f rfl rfl rfl (Ops.n (d0 (by exact rfl))))
       ·intro e1 w1 hb hp hun
        refine Ops.pick_t rfl rfl rfl (Ops.n (d0 (by exact rfl)))
       intro uu w21 hb21 _
       refine tQ ?_
       refine Cd.cond_pf rfl (fun h => q2 h) ?_
       refine Cd.skip (blockQ_n (tQ (Cd.region (Ops.mi rfl rfl rfl (Ops.add rfl rfl rfl (by omega) (Ops.mi rfl rfl rfl (Ops.n (tQ ?_))))))))
       exact ⟨i + 1, by show (endsL xss).length - (i + 1) < (endsL xss).length - i; omega, ⟨rfl, rfl, rfl, rfl, rfl, rfl, rfl, rfl, rfl, trivial⟩, hb.trans (hb21.mono hb.size)⟩
      ·refine Cd.draw [.ex (.int .i64 ((ptK xss))), .ex (.bool (decide (((ptK xss)) = ((0 : Int))))), .ex (.bool (false)), .ex (undef), .ex (undef), .ex (undef), .ex (undef), .ex (undef), .ex (undef), .ex (undef), .ex (undef), .ex (undef), .ex (undef), .ex (undef), .ex (undef), .ex (undef), .ex (undef), .ex (undef), .ex (undef), .ex (undef), .ex (undef), .ex (undef), .ex (undef), .ex (undef), .ex (undef), .ex (undef), .ex (undef), .ex (undef), .ex (undef), .ex (undef), .ex (.bool (false))] (by kernel_rfl) (by kernel_rfl) rfl (lx (lx (lx (lx (lx (lx (lx (lx (lx (lx (lx (lx (lx (lx (lx (lx (lx (lx (lx (lx (lx (lx (lx (lx (lx (lx (lx (lx (lx (lx (lx (fun _ h => by cases h)))))))))))))))))))))))))))))))) ⟨?_, ?_, ?_, ?_, ?_, ?_, ?_, ?_, ?_, ?_, ?_, ?_, ?_, ?_, ?_, ?_, ?_, ?_, ?_, ?_, ?_, ?_, ?_, ?_, ?_, ?_, ?_, ?_, ?_, ?_, ?_, trivial⟩ ?_
       ·intro e1 w1 hb hp hun
        refine Ops.mi rfl rfl rfl (Ops.n (d0 (by exact rfl)))
       ·intro e1 w1 hb hp hun
        refine Ops.eql rfl rfl rfl (Ops.n (d0 (by exact rfl)))
       ·intro e1 w1 hb hp hun
        refine Ops.mb rfl rfl rfl (Ops.n ?_)
        exact d0 (by exact congrArg Value.bool (decide_eq_false hpt))
       ·intro e1 w1 hb hp hun
        refine Ops.k rfl rfl rfl rfl rfl (Ops.n (d0 (by exact rfl)))
       ·intro e1 w1 hb hp hun
        refine Ops.k rfl rfl rfl rfl rfl (Ops.n (d0 (by exact rfl)))
       ·intro e1 w1 hb hp hun
        refine Ops.k rfl rfl rfl rfl rfl (Ops.n (d0 (by exact rfl)))
       ·intro e1 w1 hb hp hun
        refine Ops.k rfl rfl rfl rfl rfl (Ops.n (d0 (by exact rfl)))
       ·intro e1 w1 hb hp hun
        refine Ops.k rfl rfl rfl rfl rfl (Ops.n (d0 (by exact rfl)))
       ·intro e1 w1 hb hp hun
        refine Ops.k rfl rfl rfl rfl rfl (Ops.n (d0 (by exact rfl)))
       ·intro e1 w1 hb hp hun
        refine Ops.k rfl rfl rfl rfl rfl (Ops.n (d0 (by exact rfl)))
       ·intro e1 w1 hb hp hun
        refine Ops.skipu rfl rfl rfl rfl (Ops.n (d0 (by exact rfl)))
       ·intro e1 w1 hb hp hun
        refine Ops.skipu rfl rfl rfl rfl (Ops.n (d0 (by exact rfl)))
       ·intro e1 w1 hb hp hun
        refine Ops.skipu rfl rfl rfl rfl (Ops.n (d0 (by exact rfl)))
       ·intro e1 w1 hb hp hun
        refine Ops.skipu rfl rfl rfl rfl (Ops.n (d0 (by exact rfl)))
       ·intro e1 w1 hb hp hun
        refine Ops.skipu rfl rfl rfl rfl (Ops.n (d0 (by exact rfl)))
       ·intro e1 w1 hb hp hun
        refine Ops.skipu rfl rfl rfl rfl (Ops.n (d0 (by exact rfl)))
       ·intro e1 w1 hb hp hun
        refine Ops.skipu rfl rfl rfl rfl (Ops.n (d0 (by exact rfl)))
       ·intro e1 w1 hb hp hun
        refine Ops.skipu rfl rfl rfl rfl (Ops.n (d0 (by exact rfl)))
       ·intro e1 w1 hb hp hun
        refine Ops.skipu rfl rfl rfl rfl (Ops.n (d0 (by exact rfl)))
       ·intro e1 w1 hb hp hun
        refine Ops.skipu rfl rfl rfl rfl (Ops.n (d0 (by exact rfl)))
       ·intro e1 w1 hb hp hun
        refine Ops.skipu rfl rfl rfl rfl (Ops.n (d0 (by exact rfl)))
       ·intro e1 w1 hb hp hun
        refine Ops.skipu rfl rfl rfl rfl (Ops.n (d0 (by exact rfl)))
       ·intro e1 w1 hb hp hun
        refine Ops.skipu rfl rfl rfl rfl (Ops.n (d0 (by exact rfl)))
       ·intro e1 w1 hb hp hun
        refine Ops.skipu rfl rfl rfl rfl (Ops.n (d0 (by exact rfl)))
       ·intro e1 w1 hb hp hun
        refine Ops.skipu rfl rfl rfl rfl (Ops.n (d0 (by exact rfl)))
       ·intro e1 w1 hb hp hun
        refine Ops.skipu rfl rfl rfl rfl (Ops.n (d0 (by exact rfl)))
       ·intro e1 w1 hb hp hun
        refine Ops.skipu rfl rfl rfl rfl (Ops.n (d0 (by exact rfl)))
       ·intro e1 w1 hb hp hun
        refine Ops.skipu rfl rfl rfl rfl (Ops.n (d0 (by exact rfl)))
       ·intro e1 w1 hb hp hun
        refine Ops.skipu rfl rfl rfl rfl (Ops.n (d0 (by exact rfl)))
       ·intro e1 w1 hb hp hun
        refine Ops.k rfl rfl rfl rfl rfl (Ops.n (d0 (by exact rfl)))
       ·intro e1 w1 hb hp hun
        refine Ops.pick_f rfl rfl rfl (Ops.n (d0 (by exact rfl)))
       intro uu w21 hb21 _
       refine tQ (Cd.cond_f rfl (Cd.skip (blockQ_n (tQ (Cd.region (Ops.mi rfl rfl rfl (Ops.add rfl rfl rfl (by omega) (Ops.mi rfl rfl rfl (Ops.n ?_)))))))))
       refine tQ ?_
       exact ⟨i + 1, by show (endsL xss).length - (i + 1) < (endsL xss).length - i; omega, ⟨rfl, rfl, rfl, rfl, rfl, rfl, rfl, rfl, rfl, trivial⟩, hb.trans (hb21.mono hb.size)⟩
    ·have hW := hW.later hb
     have hrd := hrd.later hb
     have hN := hN.later hb
     refine Cd.exit (thenQ_x (thenQ_x (blockQ_x (tQ (Cd.seq (Cd.seq (Cd.region (Ops.mi rfl rfl rfl (Ops.neq rfl rfl rfl ?_)))))))))
     refine Ops.n (tQ ?_)
     refine Cd.cond_p _ rfl (fun hk => ?_) (fun hk => ?_)
     ·refine Cd.seq (Cd.region (Ops.ms rfl rfl rfl (Ops.len rfl rfl (Ops.eql rfl rfl rfl (Ops.mb rfl rfl rfl (Ops.n (tQ (Cd.ret (thenQ_r ?_)))))))))
      refine ret1_b rfl ?_
      exact ⟨congrArg Value.bool (by rw [hm_nil hk]; rfl), hW⟩
     ·have hk : hmK xss = 0 := Decidable.not_not.1 hk
      obtain ⟨_, f1, f2, f3, f4⟩ := ham_law hk
      rw [← f1] at f2 f3
      have f5 := f2.len
      have f6 := f2.more
      have f7 : (cvL xss).length = 0 := by rw [f4]; rfl
      refine Cd.skip (tQ (Cd.seq (Cd.seq (Cd.region (Ops.ms rfl rfl rfl (Ops.len rfl rfl (Ops.ms rfl rfl rfl (Ops.len rfl rfl (Ops.neq rfl rfl rfl ?_)))))))))
      refine Ops.mb rfl rfl rfl ?_
      refine Ops.split_p 250 rfl (fun h => absurd (by omega) h) (fun _ => ?_) --f
      refine Ops.g rfl rfl rfl (Ops.ms rfl rfl rfl (Ops.g rfl rfl rfl (Ops.len rfl rfl (Ops.g rfl rfl rfl (Ops.neq rfl rfl rfl (Ops.pick_f rfl rfl rfl (Ops.mb rfl rfl rfl ?_)))))))
      refine Ops.split_p 255 rfl (fun h => absurd (by omega) h) (fun _ => ?_) --f
      refine Ops.g rfl rfl rfl (Ops.ms rfl rfl rfl (Ops.g rfl rfl rfl (Ops.len rfl rfl (Ops.g rfl rfl rfl (Ops.lss rfl rfl rfl (Ops.pick_f rfl rfl rfl (Ops.n (tQ ?_))))))))
      refine Cd.cond_pf rfl (fun h => absurd h (by omega)) ?_
      refine Cd.skip (tQ (Cd.seq (Cd.seq (Cd.region (Ops.mi rfl rfl rfl (Ops.n (tQ (Cd.block ?_))))))))
      refine Cd.loop (α := Nat) (fun i => [(4, .slice A4 (hmL xss).length c4), (24, .slice A24 (nbL xss).length c24), (27, .int .i64 (i : Int))]) (fun i w'' => Below w20.heap.size w20 w'') (fun i => (hmL xss).length - i) 0 ⟨rfl, rfl, rfl, trivial⟩ (Below.refl _ _) ?_
      rintro i e w21 hb2
      have hrd := hrd.later hb2
      have hN := hN.later hb2
      refine Cd.seq (Cd.seq (Cd.region (Ops.mi rfl rfl rfl (Ops.ms rfl rfl rfl (Ops.len rfl rfl (Ops.lss rfl rfl rfl (Ops.n (tQ ?_))))))))
      refine Cd.cond_p _ rfl (fun hi => ?_) (fun hi => ?_)
      ·have hi' : i < (hmL xss).length := by omega
       have g1 := ham_adj f2 hi'
       have g2 := ham_new f2 hi'
       have g3 := f3 _ (gi_in (out := hmL xss) (i := i) hi')
       have g6 : (gl (nbL xss) (gi (hmL xss) (i : Int))).length ≤ 1000 := (nbo_bd xss).2 _ (by rw [e1]; exact gl_in g3.1 (by omega))
       have g4 : (0 : Int) ≤ ((i : Int) + 1) % ((hmL xss).length : Int) := Int.emod_nonneg _ (by omega)
       have g5 : ((i : Int) + 1) % ((hmL xss).length : Int) < ((hmL xss).length : Int) := Int.emod_lt_of_pos _ (by omega)
       refine Cd.skip (tQ (Cd.seq (Cd.block (Cd.seq ?_))))
       refine Cd.draw [.ex (.slice (A24) ((nbL xss).length) (c24)), .ex (.slice (A4) ((hmL xss).length) (c4)), .ex (.int .i64 ((i : Int))), .ex (.pointer (ptrAt (A4) ((i : Int)).toNat)), .ex (.int .i64 (gi ((hmL xss)) ((i : Int)))), .ex (.pointer (ptrAt (A24) (gi ((hmL xss)) ((i : Int))).toNat)), .ex (.slice ((rg (r24) (gi ((hmL xss)) ((i : Int)))).a) ((rg (r24) (gi ((hmL xss)) ((i : Int)))).n) ((rg (r24) (gi ((hmL xss)) ((i : Int)))).c)), .ex (.slice (A4) ((hmL xss).length) (c4)), .ex (.int .i64 ((i : Int))), .ex (.int .i64 (((i : Int)) + ((1 : Int)))), .ex (.slice (A4) ((hmL xss).length) (c4)), .ex (.int .i64 ((((hmL xss).length : Nat) : Int))), .ex (.int .i64 (((i : Int) + 1) % ((hmL xss).length : Int))), .ex (.pointer (ptrAt (A4) (((i : Int) + 1) % ((hmL xss).length : Int)).toNat)), .ex (.int .i64 (gi ((hmL xss)) (((i : Int) + 1) % ((hmL xss).length : Int)))), .ex (.bool (decide (gi (hmL xss) (((i : Int) + 1) % ((hmL xss).length : Int)) ∈ gl (nbL xss) (gi (hmL xss) (i : Int))))), .ex (.bool (decide (¬ (gi (hmL xss) (((i : Int) + 1) % ((hmL xss).length : Int)) ∈ gl (nbL xss) (gi (hmL xss) (i : Int)))))), .ex (.bool (false)), .ex (.slice (A4) ((hmL xss).length) (c4)), .ex (.int .i64 ((i : Int))), .ex (.slice A4 i c4), .ex (.slice (A4) ((hmL xss).length) (c4)), .ex (.int .i64 ((i : Int))), .ex (.pointer (ptrAt (A4) ((i : Int)).toNat)), .ex (.int .i64 (gi ((hmL xss)) ((i : Int)))), .ex (.bool (decide (gi (hmL xss) (i : Int) ∈ (hmL xss).take i))), .ex (.bool (decide (gi (hmL xss) (i : Int) ∈ (hmL xss).take i)))] (by kernel_rfl) (by kernel_rfl) rfl (lx (lx (lx (lx (lx (lx (lx (lx (lx (lx (lx (lx (lx (lx (lx (lx (lx (lx (lx (lx (lx (lx (lx (lx (lx (lx (lx (fun _ h => by cases h)))))))))))))))))))))))))))) ⟨?_, ?_, ?_, ?_, ?_, ?_, ?_, ?_, ?_, ?_, ?_, ?_, ?_, ?_, ?_, ?_, ?_, ?_, ?_, ?_, ?_, ?_, ?_, ?_, ?_, ?_, ?_, trivial⟩ ?_
       ·intro e1 w1 hb hp hun
        refine Ops.ms rfl rfl rfl (Ops.n (d0 (by exact rfl)))
       ·intro e1 w1 hb hp hun
        refine Ops.ms rfl rfl rfl (Ops.n (d0 (by exact rfl)))
       ·intro e1 w1 hb hp hun
        refine Ops.mi rfl rfl rfl (Ops.n (d0 (by exact rfl)))
       ·intro e1 w1 hb hp hun
        refine Ops.idx (hrd.later hb).2 rfl rfl rfl (by omega) (by omega) (Ops.n (d0 (by exact rfl)))
       ·intro e1 w1 hb hp hun
        refine Ops.ld_int (hrd.later hb) rfl (by omega) rfl rfl (Ops.n (d0 (by exact rfl)))
       ·intro e1 w1 hb hp hun
        refine Ops.idx (hN.top.later hb).2 rfl rfl rfl (by omega) (by omega) (Ops.n (d0 (by exact rfl)))
       ·intro e1 w1 hb hp hun
        refine Ops.ld_sl (hN.top.later hb) rfl (by omega) rfl rfl (Ops.n (d0 (by exact rfl)))
       ·intro e1 w1 hb hp hun
        refine Ops.ms rfl rfl rfl (Ops.n (d0 (by exact rfl)))
       ·intro e1 w1 hb hp hun
        refine Ops.mi rfl rfl rfl (Ops.n (d0 (by exact rfl)))
       ·intro e1 w1 hb hp hun
        refine Ops.add rfl rfl rfl (by omega) (Ops.n (d0 (by exact rfl)))
       ·intro e1 w1 hb hp hun
        refine Ops.ms rfl rfl rfl (Ops.n (d0 (by exact rfl)))
       ·intro e1 w1 hb hp hun
        refine Ops.len rfl rfl (Ops.n (d0 (by exact rfl)))
       ·intro e1 w1 hb hp hun
        refine Ops.rem rfl rfl rfl (by omega) (Ops.n (d0 (by exact rfl)))
       ·intro e1 w1 hb hp hun
        refine Ops.idx (hrd.later hb).2 rfl rfl rfl (by omega) (by omega) (Ops.n (d0 (by exact rfl)))
       ·intro e1 w1 hb hp hun
        refine Ops.ld_int (hrd.later hb) rfl (by omega) rfl rfl (Ops.n (d0 (by exact rfl)))
       ·intro e1 w1 hb hp hun
        refine Ops.call (hasInt_c _ _ _ _ _ _ ((hN.later hb).at_ g3.1 (by omega)) (by have := ((hN.later hb).at_ g3.1 (by omega)).1; omega)) rfl rfl rfl ?_
        rintro _ w2 ⟨rfl, hst⟩
        refine Ops.n ?_
        exact After.dn hst.below (by exact rfl)
       ·intro e1 w1 hb hp hun
        refine Ops.not_p rfl rfl (Ops.n (d0 (by exact rfl)))
       ·intro e1 w1 hb hp hun
        refine Ops.mb rfl rfl rfl (Ops.n ?_)
        exact d0 (by exact congrArg Value.bool (decide_eq_false (fun h => h g1)))
       ·intro e1 w1 hb hp hun
        refine Ops.g rfl rfl rfl (Ops.ms rfl rfl rfl (Ops.n (d0 (by exact rfl))))
       ·intro e1 w1 hb hp hun
        refine Ops.g rfl rfl rfl (Ops.mi rfl rfl rfl (Ops.n (d0 (by exact rfl))))
       ·intro e1 w1 hb hp hun
        refine Ops.g rfl rfl rfl (Ops.cut_h rfl rfl rfl (by omega) (Ops.n (d0 (by exact rfl))))
       ·intro e1 w1 hb hp hun
        refine Ops.g rfl rfl rfl (Ops.ms rfl rfl rfl (Ops.n (d0 (by exact rfl))))
       ·intro e1 w1 hb hp hun
        refine Ops.g rfl rfl rfl (Ops.mi rfl rfl rfl (Ops.n (d0 (by exact rfl))))
       ·intro e1 w1 hb hp hun
        refine Ops.g rfl rfl rfl (Ops.idx (hrd.later hb).2 rfl rfl rfl (by omega) (by omega) (Ops.n (d0 (by exact rfl))))
       ·intro e1 w1 hb hp hun
        refine Ops.g rfl rfl rfl (Ops.ld_int (hrd.later hb) rfl (by omega) rfl rfl (Ops.n (d0 (by exact rfl))))
       ·intro e1 w1 hb hp hun
        refine Ops.g rfl rfl rfl (Ops.call (hasInt_c _ _ _ _ _ _ ((hrd.later hb).take (by omega)) (by omega)) rfl rfl rfl ?_)
        rintro _ w2 ⟨rfl, hst⟩
        refine Ops.n ?_
        exact After.dn hst.below (by exact rfl)
       ·intro e1 w1 hb hp hun
        refine Ops.pick_f rfl rfl rfl (Ops.n (d0 (by exact rfl)))
       intro uu w22 hb22 _
       refine tQ ?_
       refine Cd.cond_pf rfl (fun h => absurd h g2) ?_
       refine Cd.skip (blockQ_n (tQ (Cd.region (Ops.mi rfl rfl rfl (Ops.add rfl rfl rfl (by omega) (Ops.mi rfl rfl rfl (Ops.n (tQ ?_))))))))
       exact ⟨i + 1, by show (hmL xss).length - (i + 1) < (hmL xss).length - i; omega, ⟨rfl, rfl, rfl, trivial⟩, hb2.trans (hb22.mono hb2.size)⟩
      ·refine Cd.exit (thenQ_x (thenQ_x (blockQ_x (tQ (Cd.seq (Cd.region (Ops.mb rfl rfl rfl (Ops.n (tQ ?_)))))))))
       refine Cd.ret (ret1_b rfl ?_)
       exact ⟨rfl, hW.later hb2⟩
end Go.Proofs.YtbhnfehcpnnjcaaGreatDoor.Vc
/-
 A statement's frame: the arguments opened, and what a walk gives told in the statement's own words. Conditions: as each states them.
-/
namespace Go.Proofs.YtbhnfehcpnnjcaaGreatDoor.Vc
open Go.RowKit Go.ChangeShapes Go.WideShapes

theorem laid : laidOutB Tryz.prog = true := by kernel_rfl
theorem own : ownKnob Tryz.prog.godebug = none := by kernel_rfl

section
variable {H : Type} {enc : TypeId × Value → H} {P : Program}
theorem trodAll_stays (hl : laidOutB P = true) {W W' : World} (hb : Below W.heap.size W W') {sp : Nat → Bool} : ∀ {ts : List TypeId} {vs : List Value} {ds : List (DataW H)} {ps : List MemPlace}, (ts.all fun t => P.readableRec t && Nat.blt t P.types.size) = true → (∀ p ∈ ps, p.block < W.heap.size) → (∀ p ∈ ps, sp p.block = true) →
  DataW.TrodAll enc P W 0 (fun _ => true) true ts vs ds ps → DataW.TrodAll enc P W' 0 sp true ts vs ds ps
 | [], [], [], _, _, _, _, h => h
 | t :: ts, v :: vs, d :: ds, ps, hr, hlt, hsp, h => by
  obtain ⟨p, q, h1, h2, rfl⟩ := h
  simp only [List.all_cons, Bool.and_eq_true] at hr
  exact ⟨p, q, WideElems.Trod_stays hl hr.1.1 (by simpa [Nat.blt_eq] using hr.1.2) h1 (fun x hx => hb.same (hlt x (by simp [hx]))) (fun x hx => hsp x (by simp [hx])), trodAll_stays hl hb hr.2 (fun x hx => hlt x (by simp [hx])) (fun x hx => hsp x (by simp [hx])) h2, rfl⟩
 | [], [], _ :: _, _, _, _, _, h => h.elim
 | [], _ :: _, _, _, _, _, _, h => by cases h
 | _ :: _, [], _, _, _, _, _, h => by cases h
 | _ :: _, _ :: _, [], _, _, _, _, h => by cases h

/-- what a law's walk gives, in its statement's words: it returns true, and its arguments read as they did -/
theorem post_law {f : Func} {s : ChangeSpec} {apart : Bool} {W W' : World} {args : Array Value} {ds gs : List (DataW H)} {before : List MemPlace} (hl : laidOutB P = true) {b : TypeId} (hu : P.underlying b = some .bool) (hres : f.resultTypes = #[b]) (hv : s.vars = [])
    (hr : (f.params.toList.all fun t => P.readableRec t && Nat.blt t P.types.size) = true) (hfn : (s.fn H (ds ++ gs)).results = [.lit (.bool true)] ∧ (s.fn H (ds ++ gs)).args = ds ∧ (s.fn H (ds ++ gs)).vars = [])
    (hW : DataW.Whole enc P f.params.toList s.vars apart W args.toList ds gs before) (hb : Below W.heap.size W W') : s.post enc P f apart true false false W args (.bool true) W' := by
  have hlt : ∀ x ∈ before, x.block < W.heap.size := fun x hx => hW.lt x hx
  have hW0 := hW
  obtain ⟨p, q, hA, hV, rfl, hz, hn⟩ := hW
  rw [hv] at hV
  obtain ⟨rfl, rfl⟩ := trodVars_none hV
  have hlp : ∀ x ∈ p, x.block < W.heap.size := fun x hx => hlt x (by simp [hx])
  have hA' : ∀ sp : Nat → Bool, (∀ x ∈ p, sp x.block = true) → DataW.TrodAll enc P W' 0 sp true f.params.toList args.toList (s.fn H (ds ++ [])).args p := fun sp hsp => by
    rw [hfn.2.1]
    exact trodAll_stays hl hb hr hlp hsp hA
  have hR' : ∀ (b0 : Nat) (sp : Nat → Bool) (hd : Bool), DataW.TrodAll enc P W' b0 sp hd f.resultTypes.toList ((Value.bool true).resultList f.resultTypes.size) (s.fn H (ds ++ [])).results [] := fun b0 sp hd => by
    rw [hfn.1, hres]
    exact trodAll_cons_mk (shut_bool hu _) trodAll_mk0
  have hV' : ∀ sp : Nat → Bool, DataW.TrodVars enc P W' sp s.vars (s.fn H (ds ++ [])).vars [] := fun sp => by
    rw [hfn.2.2, hv]; rfl
  refine ⟨ds, [], p ++ [], [], p, [], hW0, hR' _ _ _, hA' _ (fun x hx => by simpa using hlp x hx), hV' _, World.keptBut_mono (fun x hx => ⟨hx, by simpa using hx⟩) (hb.frame (· ∈ p ++ [])), fun _ => ⟨fun j t r h1 h2 => ?_, _, _, ([] ++ p) ++ [], ⟨[] ++ p, [], trodAll_append (hA' _ fun _ _ => rfl) (hR' _ _ _), hV' _, rfl, fun c off hc => ?_, fun ha => by simpa using hn ha⟩, fun x hx _ => by simpa using hx⟩⟩
  · rw [hres] at h1 h2
    cases j with
    | zero =>
      simp at h1
      subst h1
      simp [Value.resultList] at h2
      subst h2
      exact okWide_bool_mk hu _
    | succ j => simp at h1
  · have hin : MemPlace.cell c off ∈ p ++ [] := by simpa using hc
    rw [hb.frozen (hlt _ hin)]
    exact hz c off hin
end
end Go.Proofs.YtbhnfehcpnnjcaaGreatDoor.Vc
/-
 Arguments opened: a struct of one matrix, a list of integers. Conditions: as each states them.
-/
namespace Go.Proofs.YtbhnfehcpnnjcaaGreatDoor.Vc
open Go.RowKit Go.ChangeShapes Go.WideShapes

section
variable {H : Type} {enc : TypeId × Value → H} {P : Program}
end
end Go.Proofs.YtbhnfehcpnnjcaaGreatDoor.Vc
/-
 An argument that is a list of bytes, opened. Conditions: as stated.
-/
namespace Go.Proofs.YtbhnfehcpnnjcaaGreatDoor.Vc
open Go.RowKit Go.ChangeShapes Go.WideShapes
section
variable {H : Type} {enc : TypeId × Value → H} {P : Program}
theorem open_ybs {w : World} {r : Go.Reach} {b0 : Nat} {t e : TypeId} {v : Value} {d : DataW H} {p : List MemPlace} (ht : P.underlying t = some (.slice e)) (he : P.underlying e = some (.int .u8)) (ce : P.cellsOf e = 1)
    (hval : Value.okWide P w r b0 t v) (h : DataW.Trod enc P w 0 (fun _ => true) true t v d p) : ∃ A n c bs, v = .slice A n c ∧ RdY w A n bs ∧ n ≤ c ∧ c ≤ 9223372036854775807 := by
  obtain ⟨a, len, cap, rfl⟩ := okWide_slice ht hval
  obtain ⟨fuel, hf⟩ := h
  have hcs : (Value.slice a len cap).cells.toList = [Value.slice a len cap] := rfl
  rw [hcs] at hf
  rcases open_ints ht he ce hf with ⟨h1, _⟩ | ⟨b, n, c, zs, h1, _, hl, hm, hz, _, hc, hwz⟩
  · simp only [List.cons.injEq, and_true] at h1
    exact ⟨none, 0, 0, [], h1, ⟨rfl, fun x hx => (nomatch hx), fun k hk => absurd hk (Nat.not_lt_zero _)⟩, Nat.le_refl _, by omega⟩
  · simp only [List.cons.injEq, and_true] at h1
    rw [if_pos rfl] at hz
    refine ⟨some b, n, c, zs.take n, h1, ⟨?_, fun x hx => ?_, fun k hk => ?_⟩, hl, by simpa [maxLen] using hm⟩
    · simp; omega
    · have := hwz x (List.mem_of_mem_take hx)
      simpa [Lit.wf, IntKind.min, IntKind.max, IntKind.signed, IntKind.bits] using this
    · refine ⟨b.add k, rfl, ?_⟩
      rw [hc k (by omega)]
      simp [List.getD_eq_getElem?_getD, List.getElem?_take, hk]
end
end Go.Proofs.YtbhnfehcpnnjcaaGreatDoor.Vc
