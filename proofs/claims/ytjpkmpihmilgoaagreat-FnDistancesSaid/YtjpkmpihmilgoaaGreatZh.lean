/-
  The texts De, Df, F3, F4, L02, Lst, F5, K1, Dg, Dh, G6, G7, G8, G9 in one. Conditions: as each part states them.
-/
import Derived.Test.YtjpkmpihmilgoaaGreatZg
import Derived.Test.YtjpkmpihmilgoaaGreatZd
import Derived.Test.YtjpkmpihmilgoaaGreatZc
import Derived.Test.YtjpkmpihmilgoaaGreatZb
/-
 The draws of maniplexes, walked: any maniplex. Conditions: as each states them.
-/
namespace Go.Proofs.YtjpkmpihmilgoaaGreat.Vc
open Go.RowKit

theorem two_eq {a b a' b' : Value} (h : a = a') (h' : b = b') : [a, b] = [a', b'] := by rw [h, h']

theorem postQ_ext {Q : Post} {e : Env} {w : World} {F : List (Nat × Value)} (hM : Mt e F) (h : Q .normal (ext e F) w) : Q .normal e w := by rwa [ext_of_mt hM] at h

theorem srcNextX_c {w0 w : World} {ks : List Ck} (X : List Ck) (ix : Nat) {As : Option Addr} {k : Ck} (n : Int) (hS : St w0 w (X ++ ks)) (hk : ks[ix]? = some k) (hK : srcK w0 As k) :
  Ret Tryz.prog 65 [.pointer As, .int .i64 n] w (fun v w' => ∃ (r : Int) (k' : Ck), v = .int .i64 r ∧ (0 ≤ r ∧ (1 ≤ n → r < n) ∧ (n < 1 → r = 0)) ∧ srcK w0 As k' ∧ St w0 w' (X ++ ks.set ix k')) := by
 have e : (X ++ ks)[X.length + ix]? = some k := by
  rw [List.getElem?_append_right (by omega), Nat.add_sub_cancel_left]; exact hk
 have h := srcNext_c (X.length + ix) n hS e hK
 refine h.mono ?_
 rintro v w' ⟨r, k', h1, h2, h3, h4⟩
 rw [show (X ++ ks).set (X.length + ix) k' = X ++ ks.set ix k' from by rw [List.set_append, if_neg (by omega), Nat.add_sub_cancel_left]] at h4
 exact ⟨r, k', h1, h2, h3, h4⟩

/-- an answer: a drawn maniplex in memory of its own; the source stays one -/
def AnsD (w0 : World) (ks : List Ck) (ix : Nat) (As : Option Addr) (v : Value) (w' : World) : Prop :=
 ∃ (n N : Nat) (A : Option Addr) (c : Nat) (rs : List SlV) (xss : List (List Int)) (k' : Ck), v = .agg #[.slice A n c] ∧ (1 ≤ n ∧ n ≤ 5) ∧ (1 ≤ N ∧ N ≤ 20000) ∧ rs.length = n ∧ xss.length = n ∧ GM N xss ∧ srcK w0 As k' ∧ St w0 w' (mat 34 2 A n c rs xss ++ ks.set ix k')

structure AnS where
 n : Nat
 N : Nat
 A : Option Addr
 c : Nat
 rs : List SlV
 xss : List (List Int)
 k : Ck

/-- the memory while a maniplex is drawn: the maniplex, the edge, the result, the edge's rows -/
abbrev anyL (A4 A5 A6 Ar Ae : Option Addr) (vs : List Value) (X : List Ck) : List Ck :=
 Bx 32 1 A6 vs :: Bx 32 1 A5 [.slice Ar 1 1] :: Bx 32 1 A4 [.slice none 0 0] :: (mat 34 2 Ar 1 1 [⟨Ae, 2, 2⟩] [[1, 0]] ++ X)
abbrev anyM (A4 A5 A6 Ar Ae : Option Addr) (vs : List Value) (ms X : List Ck) : List Ck :=
 Bx 32 1 A6 vs :: Bx 32 1 A5 [.slice Ar 1 1] :: Bx 32 1 A4 [.slice none 0 0] :: (ms ++ (mat 34 2 Ar 1 1 [⟨Ae, 2, 2⟩] [[1, 0]] ++ X))

theorem any_join {w0 w w' : World} {A4 A5 A6 Ar Ae : Option Addr} {vs : List Value} {ms X : List Ck} (hS : St w0 w (anyL A4 A5 A6 Ar Ae vs X)) (hT : St w w' ms) : St w0 w' (anyM A4 A5 A6 Ar Ae vs ms X) :=
  (hS.call hT).perm ((List.perm_middle (l₁ := ms)).trans (List.Perm.cons _ ((List.perm_middle (l₁ := ms)).trans (List.Perm.cons _ (List.perm_middle (l₁ := ms))))))
theorem any_perm {w0 w' : World} {A4 A5 A6 Ar Ae : Option Addr} {vs : List Value} {ms X : List Ck} (hS : St w0 w' (ms ++ anyL A4 A5 A6 Ar Ae vs X)) : St w0 w' (anyM A4 A5 A6 Ar Ae vs ms X) :=
 hS.perm ((List.perm_middle (l₁ := ms)).trans (List.Perm.cons _ ((List.perm_middle (l₁ := ms)).trans (List.Perm.cons _ (List.perm_middle (l₁ := ms))))))
theorem any_drop {w0 w' : World} {A4 A5 A6 Ar Ae : Option Addr} {vs : List Value} {ms X : List Ck} (hS : St w0 w' (anyM A4 A5 A6 Ar Ae vs ms X)) : St w0 w' (anyL A4 A5 A6 Ar Ae vs X) :=
 hS.sub (List.Sublist.cons_cons _ (List.Sublist.cons_cons _ (List.Sublist.cons_cons _ (List.sublist_append_right _ _))))
theorem srcNextA_c {w0 w : World} {A4 A5 A6 Ar Ae : Option Addr} {vs : List Value} {ms ks : List Ck} (ix : Nat) {As : Option Addr} {k : Ck} (n : Int) (hS : St w0 w (anyM A4 A5 A6 Ar Ae vs ms ks)) (hk : ks[ix]? = some k) (hK : srcK w0 As k) :
  Ret Tryz.prog 65 [.pointer As, .int .i64 n] w (fun v w' => ∃ (r : Int) (k' : Ck), v = .int .i64 r ∧ (0 ≤ r ∧ (1 ≤ n → r < n) ∧ (n < 1 → r = 0)) ∧ srcK w0 As k' ∧ St w0 w' (anyM A4 A5 A6 Ar Ae vs ms (ks.set ix k'))) := by
 have e : ∀ X, anyM A4 A5 A6 Ar Ae vs ms X = anyM A4 A5 A6 Ar Ae vs ms [] ++ X := fun X => by simp [anyM]
 rw [e] at hS
 refine (srcNextX_c _ ix n hS hk hK).mono ?_
 rintro v w' ⟨r, k', h1, h2, h3, h4⟩
 rw [← e] at h4
 exact ⟨r, k', h1, h2, h3, h4⟩
theorem GM.edge : GM 2 [[1, 0]] := fun p hp => by
 rw [List.mem_singleton] at hp
 subst hp
 exact ⟨rfl, fun x hx => by
  rcases List.mem_cons.1 hx with rfl | hx
  ·decide
  ·rw [List.mem_singleton] at hx; subst hx; decide⟩

/-- how far the open statement is -/
structure An4 (w0 : World) (ks : List Ck) (ix : Nat) (As A4 A5 A6 Ar Ae : Option Addr) (most p : Nat) (D : Int) (S : Nat → Bool) (e : Env) (w : World) : Prop where
  f0 : e 0 = .pointer As
  f1 : e 1 = .int .i64 (most : Int)
  f4 : e 4 = .pointer A4
  f5 : e 5 = .pointer A5
  f6 : e 6 = .pointer A6
  f7 : e 7 = .int .i64 (p : Int)
  p0 : S 0 = true → e 52 = .int .i64 (p : Int)
  p2 : S 2 = true → e 54 = .pointer As
  p3 : S 3 = true → e 55 = .int .i64 (most : Int)
  p4 : S 4 = true → e 56 = .int .i64 (p : Int)
  p5 : S 5 = true → e 57 = .int .i64 (4 * (p : Int))
  p6 : S 6 = true → e 58 = .int .i64 D
  p7 : S 7 = true → ∃ r : Int, e 59 = .int .i64 r ∧ 0 ≤ r ∧ r ≤ 250
  p8 : S 8 = true → ∃ q : Nat, e 60 = .int .i64 (q : Int) ∧ 1 ≤ q ∧ q ≤ 251
  mem : ∃ (b1 b2 b3 : List Ck) (kk : Ck) (vs : List Value), srcK w0 As kk ∧
    (S 1 = true → ∃ A c rs xss, e 53 = .agg #[.slice A 2 c] ∧ rs.length = 2 ∧ xss.length = 2 ∧ GM (2 * p) xss ∧ b1 = mat 34 2 A 2 c rs xss) ∧
    (S 9 = true → ∃ A c rs xss q, e 61 = .agg #[.slice A 2 c] ∧ (1 ≤ q ∧ q ≤ 251) ∧ rs.length = 2 ∧ xss.length = 2 ∧ GM (2 * q) xss ∧ b2 = mat 34 2 A 2 c rs xss) ∧
    (S 11 = false → vs = [.slice Ar 1 1]) ∧
    (S 10 = true → ∃ A c rs xss N, e 62 = .agg #[.slice A 4 c] ∧ (1 ≤ N ∧ N ≤ 20000) ∧ rs.length = 4 ∧ xss.length = 4 ∧ GM N xss ∧ b3 = mat 34 2 A 4 c rs xss ∧ (S 11 = true → vs = [.slice A 4 c])) ∧
    St w0 w (anyM A4 A5 A6 Ar Ae vs (b3 ++ (b2 ++ b1)) (ks.set ix kk))

theorem any_put {w0 w' : World} {A4 A5 A6 Ar Ae : Option Addr} {vs : List Value} {n m m' X : List Ck} (hS : St w0 w' (n ++ anyM A4 A5 A6 Ar Ae vs m X)) (hm : (n ++ m).Perm m') : St w0 w' (anyM A4 A5 A6 Ar Ae vs m' X) :=
 hS.perm ((List.perm_middle (l₁ := n)).trans (List.Perm.cons _ ((List.perm_middle (l₁ := n)).trans (List.Perm.cons _ ((List.perm_middle (l₁ := n)).trans (List.Perm.cons _ (by rw [← List.append_assoc]; exact hm.append_right _)))))))
theorem any_less {w0 w' : World} {A4 A5 A6 Ar Ae : Option Addr} {vs : List Value} {m m' X : List Ck} (hS : St w0 w' (anyM A4 A5 A6 Ar Ae vs m X)) (hm : m'.Sublist m) : St w0 w' (anyM A4 A5 A6 Ar Ae vs m' X) :=
 hS.sub (List.Sublist.cons_cons _ (List.Sublist.cons_cons _ (List.Sublist.cons_cons _ (hm.append (List.Sublist.refl _)))))

theorem l02Any_c {w0 w : World} {ks : List Ck} (ix : Nat) {As : Option Addr} {k : Ck} (most : Nat) (hS : St w0 w ks) (hk : ks[ix]? = some k) (hK : srcK w0 As k) (hm : 8 ≤ most ∧ most ≤ 1000) :
  Ret Tryz.prog 184 [.pointer As, .int .i64 (most : Int)] w (AnsD w0 ks ix As) := by
 refine Ret.of_cd Tryz.func184 rfl Tryz.ntmps184 rfl (postc rfl rfl) ?_
 refine Cd.seq ?_
 refine Cd.region ?_
 refine Ops.new1 hS rfl ?_
 intro A4 w1 hS1
 refine Ops.nil ?_
 refine thenQ_n ?_
 refine Cd.seq ?_
 refine Cd.region ?_
 refine Ops.bsL [1, 0] hS1 rfl rfl (by decide) (by decide) rfl rfl ?_
 intro Ae w2 hS2
 skip
 refine Ops.bs1R hS2 rfl rfl rfl ?_
 intro Ar w3 hS3
 skip
 refine Ops.bld1 (by exact inferInstance) rfl rfl rfl rfl ?_
 skip
 refine Ops.new1 hS3 rfl ?_
 intro A5 w4 hS4
 skip
 refine Ops.st_agg 1 0 hS4 rfl rfl rfl rfl rfl rfl rfl ?_
 intro w5 hS5
 refine Ops.nil ?_
 refine thenQ_n ?_
 refine Cd.seq ?_
 refine Cd.region ?_
 refine Ops.ld_agg 0 (hS5.rd 0 rfl) rfl rfl rfl ?_
 skip
 refine Ops.new1 hS5 rfl ?_
 intro A6 w6 hS6
 skip
 refine Ops.st_agg 1 0 hS6 rfl rfl rfl rfl rfl rfl rfl ?_
 intro w7 hS7
 have hS7 : St w0 w7 (anyL A4 A5 A6 Ar Ae [.slice Ar 1 1] ks) := hS7.perm (List.Perm.cons _ (List.Perm.cons _ ((List.perm_append_comm (l₁ := [_, _]) (l₂ := [_])).append_right ks)))
 refine Ops.nil ?_
 refine thenQ_n ?_
 refine Cd.join (α := AnS) (fun s => [(0, .pointer As), (1, .int .i64 (most : Int)), (4, .pointer A4), (5, .pointer A5), (6, .pointer A6)]) (fun s w' => (1 ≤ s.n ∧ s.n ≤ 5) ∧ (1 ≤ s.N ∧ s.N ≤ 20000) ∧ s.rs.length = s.n ∧ s.xss.length = s.n ∧ GM s.N s.xss ∧ srcK w0 As s.k ∧ St w0 w' (anyM A4 A5 A6 Ar Ae [.slice s.A s.n s.c] (mat 34 2 s.A s.n s.c s.rs s.xss) (ks.set ix s.k))) ?_ ?_
 ·refine Cd.seq ?_
  refine Cd.region ?_
  refine Ops.mv_ptr rfl rfl rfl ?_
  refine Ops.call (srcNext_c (ix + 5) 7 hS7 (by exact hk) hK) rfl rfl rfl ?_
  rintro _ w8 ⟨r, k1, rfl, hr, hK1, hS8⟩
  have hS8 : St w0 w8 (anyL A4 A5 A6 Ar Ae [.slice Ar 1 1] (ks.set ix k1)) := hS8
  have hk1 := setK_get (k' := k1) hk
  refine Ops.nil ?_
  refine thenQ_n ?_
  refine Cd.block ?_
  refine Cd.seq ?_
  refine Cd.region ?_
  refine Ops.eql rfl rfl rfl ?_
  refine Ops.mv_bool rfl rfl rfl ?_
  refine Ops.nil ?_
  refine thenQ_n ?_
  refine Cd.cond_p _ rfl (fun h1 => ?_) (fun h1 => ?_)
  ·refine Cd.region ?_
   refine Ops.mv_ptr rfl rfl rfl ?_
   refine Ops.mv_int rfl rfl rfl ?_
   refine Ops.quo rfl rfl rfl (by omega) ?_
   skip
   refine Ops.call (srcNext_c (ix + 5) _ hS8 (by exact hk1) hK1) rfl rfl rfl ?_
   rintro _ w9 ⟨q, k2, rfl, hq, hK2, hS9⟩
   have hS9 : St w0 w9 (anyL A4 A5 A6 Ar Ae [.slice Ar 1 1] ((ks.set ix k1).set ix k2)) := hS9
   rw [List.set_set] at hS9
   have hk2 := setK_get (k' := k2) hk
   refine Ops.add rfl rfl rfl (by omega) ?_
   obtain ⟨p, hp⟩ : ∃ p : Nat, 1 + q = p := ⟨(1 + q).toNat, by omega⟩
   rw [hp]
   refine Ops.call (l02Polygon_c p _ (by omega)) rfl rfl rfl ?_
   rintro _ w10 ⟨A, c, rs, xss, rfl, hrl, hxl, hG, hT⟩
   have hS10 := any_join hS9 hT
   skip
   refine Ops.st_agg 1 0 hS10 rfl rfl rfl rfl rfl rfl rfl ?_
   intro w11 hS11
   refine Ops.nil ?_
   refine blockQ_n ?_
   refine thenQ_n ?_
   exact ⟨⟨2, 2 * p, A, c, rs, xss, k2⟩, ⟨rfl, rfl, rfl, rfl, rfl, trivial⟩, (by show 1 ≤ 2 ∧ 2 ≤ 5; decide), ⟨by show 1 ≤ 2 * p; omega, by show 2 * p ≤ 20000; omega⟩, hrl, hxl, hG, hK2, hS11⟩
  ·refine Cd.seq ?_
   refine Cd.region ?_
   refine Ops.eql rfl rfl rfl ?_
   refine Ops.mv_bool rfl rfl rfl ?_
   refine Ops.nil ?_
   refine thenQ_n ?_
   refine Cd.cond_p _ rfl (fun h2 => ?_) (fun h2 => ?_)
   ·refine Cd.seq ?_
    refine Cd.region ?_
    refine Ops.ld_agg 0 (hS8.rd 1 rfl) rfl rfl rfl ?_
    skip
    refine Ops.st_agg 1 2 hS8 rfl rfl rfl rfl rfl rfl rfl ?_
    intro w9 hS9
    refine Ops.nil ?_
    refine thenQ_n ?_
    refine Cd.ret ?_
    refine blockQ_r ?_
    refine thenQ_r ?_
    skip
    refine retc_r rfl (hS9.rd 2 rfl) ?_
    exact ⟨1, 2, Ar, 1, [⟨Ae, 2, 2⟩], [[1, 0]], k1, rfl, by decide, by decide, rfl, rfl, GM.edge, hK1, hS9.tail.tail.tail⟩
   ·refine Cd.seq ?_
    refine Cd.region ?_
    refine Ops.eql rfl rfl rfl ?_
    refine Ops.mv_bool rfl rfl rfl ?_
    refine Ops.nil ?_
    refine thenQ_n ?_
    refine Cd.cond_p _ rfl (fun h3 => ?_) (fun h3 => ?_)
    ·refine Cd.seq ?_
     refine Cd.region ?_
     refine Ops.mv_ptr rfl rfl rfl ?_
     refine Ops.mv_int rfl rfl rfl ?_
     refine Ops.quo rfl rfl rfl (by omega) ?_
     skip
     refine Ops.call (srcNext_c (ix + 5) _ hS8 (by exact hk1) hK1) rfl rfl rfl ?_
     rintro _ w9 ⟨q, k2, rfl, hq, hK2, hS9⟩
     have hS9 : St w0 w9 (anyL A4 A5 A6 Ar Ae [.slice Ar 1 1] ((ks.set ix k1).set ix k2)) := hS9
     rw [List.set_set] at hS9
     refine Ops.add rfl rfl rfl (by omega) ?_
     obtain ⟨p, hp⟩ : ∃ p : Nat, 1 + q = p := ⟨(1 + q).toNat, by omega⟩
     rw [hp]
     refine Ops.call (l02Polygon_c p _ (by omega)) rfl rfl rfl ?_
     rintro _ w10 ⟨A, c, rs, xss, rfl, hrl, hxl, hG, hT⟩
     have hS10 := any_join hS9 hT
     skip
     refine Ops.st_agg 1 0 hS10 rfl rfl rfl rfl rfl rfl rfl ?_
     intro w11 hS11
     have hS11 : St w0 w11 (anyM A4 A5 A6 Ar Ae [.slice A 2 c] (mat 34 2 A 2 c rs xss) (ks.set ix k2)) := hS11
     refine Ops.nil ?_
     refine thenQ_n ?_
     refine Cd.region ?_
     refine Ops.ld_agg 0 (hS11.rd 0 rfl) rfl rfl rfl ?_
     skip
     refine Ops.ld_agg 0 (hS11.rd 1 rfl) rfl rfl rfl ?_
     skip
     refine Ops.call (l02Beside_c A 2 c rs xss (2 * p) Ar 1 1 [⟨Ae, 2, 2⟩] [[1, 0]] 2 w11 (St.rowsI hS11.tail.tail.tail (by omega)) (St.rowsI (any_drop hS11).tail.tail.tail rfl) (by decide) (by decide) hG GM.edge (by omega) (by omega) (by omega)) rfl rfl rfl ?_
     rintro _ w12 ⟨A', c', rs', xss', rfl, hrl', hxl', hG', hT'⟩
     have hS12 := any_join (any_drop hS11) hT'
     skip
     refine Ops.st_agg 1 0 hS12 rfl rfl rfl rfl rfl rfl rfl ?_
     intro w13 hS13
     refine Ops.nil ?_
     refine blockQ_n ?_
     refine thenQ_n ?_
     exact ⟨⟨3, 2 * p * 2, A', c', rs', xss', k2⟩, ⟨rfl, rfl, rfl, rfl, rfl, trivial⟩, (by show 1 ≤ 3 ∧ 3 ≤ 5; decide), ⟨by show 1 ≤ 2 * p * 2; omega, by show 2 * p * 2 ≤ 20000; omega⟩, hrl', hxl', hG', hK2, hS13⟩
    ·refine Cd.seq ?_
     refine Cd.region ?_
     refine Ops.eql rfl rfl rfl ?_
     refine Ops.mv_bool rfl rfl rfl ?_
     refine Ops.nil ?_
     refine thenQ_n ?_
     refine Cd.cond_p _ rfl (fun h4 => ?_) (fun h4 => ?_)
     ·refine Cd.seq ?_
      refine Cd.region ?_
      refine Ops.mv_ptr rfl rfl rfl ?_
      refine Ops.call (srcNext_c (ix + 5) 4 hS8 (by exact hk1) hK1) rfl rfl rfl ?_
      rintro _ w9 ⟨q, k2, rfl, hq, hK2, hS9⟩
      have hS9 : St w0 w9 (anyL A4 A5 A6 Ar Ae [.slice Ar 1 1] ((ks.set ix k1).set ix k2)) := hS9
      rw [List.set_set] at hS9
      refine Ops.add rfl rfl rfl (by omega) ?_
      refine Ops.mv_int rfl rfl rfl ?_
      refine Ops.nil ?_
      refine thenQ_n ?_
      refine Cd.join (α := Nat) (fun p => [(0, .pointer As), (1, .int .i64 (most : Int)), (4, .pointer A4), (5, .pointer A5), (6, .pointer A6), (7, .int .i64 (p : Int))]) (fun p w' => w' = w9 ∧ 1 ≤ p ∧ p ≤ 4) ?_ ?_
      ·refine Cd.seq ?_
       refine Cd.region ?_
       refine Ops.mv_int rfl rfl rfl ?_
       refine Ops.mul rfl rfl rfl (by omega) ?_
       refine Ops.mv_int rfl rfl rfl ?_
       refine Ops.gtr rfl rfl rfl ?_
       refine Ops.nil ?_
       refine thenQ_n ?_
       refine Cd.cond_p _ rfl (fun h5 => ?_) (fun h5 => ?_)
       ·refine Cd.region ?_
        refine Ops.mv_int rfl rfl rfl ?_
        refine Ops.nil ?_
        refine thenQ_n ?_
        exact ⟨2, ⟨rfl, rfl, rfl, rfl, rfl, rfl, trivial⟩, rfl, by decide⟩
       ·refine Cd.skip ?_
        refine thenQ_n ?_
        exact ⟨(1 + q).toNat, ⟨rfl, rfl, rfl, rfl, rfl, congrArg (Value.int .i64) (by omega), trivial⟩, rfl, by omega⟩
      rintro p e w10 ⟨rfl, hp⟩
      obtain ⟨D, hD⟩ : ∃ D : Int, (most : Int) / (4 * (p : Int)) = D := ⟨_, rfl⟩
      have hDb : 0 ≤ D ∧ D ≤ 250 := by
       rcases (by omega : p = 1 ∨ p = 2 ∨ p = 3 ∨ p = 4) with rfl | rfl | rfl | rfl <;> omega
      skip
      refine Cd.drawS (by kernel_rfl) (by kernel_rfl) (fun S e1 w1 => An4 w0 ks ix As A4 A5 A6 Ar Ae most p D S e1 w1) (fun w4 hb => ⟨rfl, rfl, rfl, rfl, rfl, rfl, fun h => (nomatch h), fun h => (nomatch h), fun h => (nomatch h), fun h => (nomatch h), fun h => (nomatch h), fun h => (nomatch h), fun h => (nomatch h), fun h => (nomatch h), [], [], [], k2, [.slice Ar 1 1], hK2, fun h => (nomatch h), fun h => (nomatch h), fun _ => rfl, fun h => (nomatch h), hS9.later hb⟩) ?_ ?_
      ·intro S i o e1 w4 hq hSk hd hcl hI
       obtain ⟨f0, f1, f4, f5, f6, f7, p0, p2, p3, p4, p5, p6, p7, p8, B1, B2, B3, kk, vs, hkk, m1, m9, m11, m10, hT⟩ := hI
       match i, hq, hSk with
       | 0, hq, hSk =>
        obtain rfl := Option.some.inj hq
        refine Ops.mv_int rfl (by exact f7) rfl ?_
        refine Ops.nil ?_
        exact ⟨f0, f1, f4, f5, f6, f7, fun _ => rfl, p2, p3, p4, p5, p6, p7, p8, B1, B2, B3, kk, vs, hkk, m1, m9, m11, m10, hT⟩
       | 1, hq, hSk =>
        obtain rfl := Option.some.inj hq
        refine Ops.call (l02Polygon_c p w4 (by omega)) rfl (by exact congrArg (fun v => [v]) (p0 (deps_of hd 0 rfl))) rfl ?_
        rintro _ w5 ⟨A, c, rs, xss, rfl, hrl, hxl, hG, hT'⟩
        have hT5 := any_put (m' := B3 ++ (B2 ++ mat 34 2 A 2 c rs xss)) ((any_less hT (m' := B3 ++ (B2 ++ [])) ((List.Sublist.refl _).append ((List.Sublist.refl _).append (List.nil_sublist _)))).call hT') (by rw [List.append_nil, ← List.append_assoc B3 B2]; exact List.perm_append_comm)
        refine Ops.nil ?_
        exact ⟨f0, f1, f4, f5, f6, f7, p0, p2, p3, p4, p5, p6, p7, p8, mat 34 2 A 2 c rs xss, B2, B3, kk, vs, hkk, fun _ => ⟨A, c, rs, xss, rfl, hrl, hxl, hG, rfl⟩, m9, m11, m10, hT5⟩
       | 2, hq, hSk =>
        obtain rfl := Option.some.inj hq
        refine Ops.mv_ptr rfl (by exact f0) rfl ?_
        refine Ops.nil ?_
        exact ⟨f0, f1, f4, f5, f6, f7, p0, fun _ => rfl, p3, p4, p5, p6, p7, p8, B1, B2, B3, kk, vs, hkk, m1, m9, m11, m10, hT⟩
       | 3, hq, hSk =>
        obtain rfl := Option.some.inj hq
        refine Ops.mv_int rfl (by exact f1) rfl ?_
        refine Ops.nil ?_
        exact ⟨f0, f1, f4, f5, f6, f7, p0, p2, fun _ => rfl, p4, p5, p6, p7, p8, B1, B2, B3, kk, vs, hkk, m1, m9, m11, m10, hT⟩
       | 4, hq, hSk =>
        obtain rfl := Option.some.inj hq
        refine Ops.mv_int rfl (by exact f7) rfl ?_
        refine Ops.nil ?_
        exact ⟨f0, f1, f4, f5, f6, f7, p0, p2, p3, fun _ => rfl, p5, p6, p7, p8, B1, B2, B3, kk, vs, hkk, m1, m9, m11, m10, hT⟩
       | 5, hq, hSk =>
        obtain rfl := Option.some.inj hq
        refine Ops.mul rfl (by exact p4 (deps_of hd 4 rfl)) rfl (by omega) ?_
        refine Ops.nil ?_
        exact ⟨f0, f1, f4, f5, f6, f7, p0, p2, p3, p4, fun _ => rfl, p6, p7, p8, B1, B2, B3, kk, vs, hkk, m1, m9, m11, m10, hT⟩
       | 6, hq, hSk =>
        obtain rfl := Option.some.inj hq
        refine Ops.quo (by exact p3 (deps_of hd 3 rfl)) (by exact p5 (deps_of hd 5 rfl)) rfl (by omega) ?_
        refine Ops.nil ?_
        exact ⟨f0, f1, f4, f5, f6, f7, p0, p2, p3, p4, p5, fun _ => congrArg (Value.int .i64) hD, p7, p8, B1, B2, B3, kk, vs, hkk, m1, m9, m11, m10, hT⟩
       | 7, hq, hSk =>
        obtain rfl := Option.some.inj hq
        have hkg := setK_get (k' := kk) hk
        refine Ops.call (srcNextA_c ix D hT hkg hkk) rfl (by exact two_eq (p2 (deps_of hd 2 rfl)) (p6 (deps_of hd 6 rfl))) rfl ?_
        rintro _ w5 ⟨r7, k7, rfl, hr7, hK7, hT7⟩
        rw [List.set_set] at hT7
        refine Ops.nil ?_
        exact ⟨f0, f1, f4, f5, f6, f7, p0, p2, p3, p4, p5, p6, fun _ => ⟨r7, rfl, hr7.1, by omega⟩, p8, B1, B2, B3, k7, vs, hK7, m1, m9, m11, m10, hT7⟩
       | 8, hq, hSk =>
        obtain rfl := Option.some.inj hq
        obtain ⟨r7, h7, hr7⟩ := p7 (deps_of hd 7 rfl)
        refine Ops.add rfl (by exact h7) rfl (by omega) ?_
        refine Ops.nil ?_
        exact ⟨f0, f1, f4, f5, f6, f7, p0, p2, p3, p4, p5, p6, p7, fun _ => ⟨(1 + r7).toNat, congrArg (Value.int .i64) (by omega), by omega, by omega⟩, B1, B2, B3, kk, vs, hkk, m1, m9, m11, m10, hT⟩
       | 9, hq, hSk =>
        obtain rfl := Option.some.inj hq
        obtain ⟨q8, h8, hq8⟩ := p8 (deps_of hd 8 rfl)
        refine Ops.call (l02Polygon_c q8 w4 (by omega)) rfl (by exact congrArg (fun v => [v]) h8) rfl ?_
        rintro _ w5 ⟨A, c, rs, xss, rfl, hrl, hxl, hG, hT'⟩
        have hT5 := any_put (m' := B3 ++ (mat 34 2 A 2 c rs xss ++ B1)) ((any_less hT (m' := B3 ++ ([] ++ B1)) ((List.Sublist.refl _).append ((List.nil_sublist _).append (List.Sublist.refl _)))).call hT') (by rw [List.nil_append, ← List.append_assoc, ← List.append_assoc]; exact List.perm_append_comm.append_right _)
        refine Ops.nil ?_
        exact ⟨f0, f1, f4, f5, f6, f7, p0, p2, p3, p4, p5, p6, p7, p8, B1, mat 34 2 A 2 c rs xss, B3, kk, vs, hkk, m1, fun _ => ⟨A, c, rs, xss, q8, rfl, hq8, hrl, hxl, hG, rfl⟩, m11, m10, hT5⟩
       | 10, hq, hSk =>
        obtain rfl := Option.some.inj hq
        obtain ⟨A1, c1, rs1, xss1, h53, hrl1, hxl1, hG1, rfl⟩ := m1 (deps_of hd 1 rfl)
        obtain ⟨A2, c2, rs2, xss2, q8, h61, hq8, hrl2, hxl2, hG2, rfl⟩ := m9 (deps_of hd 9 rfl)
        have n11 : S 11 = false := by
         cases h : S 11 with
         | false => rfl
         | true => rw [← hSk]; exact (deps_of (hcl 11 _ h rfl) 10 rfl).symm
        have hX1 : RowsI w4 A1 2 rs1 xss1 := St.rowsI ((any_less hT (m' := [] ++ ([] ++ mat 34 2 A1 2 c1 rs1 xss1)) ((List.nil_sublist _).append ((List.nil_sublist _).append (List.Sublist.refl _)))).tail.tail.tail) (by omega)
        have hX2 : RowsI w4 A2 2 rs2 xss2 := St.rowsI ((any_less hT (m' := mat 34 2 A2 2 c2 rs2 xss2) ((List.sublist_append_left _ _).trans (List.sublist_append_right _ _))).tail.tail.tail) (by omega)
        have hN : 2 * p * (2 * q8) ≤ 8 * 502 := Nat.mul_le_mul (by omega) (by omega)
        have hN1 : 1 ≤ 2 * p * (2 * q8) := Nat.mul_pos (by omega) (by omega)
        refine Ops.call (l02Beside_c A1 2 c1 rs1 xss1 (2 * p) A2 2 c2 rs2 xss2 (2 * q8) w4 hX1 hX2 (by decide) (by decide) hG1 hG2 (by omega) (by omega) (by omega)) rfl (by exact two_eq h53 h61) rfl ?_
        rintro _ w5 ⟨A, c, rs, xss, rfl, hrl, hxl, hG, hT'⟩
        have hT5 := any_put (m' := mat 34 2 A (2 + 2) c rs xss ++ (mat 34 2 A2 2 c2 rs2 xss2 ++ mat 34 2 A1 2 c1 rs1 xss1)) ((any_less hT (List.sublist_append_right _ _)).call hT') (List.Perm.refl _)
        refine Ops.nil ?_
        exact ⟨f0, f1, f4, f5, f6, f7, p0, p2, p3, p4, p5, p6, p7, p8, mat 34 2 A1 2 c1 rs1 xss1, mat 34 2 A2 2 c2 rs2 xss2, mat 34 2 A (2 + 2) c rs xss, kk, vs, hkk, fun _ => ⟨A1, c1, rs1, xss1, h53, hrl1, hxl1, hG1, rfl⟩, fun _ => ⟨A2, c2, rs2, xss2, q8, h61, hq8, hrl2, hxl2, hG2, rfl⟩, m11, fun _ => ⟨A, c, rs, xss, 2 * p * (2 * q8), rfl, ⟨hN1, by omega⟩, hrl, hxl, hG, rfl, fun h => (nomatch n11.symm.trans h)⟩, hT5⟩
       | 11, hq, hSk =>
        obtain rfl := Option.some.inj hq
        obtain ⟨A, c, rs, xss, N, h62, hN, hrl, hxl, hG, rfl, _⟩ := m10 (deps_of hd 10 rfl)
        obtain rfl := m11 hSk
        refine Ops.st_agg 1 0 hT rfl (by exact f6) (by exact h62) rfl rfl rfl rfl ?_
        intro w5 hT5
        refine Ops.nil ?_
        exact ⟨f0, f1, f4, f5, f6, f7, p0, p2, p3, p4, p5, p6, p7, p8, B1, B2, _, kk, [.slice A 4 c], hkk, m1, m9, fun h => (nomatch (show true = false from h)), fun _ => ⟨A, c, rs, xss, N, h62, hN, hrl, hxl, hG, rfl, fun _ => rfl⟩, hT5⟩
       | i + 12, hq, _ => exact (nomatch hq)
      ·intro S e1 w4 hall hI
       obtain ⟨f0, f1, f4, f5, f6, f7, p0, p2, p3, p4, p5, p6, p7, p8, B1, B2, B3, kk, vs, hkk, m1, m9, m11, m10, hT⟩ := hI
       obtain ⟨A, c, rs, xss, N, h62, hN, hrl, hxl, hG, rfl, hvs⟩ := m10 (hall 10 (by decide))
       obtain rfl := hvs (hall 11 (by decide))
       refine postQ_ext (F := [(0, .pointer As), (1, .int .i64 (most : Int)), (4, .pointer A4), (5, .pointer A5), (6, .pointer A6)]) ⟨f0, f1, f4, f5, f6, trivial⟩ ?_
       refine blockQ_n ?_
       refine thenQ_n ?_
       exact ⟨⟨4, N, A, c, rs, xss, kk⟩, ⟨rfl, rfl, rfl, rfl, rfl, trivial⟩, (by show 1 ≤ 4 ∧ 4 ≤ 5; decide), hN, hrl, hxl, hG, hkk, any_less hT (List.sublist_append_left _ _)⟩
     ·refine Cd.region ?_
      refine Ops.mv_ptr rfl rfl rfl ?_
      refine Ops.mv_ptr rfl rfl rfl ?_
      refine Ops.mv_int rfl rfl rfl ?_
      refine Ops.quo rfl rfl rfl (by omega) ?_
      skip
      refine Ops.call (srcNext_c (ix + 5) _ hS8 (by exact hk1) hK1) rfl rfl rfl ?_
      rintro _ w9 ⟨q, k2, rfl, hq, hK2, hS9⟩
      have hS9 : St w0 w9 (anyL A4 A5 A6 Ar Ae [.slice Ar 1 1] ((ks.set ix k1).set ix k2)) := hS9
      rw [List.set_set] at hS9
      have hk2 := setK_get (k' := k2) hk
      refine Ops.add rfl rfl rfl (by omega) ?_
      obtain ⟨p, hp⟩ : ∃ p : Nat, 1 + q = p := ⟨(1 + q).toNat, by omega⟩
      rw [hp]
      refine Ops.call (l02Map_c (ix + 5) p hS9 (by exact hk2) hK2 (by omega)) rfl rfl rfl ?_
      rintro _ w10 ⟨A, c, rs, xss, N, k3, rfl, hrl, hxl, hG, hN, hK3, hT⟩
      have hT : St w0 w10 (mat 34 2 A 3 c rs xss ++ anyL A4 A5 A6 Ar Ae [.slice Ar 1 1] ((ks.set ix k2).set ix k3)) := hT
      rw [List.set_set] at hT
      have hS10 := any_perm hT
      skip
      refine Ops.st_agg 1 0 hS10 rfl rfl rfl rfl rfl rfl rfl ?_
      intro w11 hS11
      refine Ops.nil ?_
      refine blockQ_n ?_
      refine thenQ_n ?_
      exact ⟨⟨3, N, A, c, rs, xss, k3⟩, ⟨rfl, rfl, rfl, rfl, rfl, trivial⟩, (by show 1 ≤ 3 ∧ 3 ≤ 5; decide), ⟨hN.1, by show N ≤ 20000; omega⟩, hrl, hxl, hG, hK3, hS11⟩
 ·intro s e w9 hI
  refine Cd.seq ?_
  refine Cd.block ?_
  refine Cd.loop (α := AnS) (fun s => [(0, .pointer As), (1, .int .i64 (most : Int)), (4, .pointer A4), (5, .pointer A5), (6, .pointer A6)]) (fun s w' => (1 ≤ s.n ∧ s.n ≤ 5) ∧ (1 ≤ s.N ∧ s.N ≤ 20000) ∧ s.rs.length = s.n ∧ s.xss.length = s.n ∧ GM s.N s.xss ∧ srcK w0 As s.k ∧ St w0 w' (anyM A4 A5 A6 Ar Ae [.slice s.A s.n s.c] (mat 34 2 s.A s.n s.c s.rs s.xss) (ks.set ix s.k))) (fun s => 5 - s.n) s ⟨rfl, rfl, rfl, rfl, rfl, trivial⟩ hI ?_
  clear hI s
  rintro ⟨n, N, A, c, rs, xss, k2⟩ e w10 ⟨hn, hN, hrl, hxl, hG, hK2, hS10⟩
  dsimp only at hn hN hrl hxl hG hK2 hS10 ⊢
  have hk2 := setK_get (k' := k2) hk
  refine Cd.seq ?_
  refine Cd.seq ?_
  refine Cd.region ?_
  refine Ops.fld (hS10.rd 0 rfl) rfl rfl rfl rfl inferInstance ?_
  refine Ops.ldf_s (hS10.rd 0 rfl) rfl rfl rfl rfl rfl ?_
  refine Ops.len rfl rfl ?_
  refine Ops.lss rfl rfl rfl ?_
  refine Ops.mv_bool rfl rfl rfl ?_
  have hEnd : ∀ (k5 : Ck) (w11 : World), srcK w0 As k5 → St w0 w11 (mat 34 2 A n c rs xss ++ (mat 34 2 Ar 1 1 [⟨Ae, 2, 2⟩] [[1, 0]] ++ ks.set ix k5)) → AnsD w0 ks ix As (.agg #[.slice A n c]) w11 := fun k5 w11 hK5 h => ⟨n, N, A, c, rs, xss, k5, rfl, hn, hN, hrl, hxl, hG, hK5, h.sub ((List.Sublist.refl _).append (List.sublist_append_right _ _))⟩
  refine Ops.split_p 67 rfl (fun h1 => ?_) (fun h1 => ?_)
  ·refine Ops.rung rfl rfl rfl ?_
   refine Ops.ld_agg 0 (hS10.rd 0 rfl) rfl rfl rfl ?_
   refine Ops.rung rfl rfl rfl ?_
   refine Ops.call (l02Flags_c A n c rs xss w10 (St.rowsI hS10.tail.tail.tail (by omega)) (by omega)) rfl rfl rfl ?_
   rintro _ w11 ⟨rfl, hT⟩
   have hS11 := hS10.later hT.below
   rw [hG.first (by omega)]
   refine Ops.rung rfl rfl rfl ?_
   refine Ops.mul rfl rfl rfl (by omega) ?_
   refine Ops.rung rfl rfl rfl ?_
   refine Ops.mv_int rfl rfl rfl ?_
   refine Ops.rung rfl rfl rfl ?_
   refine Ops.leq rfl rfl rfl ?_
   refine Ops.pick_t rfl rfl rfl ?_
   refine Ops.mv_bool rfl rfl rfl ?_
   refine Ops.split_p 74 rfl (fun h2 => ?_) (fun h2 => ?_)
   ·refine Ops.rung rfl rfl rfl ?_
    refine Ops.mv_ptr rfl rfl rfl ?_
    refine Ops.rung rfl rfl rfl ?_
    refine Ops.call (srcNextA_c ix 3 hS11 hk2 hK2) rfl rfl rfl ?_
    rintro _ w12 ⟨r, k3, rfl, hr, hK3, hS12⟩
    rw [List.set_set] at hS12
    have hk3 := setK_get (k' := k3) hk
    refine Ops.rung rfl rfl rfl ?_
    refine Ops.eql rfl rfl rfl ?_
    refine Ops.pick_t rfl rfl rfl ?_
    refine Ops.nil ?_
    refine thenQ_n ?_
    refine Cd.cond_p _ rfl (fun h3 => ?_) (fun h3 => ?_)
    ·refine Cd.skip ?_
     refine thenQ_n ?_
     refine Cd.block ?_
     refine Cd.seq ?_
     refine Cd.region ?_
     refine Ops.mv_ptr rfl rfl rfl ?_
     refine Ops.call (srcNextA_c ix 2 hS12 hk3 hK3) rfl rfl rfl ?_
     rintro _ w13 ⟨r', k4, rfl, hr', hK4, hS13⟩
     rw [List.set_set] at hS13
     refine Ops.eql rfl rfl rfl ?_
     refine Ops.nil ?_
     refine thenQ_n ?_
     refine Cd.cond_p _ rfl (fun h4 => ?_) (fun h4 => ?_)
     ·skip
      refine Cd.region ?_
      refine Ops.ld_agg 0 (hS13.rd 0 rfl) rfl rfl rfl ?_
      skip
      refine Ops.ld_agg 0 (hS13.rd 1 rfl) rfl rfl rfl ?_
      skip
      refine Ops.call (l02Beside_c A n c rs xss N Ar 1 1 [⟨Ae, 2, 2⟩] [[1, 0]] 2 w13 (St.rowsI hS13.tail.tail.tail (by omega)) (St.rowsI (any_drop hS13).tail.tail.tail rfl) (by omega) (by decide) hG GM.edge (by omega) (by omega) (by omega)) rfl rfl rfl ?_
      rintro _ w14 ⟨A', c', rs', xss', rfl, hrl', hxl', hG', hT'⟩
      have hS14 := any_join (any_drop hS13) hT'
      skip
      refine Ops.st_agg 1 0 hS14 rfl rfl rfl rfl rfl rfl rfl ?_
      intro w15 hS15
      refine Ops.nil ?_
      refine blockQ_n ?_
      refine thenQ_n ?_
      exact ⟨⟨n + 1, N * 2, A', c', rs', xss', k4⟩, by show 5 - (n + 1) < 5 - n; omega, ⟨rfl, rfl, rfl, rfl, rfl, trivial⟩, ⟨by show 1 ≤ n + 1; omega, by show n + 1 ≤ 5; omega⟩, ⟨by show 1 ≤ N * 2; omega, by show N * 2 ≤ 20000; omega⟩, hrl', hxl', hG', hK4, hS15⟩
     ·skip
      refine Cd.region ?_
      refine Ops.ld_agg 0 (hS13.rd 1 rfl) rfl rfl rfl ?_
      skip
      refine Ops.ld_agg 0 (hS13.rd 0 rfl) rfl rfl rfl ?_
      skip
      refine Ops.call (l02Beside_c Ar 1 1 [⟨Ae, 2, 2⟩] [[1, 0]] 2 A n c rs xss N w13 (St.rowsI (any_drop hS13).tail.tail.tail rfl) (St.rowsI hS13.tail.tail.tail (by omega)) (by decide) (by omega) GM.edge hG (by omega) (by omega) (by omega)) rfl rfl rfl ?_
      rintro _ w14 ⟨A', c', rs', xss', rfl, hrl', hxl', hG', hT'⟩
      have hS14 := any_join (any_drop hS13) hT'
      skip
      refine Ops.st_agg 1 0 hS14 rfl rfl rfl rfl rfl rfl rfl ?_
      intro w15 hS15
      refine Ops.nil ?_
      refine blockQ_n ?_
      refine thenQ_n ?_
      exact ⟨⟨1 + n, 2 * N, A', c', rs', xss', k4⟩, by show 5 - (1 + n) < 5 - n; omega, ⟨rfl, rfl, rfl, rfl, rfl, trivial⟩, ⟨by show 1 ≤ 1 + n; omega, by show 1 + n ≤ 5; omega⟩, ⟨by show 1 ≤ 2 * N; omega, by show 2 * N ≤ 20000; omega⟩, hrl', hxl', hG', hK4, hS15⟩
    ·refine Cd.exit ?_
     refine thenQ_x ?_
     refine thenQ_x ?_
     refine blockQ_x ?_
     refine thenQ_n ?_
     refine Cd.seq ?_
     refine Cd.region ?_
     refine Ops.ld_agg 0 (hS12.rd 0 rfl) rfl rfl rfl ?_
     skip
     refine Ops.st_agg 1 2 hS12 rfl rfl rfl rfl rfl rfl rfl ?_
     intro w20 hS20
     refine Ops.nil ?_
     refine thenQ_n ?_
     refine Cd.ret ?_
     skip
     refine retc_r rfl (hS20.rd 2 rfl) ?_
     exact hEnd k3 w20 ‹_› hS20.tail.tail.tail
   ·refine Ops.skipg rfl rfl rfl rfl rfl ?_
    refine Ops.skipg rfl rfl rfl rfl rfl ?_
    refine Ops.skipg rfl rfl rfl rfl rfl ?_
    refine Ops.pick_f rfl rfl rfl ?_
    refine Ops.nil ?_
    refine thenQ_n ?_
    refine Cd.cond_f rfl ?_
    refine Cd.exit ?_
    refine thenQ_x ?_
    refine thenQ_x ?_
    refine blockQ_x ?_
    refine thenQ_n ?_
    refine Cd.seq ?_
    refine Cd.region ?_
    refine Ops.ld_agg 0 (hS11.rd 0 rfl) rfl rfl rfl ?_
    skip
    refine Ops.st_agg 1 2 hS11 rfl rfl rfl rfl rfl rfl rfl ?_
    intro w20 hS20
    refine Ops.nil ?_
    refine thenQ_n ?_
    refine Cd.ret ?_
    skip
    refine retc_r rfl (hS20.rd 2 rfl) ?_
    exact hEnd k2 w20 ‹_› hS20.tail.tail.tail
  ·refine Ops.skipg rfl rfl rfl rfl rfl ?_
   refine Ops.skipg rfl rfl rfl rfl rfl ?_
   refine Ops.skipg rfl rfl rfl rfl rfl ?_
   refine Ops.skipg rfl rfl rfl rfl rfl ?_
   refine Ops.skipg rfl rfl rfl rfl rfl ?_
   refine Ops.pick_f rfl rfl rfl ?_
   refine Ops.mv_bool rfl rfl rfl ?_
   refine Ops.skipg rfl rfl rfl rfl rfl ?_
   refine Ops.skipg rfl rfl rfl rfl rfl ?_
   refine Ops.skipg rfl rfl rfl rfl rfl ?_
   refine Ops.pick_f rfl rfl rfl ?_
   refine Ops.nil ?_
   refine thenQ_n ?_
   refine Cd.cond_f rfl ?_
   refine Cd.exit ?_
   refine thenQ_x ?_
   refine thenQ_x ?_
   refine blockQ_x ?_
   refine thenQ_n ?_
   refine Cd.seq ?_
   refine Cd.region ?_
   refine Ops.ld_agg 0 (hS10.rd 0 rfl) rfl rfl rfl ?_
   skip
   refine Ops.st_agg 1 2 hS10 rfl rfl rfl rfl rfl rfl rfl ?_
   intro w20 hS20
   refine Ops.nil ?_
   refine thenQ_n ?_
   refine Cd.ret ?_
   skip
   refine retc_r rfl (hS20.rd 2 rfl) ?_
   exact hEnd k2 w20 ‹_› hS20.tail.tail.tail
end Go.Proofs.YtjpkmpihmilgoaaGreat.Vc
/-
 The draws of maniplexes, walked: a maniplex drawn and perhaps renumbered. Conditions: as each states them.
-/
namespace Go.Proofs.YtjpkmpihmilgoaaGreat.Vc
open Go.RowKit

theorem scat_rg {N : Nat} {f g : Nat → Int} (hg : ∀ i, i < N → 0 ≤ g i ∧ g i < (N : Int)) : ∀ {m : Nat} {xs : List Int}, m ≤ N → Rg N xs → Rg N (scat xs f g m)
 | 0, _, _, h => h
 | m + 1, xs, hm, h => by
  have h1 := scat_rg (f := f) hg (m := m) (by omega) h
  have h2 := hg m (by omega)
  refine ⟨by simp [scat, h1.1], fun x hx => ?_⟩
  simp only [scat] at hx
  rcases List.mem_or_eq_of_mem_set hx with hx | rfl
  ·exact h1.2 x hx
  ·exact h2
theorem GM.ren {N : Nat} {p : List Int} {xss : List (List Int)} (h : GM N xss) (hp : Rg N p) : GM N (xss.map (renI N p)) := fun q hq => by
 obtain ⟨mv, hmv, rfl⟩ := List.mem_map.1 hq
 have h1 := h mv hmv
 refine scat_rg (fun i hi => ?_) (Nat.le_refl _) ⟨by simp, fun x hx => by obtain ⟨h0, rfl⟩ := List.mem_replicate.1 hx; omega⟩
 have h2 := h1.gi (i := (i : Int)) (by omega) (by omega)
 exact hp.gi h2.1 h2.2

/-- how far the open statement is -/
structure Dw4 (w0 : World) (ks : List Ck) (ix : Nat) (As A4 A5 : Option Addr) (n N : Nat) (A : Option Addr) (c : Nat) (rs : List SlV) (xss : List (List Int)) (S : Nat → Bool) (e : Env) (w : World) : Prop where
  f0 : e 0 = .pointer As
  f4 : e 4 = .pointer A4
  f5 : e 5 = .pointer A5
  p0 : S 0 = true → e 12 = .agg #[.slice A n c]
  p1 : S 1 = true → e 13 = .pointer As
  p2 : S 2 = true → e 14 = .agg #[.slice A n c]
  p3 : S 3 = true → e 15 = .int .i64 (N : Int)
  mem : ∃ (b1 b2 : List Ck) (kk : Ck) (vs : List Value), srcK w0 As kk ∧
    (S 4 = true → ∃ Ap cp ps, e 16 = .slice Ap N cp ∧ Rg N ps ∧ b1 = [CkI 2 Ap N cp ps]) ∧
    (S 6 = false → vs = [.slice none 0 0]) ∧
    (S 5 = true → ∃ A' c' rs' xss', e 17 = .agg #[.slice A' n c'] ∧ rs'.length = n ∧ xss'.length = n ∧ GM N xss' ∧ b2 = mat 34 2 A' n c' rs' xss' ∧ (S 6 = true → vs = [.slice A' n c'])) ∧
    St w0 w (Bx 32 1 A5 [.slice A n c] :: Bx 32 1 A4 vs :: (mat 34 2 A n c rs xss ++ (b2 ++ (b1 ++ ks.set ix kk))))

theorem l01DrawX_c {w0 w : World} {ks : List Ck} (X : List Ck) (ix : Nat) {As : Option Addr} {k : Ck} (n : Nat) (hS : St w0 w (X ++ ks)) (hk : ks[ix]? = some k) (hK : srcK w0 As k) (hn : n ≤ 1000000) :
  Ret Tryz.prog 185 [.pointer As, .int .i64 (n : Int)] w (fun v w' => ∃ A c xs k', v = .slice A n c ∧ Rg n xs ∧ srcK w0 As k' ∧ St w0 w' (CkI 2 A n c xs :: (X ++ ks.set ix k'))) := by
 have e : (X ++ ks)[X.length + ix]? = some k := by
  rw [List.getElem?_append_right (by omega), Nat.add_sub_cancel_left]; exact hk
 refine (l01Draw_c (X.length + ix) n hS e hK hn).mono ?_
 rintro v w' ⟨A, c, xs, k', h1, h2, h3, h4⟩
 rw [show (X ++ ks).set (X.length + ix) k' = X ++ ks.set ix k' from by rw [List.set_append, if_neg (by omega), Nat.add_sub_cancel_left]] at h4
 exact ⟨A, c, xs, k', h1, h2, h3, h4⟩

theorem l02Draw_c {w0 w : World} {ks : List Ck} (ix : Nat) {As : Option Addr} {k : Ck} (most : Nat) (hS : St w0 w ks) (hk : ks[ix]? = some k) (hK : srcK w0 As k) (hm : 8 ≤ most ∧ most ≤ 1000) :
  Ret Tryz.prog 153 [.pointer As, .int .i64 (most : Int)] w (AnsD w0 ks ix As) := by
 refine Ret.of_cd Tryz.func153 rfl Tryz.ntmps153 rfl (postc rfl rfl) ?_
 refine Cd.seq ?_
 refine Cd.region ?_
 refine Ops.new1 hS rfl ?_
 intro A4 w1 hS1
 refine Ops.nil ?_
 refine thenQ_n ?_
 refine Cd.seq ?_
 refine Cd.region ?_
 refine Ops.mv_ptr rfl rfl rfl ?_
 refine Ops.mv_int rfl rfl rfl ?_
 refine Ops.call (l02Any_c (ix + 1) most hS1 (by exact hk) hK hm) rfl rfl rfl ?_
 rintro _ w2 ⟨n, N, A, c, rs, xss, k1, rfl, hn, hN, hrl, hxl, hG, hK1, hS2⟩
 skip
 refine Ops.new1 hS2 rfl ?_
 intro A5 w3 hS3
 skip
 refine Ops.st_agg 1 0 hS3 rfl rfl rfl rfl rfl rfl rfl ?_
 intro w4 hS4
 have hS4 : St w0 w4 (Bx 32 1 A5 [.slice A n c] :: (mat 34 2 A n c rs xss ++ (Bx 32 1 A4 [.slice none 0 0] :: ks.set ix k1))) := hS4
 have hS4 : St w0 w4 (Bx 32 1 A5 [.slice A n c] :: Bx 32 1 A4 [.slice none 0 0] :: (mat 34 2 A n c rs xss ++ ks.set ix k1)) := hS4.perm (List.Perm.cons _ List.perm_middle)
 have hk1 := setK_get (k' := k1) hk
 refine Ops.nil ?_
 refine thenQ_n ?_
 refine Cd.seq ?_
 refine Cd.seq ?_
 refine Cd.region ?_
 refine Ops.mv_ptr rfl rfl rfl ?_
 have hN4 : ∀ (X : List Ck) (kk : Ck) (w5 : World) (vs : List Value) (q : Int), srcK w0 As kk → St w0 w5 (Bx 32 1 A5 [.slice A n c] :: Bx 32 1 A4 vs :: (mat 34 2 A n c rs xss ++ (X ++ ks.set ix kk))) → Ret Tryz.prog 65 [.pointer As, .int .i64 q] w5 (fun v w' => ∃ (r : Int) (k' : Ck), v = .int .i64 r ∧ (0 ≤ r ∧ (1 ≤ q → r < q) ∧ (q < 1 → r = 0)) ∧ srcK w0 As k' ∧ St w0 w' (Bx 32 1 A5 [.slice A n c] :: Bx 32 1 A4 vs :: (mat 34 2 A n c rs xss ++ (X ++ ks.set ix k')))) := by
  intro X kk w5 vs q hkk hT
  have hkg := setK_get (k' := kk) hk
  have e : ∀ Y, Bx 32 1 A5 [.slice A n c] :: Bx 32 1 A4 vs :: (mat 34 2 A n c rs xss ++ (X ++ Y)) = (Bx 32 1 A5 [.slice A n c] :: Bx 32 1 A4 vs :: (mat 34 2 A n c rs xss ++ X)) ++ Y := fun Y => by simp
  rw [e] at hT
  refine (srcNextX_c _ ix q hT hkg hkk).mono ?_
  rintro v w' ⟨r, k', h1, h2, h3, h4⟩
  rw [← e, List.set_set] at h4
  exact ⟨r, k', h1, h2, h3, h4⟩
 refine Ops.call (hN4 [] k1 w4 _ 4 hK1 hS4) rfl rfl rfl ?_
 rintro _ w5 ⟨r, k2, rfl, hr, hK2, hS5⟩
 have hS5 : St w0 w5 (Bx 32 1 A5 [.slice A n c] :: Bx 32 1 A4 [.slice none 0 0] :: (mat 34 2 A n c rs xss ++ ks.set ix k2)) := hS5
 have hk2 := setK_get (k' := k2) hk
 refine Ops.gtr rfl rfl rfl ?_
 refine Ops.nil ?_
 refine thenQ_n ?_
 refine Cd.cond_p _ rfl (fun h1 => ?_) (fun h1 => ?_)
 ·refine Cd.seq ?_
  refine Cd.drawS (by kernel_rfl) (by kernel_rfl) (fun S e1 w1 => Dw4 w0 ks ix As A4 A5 n N A c rs xss S e1 w1) (fun w6 hb => ⟨rfl, rfl, rfl, fun h => (nomatch h), fun h => (nomatch h), fun h => (nomatch h), fun h => (nomatch h), [], [], k2, [.slice none 0 0], hK2, fun h => (nomatch h), fun _ => rfl, fun h => (nomatch h), hS5.later hb⟩) ?_ ?_
  ·intro S i o e1 w6 hq hSk hd hcl hI
   obtain ⟨f0, f4, f5, p0, p1, p2, p3, B1, B2, kk, vs, hkk, m4, m6, m5, hT⟩ := hI
   have hX : RowsI w6 A n rs xss := St.rowsI hT.tail.tail (by omega)
   match i, hq, hSk with
   | 0, hq, hSk =>
    obtain rfl := Option.some.inj hq
    refine Ops.ld_agg 0 (hT.rd 0 rfl) (by exact f5) rfl rfl ?_
    refine Ops.nil ?_
    exact ⟨f0, f4, f5, fun _ => rfl, p1, p2, p3, B1, B2, kk, vs, hkk, m4, m6, m5, hT⟩
   | 1, hq, hSk =>
    obtain rfl := Option.some.inj hq
    refine Ops.mv_ptr rfl (by exact f0) rfl ?_
    refine Ops.nil ?_
    exact ⟨f0, f4, f5, p0, fun _ => rfl, p2, p3, B1, B2, kk, vs, hkk, m4, m6, m5, hT⟩
   | 2, hq, hSk =>
    obtain rfl := Option.some.inj hq
    refine Ops.ld_agg 0 (hT.rd 0 rfl) (by exact f5) rfl rfl ?_
    refine Ops.nil ?_
    exact ⟨f0, f4, f5, p0, p1, fun _ => rfl, p3, B1, B2, kk, vs, hkk, m4, m6, m5, hT⟩
   | 3, hq, hSk =>
    obtain rfl := Option.some.inj hq
    refine Ops.call (l02Flags_c A n c rs xss w6 hX (by omega)) rfl (by exact congrArg (fun v => [v]) (p2 (deps_of hd 2 rfl))) rfl ?_
    rintro _ w7 ⟨rfl, hT'⟩
    have hT7 := hT.later hT'.below
    rw [hG.first (by omega)]
    refine Ops.nil ?_
    exact ⟨f0, f4, f5, p0, p1, p2, fun _ => rfl, B1, B2, kk, vs, hkk, m4, m6, m5, hT7⟩
   | 4, hq, hSk =>
    obtain rfl := Option.some.inj hq
    have hkg := setK_get (k' := kk) hk
    have e : (Bx 32 1 A5 [.slice A n c] :: Bx 32 1 A4 vs :: (mat 34 2 A n c rs xss ++ (B2 ++ (B1 ++ ks.set ix kk)))) = (Bx 32 1 A5 [.slice A n c] :: Bx 32 1 A4 vs :: (mat 34 2 A n c rs xss ++ (B2 ++ B1))) ++ ks.set ix kk := by simp
    have hX0 := hT
    rw [e] at hX0
    refine Ops.call (l01DrawX_c _ ix N hX0 hkg hkk (by omega)) rfl (by exact two_eq (p1 (deps_of hd 1 rfl)) (p3 (deps_of hd 3 rfl))) rfl ?_
    rintro _ w7 ⟨Ap, cp, ps, k7, rfl, hps, hK7, hT7⟩
    rw [List.set_set] at hT7
    have hT8 : St w0 w7 (Bx 32 1 A5 [.slice A n c] :: Bx 32 1 A4 vs :: (mat 34 2 A n c rs xss ++ (B2 ++ ([CkI 2 Ap N cp ps] ++ ks.set ix k7)))) := by
     refine (hT7.sub (ks' := CkI 2 Ap N cp ps :: Bx 32 1 A5 [.slice A n c] :: Bx 32 1 A4 vs :: ((mat 34 2 A n c rs xss ++ B2) ++ ks.set ix k7)) ?_).perm ?_
     ·rw [← List.append_assoc (mat 34 2 A n c rs xss)]
      exact List.Sublist.cons_cons _ (List.Sublist.cons_cons _ (List.Sublist.cons_cons _ ((List.sublist_append_left _ _).append (List.Sublist.refl _))))
     ·rw [← List.append_assoc (mat 34 2 A n c rs xss)]
      exact (List.Perm.swap _ _ _).trans (List.Perm.cons _ ((List.Perm.swap _ _ _).trans (List.Perm.cons _ List.perm_middle.symm)))
    refine Ops.nil ?_
    exact ⟨f0, f4, f5, p0, p1, p2, p3, [CkI 2 Ap N cp ps], B2, k7, vs, hK7, fun _ => ⟨Ap, cp, ps, rfl, hps, rfl⟩, m6, m5, hT8⟩
   | 5, hq, hSk =>
    obtain rfl := Option.some.inj hq
    obtain ⟨Ap, cp, ps, h16, hps, rfl⟩ := m4 (deps_of hd 4 rfl)
    have n6 : S 6 = false := by
     cases h : S 6 with
     | false => rfl
     | true => rw [← hSk]; exact (deps_of (hcl 6 _ h rfl) 5 rfl).symm
    have hP : RdI w6 Ap N ps := ((hT.sub ((((List.sublist_append_right _ _).trans (List.sublist_append_right _ _)).cons _).cons _) : St w0 w6 (CkI 2 Ap N cp ps :: ks.set ix kk))).rdI 0 rfl
    refine Ops.call (l02Renumber_c A n c rs xss N Ap cp ps w6 hX (by omega) hG.sys (by omega) hP (fun x h0 h1 => hps.gi h0 h1)) rfl (by exact two_eq (p0 (deps_of hd 0 rfl)) h16) rfl ?_
    rintro _ w7 ⟨A', c', rs', rfl, hrl', hT'⟩
    have hT8 : St w0 w7 (Bx 32 1 A5 [.slice A n c] :: Bx 32 1 A4 vs :: (mat 34 2 A n c rs xss ++ (mat 34 2 A' n c' rs' (xss.map (renI N ps)) ++ ([CkI 2 Ap N cp ps] ++ ks.set ix kk)))) := by
     refine ((hT.sub (ks' := Bx 32 1 A5 [.slice A n c] :: Bx 32 1 A4 vs :: (mat 34 2 A n c rs xss ++ ([CkI 2 Ap N cp ps] ++ ks.set ix kk))) ?_).call hT').perm ?_
     ·exact List.Sublist.cons_cons _ (List.Sublist.cons_cons _ ((List.Sublist.refl _).append (List.sublist_append_right _ _)))
     ·refine (List.perm_middle (l₁ := mat 34 2 A' n c' rs' (xss.map (renI N ps)))).trans (List.Perm.cons _ ((List.perm_middle (l₁ := mat 34 2 A' n c' rs' (xss.map (renI N ps)))).trans (List.Perm.cons _ ?_)))
      rw [← List.append_assoc (mat 34 2 A' n c' rs' (xss.map (renI N ps))) (mat 34 2 A n c rs xss), ← List.append_assoc (mat 34 2 A n c rs xss) (mat 34 2 A' n c' rs' (xss.map (renI N ps)))]
      exact List.perm_append_comm.append_right _
    refine Ops.nil ?_
    exact ⟨f0, f4, f5, p0, p1, p2, p3, [CkI 2 Ap N cp ps], mat 34 2 A' n c' rs' (xss.map (renI N ps)), kk, vs, hkk, fun _ => ⟨Ap, cp, ps, h16, hps, rfl⟩, m6, fun _ => ⟨A', c', rs', _, rfl, hrl', by simp [hxl], hG.ren hps, rfl, fun h => (nomatch n6.symm.trans h)⟩, hT8⟩
   | 6, hq, hSk =>
    obtain rfl := Option.some.inj hq
    obtain ⟨A', c', rs', xss', h17, hrl', hxl', hG', rfl, _⟩ := m5 (deps_of hd 5 rfl)
    obtain rfl := m6 hSk
    refine Ops.st_agg 1 1 hT rfl (by exact f4) (by exact h17) rfl rfl rfl rfl ?_
    intro w7 hT7
    refine Ops.nil ?_
    exact ⟨f0, f4, f5, p0, p1, p2, p3, B1, _, kk, [.slice A' n c'], hkk, m4, fun h => (nomatch (show true = false from h)), fun _ => ⟨A', c', rs', xss', h17, hrl', hxl', hG', rfl, fun _ => rfl⟩, hT7⟩
   | i + 7, hq, _ => exact (nomatch hq)
  ·intro S e1 w6 hall hI
   obtain ⟨f0, f4, f5, p0, p1, p2, p3, B1, B2, kk, vs, hkk, m4, m6, m5, hT⟩ := hI
   obtain ⟨A', c', rs', xss', h17, hrl', hxl', hG', rfl, hvs⟩ := m5 (hall 5 (by decide))
   obtain rfl := hvs (hall 6 (by decide))
   refine postQ_ext (F := [(4, .pointer A4)]) ⟨f4, trivial⟩ ?_
   refine thenQ_n ?_
   refine Cd.ret ?_
   refine thenQ_r ?_
   skip
   refine retc_r rfl (hT.rd 1 rfl) ?_
   exact ⟨n, N, A', c', rs', xss', kk, rfl, hn, hN, hrl', hxl', hG', hkk, hT.tail.tail.sub (((List.Sublist.refl _).append (List.sublist_append_right _ _)).trans (List.sublist_append_right _ _))⟩
 ·refine Cd.skip ?_
  refine thenQ_n ?_
  refine Cd.seq ?_
  refine Cd.region ?_
  refine Ops.ld_agg 0 (hS5.rd 0 rfl) rfl rfl rfl ?_
  skip
  refine Ops.st_agg 1 1 hS5 rfl rfl rfl rfl rfl rfl rfl ?_
  intro w6 hS6
  refine Ops.nil ?_
  refine thenQ_n ?_
  refine Cd.ret ?_
  skip
  refine retc_r rfl (hS6.rd 1 rfl) ?_
  exact ⟨n, N, A, c, rs, xss, k2, rfl, hn, hN, hrl, hxl, hG, hK2, hS6.tail.tail⟩
end Go.Proofs.YtjpkmpihmilgoaaGreat.Vc
/-
 The walks of the program's forms, and of comparisons on both sides. Conditions: as each states them.
-/
namespace Go.Proofs.YtjpkmpihmilgoaaGreat.Vc
open Go.RowKit

theorem rowF_len (o b mv : List Int) : (rowF o b mv).length = o.length := by simp [rowF]
end Go.Proofs.YtjpkmpihmilgoaaGreat.Vc
/-
 The walks of comparisons on both sides. Conditions: as each states them.
-/
namespace Go.Proofs.YtjpkmpihmilgoaaGreat.Vc
open Go.RowKit

/-! the program's side -/
/-! the reference's side -/
end Go.Proofs.YtjpkmpihmilgoaaGreat.Vc
/-
 The walk of the law FnExactIsDesk: it returns true. Conditions: as it states them.
-/
namespace Go.Proofs.YtjpkmpihmilgoaaGreat.Vc
open Go.RowKit

end Go.Proofs.YtjpkmpihmilgoaaGreat.Vc
/-
 Plain mathematics of the list of maniplexes: forms put in ascending order one by one, and that there is one such order. Conditions: as each states them. No program in sight.
-/
namespace Go.Proofs.YtjpkmpihmilgoaaGreat.Vc

abbrev Mx := List (List Int)
/-- not behind -/
def leM (a b : Mx) : Prop := ¬ lexCC b a < 0
theorem leM_of {a b : Mx} (h : lexCC a b < 0) : leM a b := fun h' => by rw [lexCC_swap] at h'; omega
theorem leM_cases {a b : Mx} (h : leM a b) : lexCC a b < 0 ∨ a = b := by
 by_cases e : a = b
 ·exact .inr e
 ·left
  unfold leM at h
  rw [lexCC_swap] at h
  have : lexCC a b ≠ 0 := fun h0 => e (lexCC_zero.1 h0)
  omega
theorem leM_trans {a b c : Mx} (h : leM a b) (h' : leM b c) : leM a c := by
 rcases leM_cases h with h | rfl
 ·rcases leM_cases h' with h' | rfl
  ·exact leM_of (lexCC_trans h h')
  ·exact leM_of h
 ·exact h'

/-- how many at the front are less -/
def atM (x : Mx) : List Mx → Nat
 | [] => 0
 | y :: l => if lexCC y x < 0 then atM x l + 1 else 0
/-- x put behind these -/
def insM (x : Mx) (l : List Mx) : List Mx := l.take (atM x l) ++ x :: l.drop (atM x l)
theorem ins_perm {α : Type} (x : α) (l : List α) (k : Nat) : (l.take k ++ x :: l.drop k).Perm (x :: l) := by
 have h : (l.take k ++ x :: l.drop k).Perm (x :: (l.take k ++ l.drop k)) := List.perm_middle
 rwa [List.take_append_drop] at h
theorem insM_perm (x : Mx) (l : List Mx) : (insM x l).Perm (x :: l) := ins_perm x l _
theorem insM_cons (x y : Mx) (l : List Mx) : insM x (y :: l) = if lexCC y x < 0 then y :: insM x l else x :: y :: l := by
 unfold insM
 rw [atM]
 split <;> simp
theorem insM_sorted (x : Mx) : ∀ {l : List Mx}, l.Pairwise leM → (insM x l).Pairwise leM
 | [], _ => by simp [insM, atM]
 | y :: l, h => by
  have h1 := List.pairwise_cons.1 h
  rw [insM_cons]
  split
  ·rename_i hy
   refine List.pairwise_cons.2 ⟨fun z hz => ?_, insM_sorted x h1.2⟩
   rcases List.mem_cons.1 ((insM_perm x l).mem_iff.1 hz) with rfl | hz
   ·exact leM_of hy
   ·exact h1.1 z hz
  ·rename_i hy
   refine List.pairwise_cons.2 ⟨fun z hz => ?_, h⟩
   rcases List.mem_cons.1 hz with rfl | hz
   ·exact hy
   ·exact leM_trans hy (h1.1 z hz)
def ordM (l : List Mx) : List Mx := l.foldl (fun o x => insM x o) []
/-! the list of a rank and a number of flags -/
def formsL (n F : Nat) : List Mx := forms n F (F * n + 1) 0 1 (blank n F)
def Own1 (N : Nat) (xss : Mx) : Prop := ∀ f, f < N → ¬ lexCC (formL N xss (f : Nat)) xss < 0
instance (N : Nat) (xss : Mx) : Decidable (Own1 N xss) := by unfold Own1; exact inferInstance
def ownL (n F : Nat) : List Mx := (formsL n F).filter fun L => decide (Own1 F L)
def listL (n F : Nat) : List Mx := ordM (ownL n F)
end Go.Proofs.YtjpkmpihmilgoaaGreat.Vc
/-
 The walks of the program's least form, and of the reference's numbers of orbits. Conditions: as each states them.
-/
namespace Go.Proofs.YtjpkmpihmilgoaaGreat.Vc
open Go.RowKit
section
variable {P : Program} {N : Nat} {ops : Array Oper} {K : Env → World → Prop} {rest : List Oper} {e : Env} {w : World} {d : Nat} {ty : TypeId} {pos : String} {af : Array Edge}
end

/-! the numbers of orbits -/
def fset (N : Nat) (xss : List (List Int)) : Nat → List (List (List Int))
 | 0 => []
 | k + 1 => if formL N xss k ∈ fset N xss k then fset N xss k else fset N xss k ++ [formL N xss k]
theorem fset_le (N : Nat) (xss : List (List Int)) : ∀ k, (fset N xss k).length ≤ k
 | 0 => Nat.le_refl _
 | k + 1 => by
  have := fset_le N xss k
  simp only [fset]
  split
  ·omega
  ·simp; omega
def orbN (N : Nat) (xss : List (List Int)) : Nat := if Own1 N xss then (fset N xss N).length else 0

end Go.Proofs.YtjpkmpihmilgoaaGreat.Vc
/-
 The reference's list of a rank and a number of flags, with the numbers of orbits. Conditions: the rank and the number are within their bounds.
-/
namespace Go.Proofs.YtjpkmpihmilgoaaGreat.Vc
open Go.RowKit

section
variable {P : Program} {N : Nat} {ops : Array Oper} {K : Env → World → Prop} {rest : List Oper} {e : Env} {w0 w w' : World} {ks : List Ck} {d : Nat} {ty : TypeId} {pos : String} {af : Array Edge}
end
theorem RdR.drop {w : World} {A : Option Addr} {n c l : Nat} {xs : List SlV} (h : RdR w A n xs) (hl : l ≤ n) (hc : n ≤ c) : RdR w (cutAt A c l) (n - l) (xs.drop l) := by
 have := h.cut (l := l) (h := n) (c := c) hl (Nat.le_refl _) hc
 rwa [List.take_of_length_le (by rw [List.length_drop, h.1]; omega)] at this

/-! matrices chosen and put in order -/
def insV (m : MatV) (l : List MatV) : List MatV := l.take (atM m.xss (l.map (·.xss))) ++ m :: l.drop (atM m.xss (l.map (·.xss)))
def selV (F : Nat) (ms : List MatV) : List MatV := ms.filter fun m => decide (Own1 F m.xss)
def orbI (F : Nat) (m : MatV) : Int := (orbN F m.xss : Int)
end Go.Proofs.YtjpkmpihmilgoaaGreat.Vc
/-
 The draws of maniplexes, walked: a maniplex drawn and perhaps spoiled. Conditions: as each states them.
-/
namespace Go.Proofs.YtjpkmpihmilgoaaGreat.Vc
open Go.RowKit

/-- an answer: rows of numbers in memory of its own, not always a maniplex; the source stays one -/
def AnsS (w0 : World) (ks : List Ck) (ix : Nat) (As : Option Addr) (v : Value) (w' : World) : Prop :=
 ∃ (n : Nat) (A : Option Addr) (c : Nat) (rs : List SlV) (xss : List (List Int)) (X : List Ck) (k' : Ck), v = .agg #[.slice A n c] ∧ n ≤ 6 ∧ (n ≤ c ∧ c ≤ 9223372036854775807) ∧ (∀ p ∈ xss, p.length ≤ 20001 ∧ ∀ x ∈ p, -1 ≤ x ∧ x ≤ 20001) ∧ srcK w0 As k' ∧ (∀ (w'' : World) (Y : List Ck), St w0 w'' (X ++ Y) → RowsI w'' A n rs xss) ∧ St w0 w' (X ++ ks.set ix k')

theorem getD_drop1 {α : Type} (d : α) (xs : List α) (i : Nat) : (xs.drop 1).getD i d = xs.getD (i + 1) d := by
 cases xs with
 | nil => rfl
 | cons a r => rfl
theorem RowsI.drop1 {w : World} {A : Option Addr} {n c : Nat} {rs : List SlV} {xss : List (List Int)} (h : RowsI w A n rs xss) (hn : 1 ≤ n) (hc : n ≤ c) : RowsI w (cutAt A c 1) (n - 1) (rs.drop 1) (xss.drop 1) := by
 refine ⟨h.top.drop hn hc, by rw [List.length_drop, h.len], fun i hi => ?_, fun i hi => ?_⟩
 ·rw [getD_drop1, getD_drop1]; exact h.row (i + 1) (by omega)
 ·rw [getD_drop1]; exact h.cap (i + 1) (by omega)

/-- how far the open statement is (a row more) -/
structure Sp1 (w0 : World) (ks : List Ck) (ix : Nat) (As A4 A5 : Option Addr) (n N : Nat) (A : Option Addr) (c : Nat) (rs : List SlV) (xss : List (List Int)) (S : Nat → Bool) (e : Env) (w : World) : Prop where
  f0 : e 0 = .pointer As
  f4 : e 4 = .pointer A4
  f5 : e 5 = .pointer A5
  f6 : e 6 = .int .i64 (N : Int)
  p0 : S 0 = true → e 30 = .pointer (ptrAt A5 0)
  p1 : S 1 = true → e 31 = .slice A n c
  p2 : S 2 = true → e 32 = .pointer As
  p3 : S 3 = true → e 33 = .int .i64 (N : Int)
  p7 : S 7 = true → e 37 = .pointer (ptrAt A5 0)
  mem : ∃ (Am : Option Addr) (cm : Nat) (ps : List Int) (A35 A' : Option Addr) (c' : Nat) (b1 b2 : List Ck) (b3 kk : Ck) (vs : List Value), srcK w0 As kk ∧
    (S 4 = true → e 34 = .slice Am N cm ∧ Rg N ps ∧ b1 = [CkI 2 Am N cm ps]) ∧
    (S 5 = true → e 35 = .slice A35 1 1 ∧ b2 = [CkR 34 A35 1 1 [⟨Am, N, cm⟩]]) ∧
    (S 6 = false → b3 = CkR 34 A n c rs) ∧
    (S 6 = true → e 36 = .slice A' (n + 1) c' ∧ b3 = CkR 34 A' (n + 1) c' (rs ++ [⟨Am, N, cm⟩])) ∧
    (S 8 = false → vs = [.slice A n c]) ∧
    (S 8 = true → vs = [.slice A' (n + 1) c']) ∧
    St w0 w (Bx 32 1 A5 vs :: Bx 32 1 A4 [.slice none 0 0] :: b3 :: (rowsCk 2 rs xss ++ (b2 ++ (b1 ++ ks.set ix kk))))
theorem l01MatchingX_c {w0 w : World} {ks : List Ck} (X : List Ck) (ix : Nat) {As : Option Addr} {k : Ck} (n : Nat) (hS : St w0 w (X ++ ks)) (hk : ks[ix]? = some k) (hK : srcK w0 As k) (hn : n ≤ 1000000) :
  Ret Tryz.prog 154 [.pointer As, .int .i64 (n : Int)] w (fun v w' => ∃ A c xs k', v = .slice A n c ∧ Rg n xs ∧ srcK w0 As k' ∧ St w0 w' (CkI 2 A n c xs :: (X ++ ks.set ix k'))) := by
 have e : (X ++ ks)[X.length + ix]? = some k := by
  rw [List.getElem?_append_right (by omega), Nat.add_sub_cancel_left]; exact hk
 refine (l01Matching_c (X.length + ix) n hS e hK hn).mono ?_
 rintro v w' ⟨A, c, xs, k', h1, h2, h3, h4⟩
 rw [show (X ++ ks).set (X.length + ix) k' = X ++ ks.set ix k' from by rw [List.set_append, if_neg (by omega), Nat.add_sub_cancel_left]] at h4
 exact ⟨A, c, xs, k', h1, h2, h3, h4⟩
theorem notyet {S : Nat → Bool} {j k : Nat} (hSk : S k = false) (h : S j = true → S k = true) : S j = false := by
 cases hj : S j with
 | false => rfl
 | true => rw [← hSk]; exact (h hj).symm

/-- how far the open statement is (an entry turned) -/
structure Sp0 (w0 : World) (ks : List Ck) (ix : Nat) (As A4 A5 : Option Addr) (n N : Nat) (A : Option Addr) (c : Nat) (a0 : Option Addr) (c0 : Nat) (rs1 : List SlV) (xss1 : List (List Int)) (S : Nat → Bool) (e : Env) (w : World) : Prop where
  f0 : e 0 = .pointer As
  f4 : e 4 = .pointer A4
  f5 : e 5 = .pointer A5
  f6 : e 6 = .int .i64 (N : Int)
  p0 : S 0 = true → e 16 = .pointer (ptrAt A5 0)
  p1 : S 1 = true → e 17 = .slice A n c
  p2 : S 2 = true → e 18 = .pointer (ptrAt A 0)
  p3 : S 3 = true → e 19 = .slice a0 N c0
  p4 : S 4 = true → e 20 = .pointer As
  p5 : S 5 = true → e 21 = .int .i64 (N : Int)
  p6 : S 6 = true → ∃ r : Int, e 22 = .int .i64 r ∧ 0 ≤ r ∧ r < N
  p7 : S 7 = true → e 23 = .pointer As
  p8 : S 8 = true → e 24 = .int .i64 (N : Int)
  p10 : S 10 = true → ∃ x : Int, e 26 = .int .i64 x ∧ -1 ≤ x ∧ x ≤ 20001
  p11 : S 11 = true → ∃ r : Int, e 27 = .pointer (ptrAt a0 r.toNat) ∧ 0 ≤ r ∧ r < N
  mem : ∃ (y : List Int) (A25 : Option Addr) (b1 : List Ck) (kk : Ck), srcK w0 As kk ∧ (y.length = N ∧ ∀ x ∈ y, -1 ≤ x ∧ x ≤ 20001) ∧
    (S 9 = true → e 25 = .slice A25 3 3 ∧ b1 = [CkI 2 A25 3 3 [-1, (N : Int), 0]]) ∧
    St w0 w (Bx 32 1 A5 [.slice A n c] :: Bx 32 1 A4 [.slice none 0 0] :: CkR 34 A n c (⟨a0, N, c0⟩ :: rs1) :: CkI 2 a0 N c0 y :: (rowsCk 2 rs1 xss1 ++ (b1 ++ ks.set ix kk)))
/-- how far the open statement is (a row longer) -/
structure Sp3 (w0 : World) (ks : List Ck) (ix : Nat) (As A4 A5 : Option Addr) (n N : Nat) (A : Option Addr) (c : Nat) (a0 : Option Addr) (c0 : Nat) (rs1 : List SlV) (x0 : List Int) (xss1 : List (List Int)) (kk : Ck) (S : Nat → Bool) (e : Env) (w : World) : Prop where
  f4 : e 4 = .pointer A4
  f5 : e 5 = .pointer A5
  f6 : e 6 = .int .i64 (N : Int)
  p0 : S 0 = true → e 44 = .pointer (ptrAt A5 0)
  p1 : S 1 = true → e 45 = .slice A n c
  p2 : S 2 = true → e 46 = .pointer (ptrAt A5 0)
  p3 : S 3 = true → e 47 = .slice A n c
  p4 : S 4 = true → e 48 = .pointer (ptrAt A 0)
  p5 : S 5 = true → e 49 = .slice a0 N c0
  p6 : S 6 = true → e 50 = .int .i64 (N : Int)
  p9 : S 9 = true → e 53 = .pointer (ptrAt A 0)
  mem : ∃ (A51 A' : Option Addr) (c' : Nat) (b1 : List Ck) (b3 b4 : Ck),
    (S 7 = true → e 51 = .slice A51 1 1 ∧ b1 = [CkI 2 A51 1 1 [(N : Int)]]) ∧
    (S 8 = false → b3 = CkI 2 a0 N c0 x0) ∧
    (S 8 = true → e 52 = .slice A' (N + 1) c' ∧ b3 = CkI 2 A' (N + 1) c' (x0 ++ [(N : Int)])) ∧
    (S 10 = false → b4 = CkR 34 A n c (⟨a0, N, c0⟩ :: rs1)) ∧
    (S 10 = true → b4 = CkR 34 A n c (⟨A', N + 1, c'⟩ :: rs1)) ∧
    St w0 w (Bx 32 1 A5 [.slice A n c] :: Bx 32 1 A4 [.slice none 0 0] :: b4 :: b3 :: (rowsCk 2 rs1 xss1 ++ (b1 ++ ks.set ix kk)))
theorem l01PickX_c {w0 w : World} {ks : List Ck} (X : List Ck) (ix : Nat) {As : Option Addr} {k : Ck} (A : Option Addr) (n c : Nat) (xs : List Int) (hS : St w0 w (X ++ ks)) (hk : ks[ix]? = some k) (hK : srcK w0 As k) (hR : ∀ k' w', St w0 w' (X ++ ks.set ix k') → RdI w' A n xs) (hn : 0 < n ∧ n ≤ 1000000) :
  Ret Tryz.prog 74 [.pointer As, .slice A n c] w (fun v w' => ∃ (x : Int) (k' : Ck), v = .int .i64 x ∧ x ∈ xs ∧ srcK w0 As k' ∧ St w0 w' (X ++ ks.set ix k')) := by
 have e : (X ++ ks)[X.length + ix]? = some k := by
  rw [List.getElem?_append_right (by omega), Nat.add_sub_cancel_left]; exact hk
 have e2 : ∀ k', (X ++ ks).set (X.length + ix) k' = X ++ ks.set ix k' := fun k' => by rw [List.set_append, if_neg (by omega), Nat.add_sub_cancel_left]
 refine (l01Pick_c (X.length + ix) A n c xs hS e hK (fun k' w' h => hR k' w' (by rwa [e2] at h)) hn).mono ?_
 rintro v w' ⟨x, k', h1, h2, h3, h4⟩
 rw [e2] at h4
 exact ⟨x, k', h1, h2, h3, h4⟩

theorem l02Spoil_c {w0 w : World} {ks : List Ck} (ix : Nat) {As : Option Addr} {k : Ck} (most : Nat) (hS : St w0 w ks) (hk : ks[ix]? = some k) (hK : srcK w0 As k) (hm : 8 ≤ most ∧ most ≤ 1000) :
  Ret Tryz.prog 112 [.pointer As, .int .i64 (most : Int)] w (AnsS w0 ks ix As) := by
 refine Ret.of_cd Tryz.func112 rfl Tryz.ntmps112 rfl (postc rfl rfl) ?_
 refine Cd.seq ?_
 refine Cd.region ?_
 refine Ops.new1 hS rfl ?_
 intro A4 w1 hS1
 refine Ops.nil ?_
 refine thenQ_n ?_
 refine Cd.seq ?_
 refine Cd.region ?_
 refine Ops.mv_ptr rfl rfl rfl ?_
 refine Ops.mv_int rfl rfl rfl ?_
 refine Ops.call (l02Draw_c (ix + 1) most hS1 (by exact hk) hK hm) rfl rfl rfl ?_
 rintro _ w2 ⟨n, N, A, c, rs, xss, k1, rfl, hn, hN, hrl, hxl, hG, hK1, hS2⟩
 skip
 refine Ops.new1 hS2 rfl ?_
 intro A5 w3 hS3
 skip
 refine Ops.st_agg 1 0 hS3 rfl rfl rfl rfl rfl rfl rfl ?_
 intro w4 hS4
 have hS4 : St w0 w4 (Bx 32 1 A5 [.slice A n c] :: (mat 34 2 A n c rs xss ++ (Bx 32 1 A4 [.slice none 0 0] :: ks.set ix k1))) := hS4
 have hS4 : St w0 w4 (Bx 32 1 A5 [.slice A n c] :: Bx 32 1 A4 [.slice none 0 0] :: (mat 34 2 A n c rs xss ++ ks.set ix k1)) := hS4.perm (List.Perm.cons _ List.perm_middle)
 have hk1 := setK_get (k' := k1) hk
 refine Ops.nil ?_
 refine thenQ_n ?_
 refine Cd.seq ?_
 refine Cd.region ?_
 refine Ops.ld_agg 0 (hS4.rd 0 rfl) rfl rfl rfl ?_
 skip
 refine Ops.call (l02Flags_c A n c rs xss w4 (St.rowsI hS4.tail.tail (by omega)) (by omega)) rfl rfl rfl ?_
 rintro _ w5 ⟨rfl, hT⟩
 have hS5 := hS4.later hT.below
 rw [hG.first (by omega)]
 refine Ops.mv_int rfl rfl rfl ?_
 refine Ops.nil ?_
 refine thenQ_n ?_
 refine Cd.seq ?_
 refine Cd.seq ?_
 refine Cd.region ?_
 refine Ops.mv_ptr rfl rfl rfl ?_
 refine Ops.call (srcNextX_c (Bx 32 1 A5 [.slice A n c] :: Bx 32 1 A4 [.slice none 0 0] :: mat 34 2 A n c rs xss) ix 40 hS5 hk1 hK1) rfl rfl rfl ?_
 rintro _ w6 ⟨r, k2, rfl, hr, hK2, hS6⟩
 rw [List.set_set] at hS6
 have hS6 : St w0 w6 (Bx 32 1 A5 [.slice A n c] :: Bx 32 1 A4 [.slice none 0 0] :: (mat 34 2 A n c rs xss ++ ks.set ix k2)) := hS6
 have hk2 := setK_get (k' := k2) hk
 have hcap : n ≤ c ∧ c ≤ 9223372036854775807 := hS6.cap 2 rfl
 have hsp : ∀ p ∈ xss, p.length ≤ 20001 ∧ ∀ x ∈ p, -1 ≤ x ∧ x ≤ 20001 := fun p hp => ⟨by have := (hG p hp).1; omega, fun x hx => by have := (hG p hp).2 x hx; omega⟩
 refine Ops.nil ?_
 refine thenQ_n ?_
 refine Cd.block ?_
 refine Cd.seq ?_
 refine Cd.region ?_
 refine Ops.eql rfl rfl rfl ?_
 refine Ops.mv_bool rfl rfl rfl ?_
 refine Ops.nil ?_
 refine thenQ_n ?_
 refine Cd.cond_p _ rfl (fun h1 => ?_) (fun h1 => ?_)
 ·obtain ⟨r0, rs1, rfl⟩ : ∃ r0 rs1, rs = r0 :: rs1 := by cases rs with | nil => exact absurd hrl (by simp; omega) | cons a b => exact ⟨a, b, rfl⟩
  obtain ⟨x0, xss1, rfl⟩ : ∃ x0 xss1, xss = x0 :: xss1 := by cases xss with | nil => exact absurd hxl (by simp; omega) | cons a b => exact ⟨a, b, rfl⟩
  obtain ⟨a0, n0, c0⟩ := r0
  have hx0 : x0.length = N := (hG x0 (List.mem_cons_self)).1
  have hr0 : x0.length = n0 := ((St.rowsI hS6.tail.tail hxl).at_ (i := 0) (by omega) (by omega)).1
  obtain rfl : n0 = N := by omega
  skip
  refine Cd.drawS (by kernel_rfl) (by kernel_rfl) (fun S e1 w1 => Sp0 w0 ks ix As A4 A5 n n0 A c a0 c0 rs1 xss1 S e1 w1) (fun w7 hb => ⟨rfl, rfl, rfl, rfl, fun h => (nomatch h), fun h => (nomatch h), fun h => (nomatch h), fun h => (nomatch h), fun h => (nomatch h), fun h => (nomatch h), fun h => (nomatch h), fun h => (nomatch h), fun h => (nomatch h), fun h => (nomatch h), fun h => (nomatch h), x0, none, [], k2, hK2, ⟨hx0, (hsp x0 List.mem_cons_self).2⟩, fun h => (nomatch h), hS6.later hb⟩) ?_ ?_
  ·intro S i o e1 w7 hq hSk hd hcl hI
   obtain ⟨f0, f4, f5, f6, p0, p1, p2, p3, p4, p5, p6, p7, p8, p10, p11, y, A25, b1, kk, hkk, hy, m9, hT⟩ := hI
   have hkg := setK_get (k' := kk) hk
   have eX : ∀ Y, (Bx 32 1 A5 [.slice A n c] :: Bx 32 1 A4 [.slice none 0 0] :: CkR 34 A n c (⟨a0, n0, c0⟩ :: rs1) :: CkI 2 a0 n0 c0 y :: (rowsCk 2 rs1 xss1 ++ (b1 ++ Y))) = (Bx 32 1 A5 [.slice A n c] :: Bx 32 1 A4 [.slice none 0 0] :: CkR 34 A n c (⟨a0, n0, c0⟩ :: rs1) :: CkI 2 a0 n0 c0 y :: (rowsCk 2 rs1 xss1 ++ b1)) ++ Y := fun Y => by simp
   have hX0 := hT
   rw [eX] at hX0
   match i, hq, hSk with
   | 0, hq, hSk =>
    obtain rfl := Option.some.inj hq
    refine Ops.fld (hT.rd 0 rfl) (by exact f5) rfl rfl rfl inferInstance ?_
    refine Ops.nil ?_
    exact ⟨f0, f4, f5, f6, fun _ => rfl, p1, p2, p3, p4, p5, p6, p7, p8, p10, p11, y, A25, b1, kk, hkk, hy, m9, hT⟩
   | 1, hq, hSk =>
    obtain rfl := Option.some.inj hq
    refine Ops.ldf_s (hT.rd 0 rfl) (by exact p0 (deps_of hd 0 rfl)) rfl rfl rfl rfl ?_
    refine Ops.nil ?_
    exact ⟨f0, f4, f5, f6, p0, fun _ => rfl, p2, p3, p4, p5, p6, p7, p8, p10, p11, y, A25, b1, kk, hkk, hy, m9, hT⟩
   | 2, hq, hSk =>
    obtain rfl := Option.some.inj hq
    refine Ops.idx (hT.rd 2 rfl) (by exact p1 (deps_of hd 1 rfl)) rfl rfl (by omega) (by show (0 : Int) < (n : Int); omega) ?_
    refine Ops.nil ?_
    exact ⟨f0, f4, f5, f6, p0, p1, fun _ => rfl, p3, p4, p5, p6, p7, p8, p10, p11, y, A25, b1, kk, hkk, hy, m9, hT⟩
   | 3, hq, hSk =>
    obtain rfl := Option.some.inj hq
    refine Ops.ld_sl (i := 0) (hT.rdR 2 rfl) (by exact p2 (deps_of hd 2 rfl)) (by show 0 < n; omega) rfl rfl ?_
    refine Ops.nil ?_
    exact ⟨f0, f4, f5, f6, p0, p1, p2, fun _ => rfl, p4, p5, p6, p7, p8, p10, p11, y, A25, b1, kk, hkk, hy, m9, hT⟩
   | 4, hq, hSk =>
    obtain rfl := Option.some.inj hq
    refine Ops.mv_ptr rfl (by exact f0) rfl ?_
    refine Ops.nil ?_
    exact ⟨f0, f4, f5, f6, p0, p1, p2, p3, fun _ => rfl, p5, p6, p7, p8, p10, p11, y, A25, b1, kk, hkk, hy, m9, hT⟩
   | 5, hq, hSk =>
    obtain rfl := Option.some.inj hq
    refine Ops.mv_int rfl (by exact f6) rfl ?_
    refine Ops.nil ?_
    exact ⟨f0, f4, f5, f6, p0, p1, p2, p3, p4, fun _ => rfl, p6, p7, p8, p10, p11, y, A25, b1, kk, hkk, hy, m9, hT⟩
   | 6, hq, hSk =>
    obtain rfl := Option.some.inj hq
    refine Ops.call (srcNextX_c _ ix (n0 : Int) hX0 hkg hkk) rfl (by exact two_eq (p4 (deps_of hd 4 rfl)) (p5 (deps_of hd 5 rfl))) rfl ?_
    rintro _ w8 ⟨r7, k7, rfl, hr7, hK7, hT7⟩
    rw [List.set_set, ← eX] at hT7
    refine Ops.nil ?_
    exact ⟨f0, f4, f5, f6, p0, p1, p2, p3, p4, p5, fun _ => ⟨r7, rfl, hr7.1, hr7.2.1 (by omega)⟩, p7, p8, p10, p11, y, A25, b1, k7, hK7, hy, m9, hT7⟩
   | 7, hq, hSk =>
    obtain rfl := Option.some.inj hq
    refine Ops.mv_ptr rfl (by exact f0) rfl ?_
    refine Ops.nil ?_
    exact ⟨f0, f4, f5, f6, p0, p1, p2, p3, p4, p5, p6, fun _ => rfl, p8, p10, p11, y, A25, b1, kk, hkk, hy, m9, hT⟩
   | 8, hq, hSk =>
    obtain rfl := Option.some.inj hq
    refine Ops.mv_int rfl (by exact f6) rfl ?_
    refine Ops.nil ?_
    exact ⟨f0, f4, f5, f6, p0, p1, p2, p3, p4, p5, p6, p7, fun _ => rfl, p10, p11, y, A25, b1, kk, hkk, hy, m9, hT⟩
   | 9, hq, hSk =>
    obtain rfl := Option.some.inj hq
    refine Ops.bsL [-1, (n0 : Int), 0] (hT.sub (List.Sublist.cons_cons _ (List.Sublist.cons_cons _ (List.Sublist.cons_cons _ (List.Sublist.cons_cons _ ((List.Sublist.refl _).append (List.sublist_append_right _ _))))))) (by have h24 : e1 24 = .int .i64 (n0 : Int) := p8 (deps_of hd 8 rfl); simp [ev, h24, idxI]) rfl (by decide) (by decide) rfl rfl ?_
    intro A25 w8 hT8
    have hT9 : St w0 w8 (Bx 32 1 A5 [.slice A n c] :: Bx 32 1 A4 [.slice none 0 0] :: CkR 34 A n c (⟨a0, n0, c0⟩ :: rs1) :: CkI 2 a0 n0 c0 y :: (rowsCk 2 rs1 xss1 ++ ([CkI 2 A25 3 3 [-1, (n0 : Int), 0]] ++ ks.set ix kk))) := hT8.perm (List.perm_middle (l₁ := Bx 32 1 A5 [.slice A n c] :: Bx 32 1 A4 [.slice none 0 0] :: CkR 34 A n c (⟨a0, n0, c0⟩ :: rs1) :: CkI 2 a0 n0 c0 y :: rowsCk 2 rs1 xss1)).symm
    refine Ops.nil ?_
    exact ⟨f0, f4, f5, f6, p0, p1, p2, p3, p4, p5, p6, p7, p8, p10, p11, y, A25, _, kk, hkk, hy, fun _ => ⟨rfl, rfl⟩, hT9⟩
   | 10, hq, hSk =>
    obtain rfl := Option.some.inj hq
    obtain ⟨h25, rfl⟩ := m9 (deps_of hd 9 rfl)
    refine Ops.call (l01PickX_c _ ix A25 3 3 [-1, (n0 : Int), 0] hX0 hkg hkk (fun k' w' h => by rw [← eX] at h; exact St.rdI (i := 0) (h.sub (((List.sublist_append_right _ _).cons _).cons _ |>.cons _ |>.cons _)) rfl) (by decide)) rfl (by exact two_eq (p7 (deps_of hd 7 rfl)) h25) rfl ?_
    rintro _ w8 ⟨x, k7, rfl, hx, hK7, hT7⟩
    rw [List.set_set, ← eX] at hT7
    have hxb : -1 ≤ x ∧ x ≤ 20001 := by
     simp only [List.mem_cons, List.not_mem_nil, or_false] at hx
     rcases hx with rfl | rfl | rfl <;> omega
    refine Ops.nil ?_
    exact ⟨f0, f4, f5, f6, p0, p1, p2, p3, p4, p5, p6, p7, p8, fun _ => ⟨x, rfl, hxb⟩, p11, y, A25, _, k7, hK7, hy, fun _ => ⟨h25, rfl⟩, hT7⟩
   | 11, hq, hSk =>
    obtain rfl := Option.some.inj hq
    obtain ⟨r, h22, hr⟩ := p6 (deps_of hd 6 rfl)
    refine Ops.idx (hT.rd 3 rfl) (by exact p3 (deps_of hd 3 rfl)) (by exact h22) rfl (by omega) (by show r < (n0 : Int); omega) ?_
    refine Ops.nil ?_
    exact ⟨f0, f4, f5, f6, p0, p1, p2, p3, p4, p5, p6, p7, p8, p10, fun _ => ⟨r, rfl, hr⟩, y, A25, b1, kk, hkk, hy, m9, hT⟩
   | 12, hq, hSk =>
    obtain rfl := Option.some.inj hq
    obtain ⟨r, h27, hr⟩ := p11 (deps_of hd 11 rfl)
    obtain ⟨x, h26, hx⟩ := p10 (deps_of hd 10 rfl)
    refine Ops.st_int 3 hT rfl (by exact h27) (by exact h26) (by omega) ?_
    intro w8 hT8
    refine Ops.nil ?_
    exact ⟨f0, f4, f5, f6, p0, p1, p2, p3, p4, p5, p6, p7, p8, p10, p11, y.set r.toNat x, A25, b1, kk, hkk, ⟨by rw [List.length_set]; exact hy.1, fun z hz => (List.mem_or_eq_of_mem_set hz).elim (hy.2 z) (fun h => h ▸ hx)⟩, m9, hT8⟩
   | i + 13, hq, _ => exact (nomatch hq)
  ·intro S e1 w7 hall hI
   obtain ⟨f0, f4, f5, f6, p0, p1, p2, p3, p4, p5, p6, p7, p8, p10, p11, y, A25, b1, kk, hkk, hy, m9, hT⟩ := hI
   refine postQ_ext (F := [(4, .pointer A4), (5, .pointer A5)]) ⟨f4, f5, trivial⟩ ?_
   refine blockQ_n ?_
   refine thenQ_n ?_
   refine Cd.seq ?_
   refine Cd.region ?_
   refine Ops.ld_agg 0 (hT.rd 0 rfl) rfl rfl rfl ?_
   skip
   refine Ops.st_agg 1 1 hT rfl rfl rfl rfl rfl rfl rfl ?_
   intro w20 hS20
   refine Ops.nil ?_
   refine thenQ_n ?_
   refine Cd.ret ?_
   skip
   refine retc_r rfl (hS20.rd 1 rfl) ?_
   exact ⟨n, A, c, ⟨a0, n0, c0⟩ :: rs1, y :: xss1, mat 34 2 A n c (⟨a0, n0, c0⟩ :: rs1) (y :: xss1), kk, rfl, by omega, hcap, fun p hp => (List.mem_cons.1 hp).elim (fun h => h ▸ ⟨by omega, hy.2⟩) (fun h => hsp p (List.mem_cons_of_mem _ h)), hkk, fun w'' Y h => St.rowsI h (by simpa using hxl), hS20.tail.tail.sub (List.Sublist.cons_cons _ (List.Sublist.cons_cons _ ((List.Sublist.refl _).append (List.sublist_append_right _ _))))⟩
 ·refine Cd.seq ?_
  refine Cd.region ?_
  refine Ops.eql rfl rfl rfl ?_
  refine Ops.mv_bool rfl rfl rfl ?_
  refine Ops.nil ?_
  refine thenQ_n ?_
  refine Cd.cond_p _ rfl (fun h2 => ?_) (fun h2 => ?_)
  ·skip
   refine Cd.drawS (by kernel_rfl) (by kernel_rfl) (fun S e1 w1 => Sp1 w0 ks ix As A4 A5 n N A c rs xss S e1 w1) (fun w7 hb => ⟨rfl, rfl, rfl, rfl, fun h => (nomatch h), fun h => (nomatch h), fun h => (nomatch h), fun h => (nomatch h), fun h => (nomatch h), none, 0, [], none, none, 0, [], [], CkR 34 A n c rs, k2, [.slice A n c], hK2, fun h => (nomatch h), fun h => (nomatch h), fun _ => rfl, fun h => (nomatch h), fun _ => rfl, fun h => (nomatch h), hS6.later hb⟩) ?_ ?_
   ·intro S i o e1 w7 hq hSk hd hcl hI
    obtain ⟨f0, f4, f5, f6, p0, p1, p2, p3, p7, Am, cm, ps, A35, A', c', b1, b2, b3, kk, vs, hkk, m4, m5, m6f, m6, m8f, m8, hT⟩ := hI
    match i, hq, hSk with
    | 0, hq, hSk =>
     obtain rfl := Option.some.inj hq
     refine Ops.fld (hT.rd 0 rfl) (by exact f5) rfl rfl rfl inferInstance ?_
     refine Ops.nil ?_
     exact ⟨f0, f4, f5, f6, fun _ => rfl, p1, p2, p3, p7, Am, cm, ps, A35, A', c', b1, b2, b3, kk, vs, hkk, m4, m5, m6f, m6, m8f, m8, hT⟩
    | 1, hq, hSk =>
     obtain rfl := Option.some.inj hq
     obtain rfl := m8f (notyet hSk fun h => deps_of (hcl 8 _ h rfl) 1 rfl)
     refine Ops.ldf_s (hT.rd 0 rfl) (by exact p0 (deps_of hd 0 rfl)) rfl rfl rfl rfl ?_
     refine Ops.nil ?_
     exact ⟨f0, f4, f5, f6, p0, fun _ => rfl, p2, p3, p7, Am, cm, ps, A35, A', c', b1, b2, b3, kk, _, hkk, m4, m5, m6f, m6, m8f, m8, hT⟩
    | 2, hq, hSk =>
     obtain rfl := Option.some.inj hq
     refine Ops.mv_ptr rfl (by exact f0) rfl ?_
     refine Ops.nil ?_
     exact ⟨f0, f4, f5, f6, p0, p1, fun _ => rfl, p3, p7, Am, cm, ps, A35, A', c', b1, b2, b3, kk, vs, hkk, m4, m5, m6f, m6, m8f, m8, hT⟩
    | 3, hq, hSk =>
     obtain rfl := Option.some.inj hq
     refine Ops.mv_int rfl (by exact f6) rfl ?_
     refine Ops.nil ?_
     exact ⟨f0, f4, f5, f6, p0, p1, p2, fun _ => rfl, p7, Am, cm, ps, A35, A', c', b1, b2, b3, kk, vs, hkk, m4, m5, m6f, m6, m8f, m8, hT⟩
    | 4, hq, hSk =>
     obtain rfl := Option.some.inj hq
     have hkg := setK_get (k' := kk) hk
     have n5 : S 5 = false := (notyet hSk fun h => deps_of (hcl 5 _ h rfl) 4 rfl)
     have n6 : S 6 = false := (notyet hSk fun h => deps_of (hcl 6 _ h rfl) 4 rfl)
     have hX0 : St w0 w7 ((Bx 32 1 A5 vs :: Bx 32 1 A4 [.slice none 0 0] :: b3 :: (rowsCk 2 rs xss ++ b2)) ++ ks.set ix kk) := hT.sub (List.Sublist.cons_cons _ (List.Sublist.cons_cons _ (List.Sublist.cons_cons _ (by show List.Sublist ((rowsCk 2 rs xss ++ b2) ++ ks.set ix kk) _; rw [List.append_assoc]; exact (List.Sublist.refl _).append ((List.Sublist.refl _).append (List.sublist_append_right _ _))))))
     refine Ops.call (l01MatchingX_c _ ix N hX0 hkg hkk (by omega)) rfl (by exact two_eq (p2 (deps_of hd 2 rfl)) (p3 (deps_of hd 3 rfl))) rfl ?_
     rintro _ w8 ⟨Am, cm, ps, k7, rfl, hps, hK7, hT7⟩
     rw [List.set_set] at hT7
     have hT8 : St w0 w8 (Bx 32 1 A5 vs :: Bx 32 1 A4 [.slice none 0 0] :: b3 :: (rowsCk 2 rs xss ++ (b2 ++ ([CkI 2 Am N cm ps] ++ ks.set ix k7)))) := by
      have e : (Bx 32 1 A5 vs :: Bx 32 1 A4 [.slice none 0 0] :: b3 :: (rowsCk 2 rs xss ++ (b2 ++ ([CkI 2 Am N cm ps] ++ ks.set ix k7)))) = (Bx 32 1 A5 vs :: Bx 32 1 A4 [.slice none 0 0] :: b3 :: (rowsCk 2 rs xss ++ b2)) ++ (CkI 2 Am N cm ps :: ks.set ix k7) := by simp
      rw [e]
      exact hT7.perm List.perm_middle.symm
     refine Ops.nil ?_
     exact ⟨f0, f4, f5, f6, p0, p1, p2, p3, p7, Am, cm, ps, A35, A', c', [CkI 2 Am N cm ps], b2, b3, k7, vs, hK7, fun _ => ⟨rfl, hps, rfl⟩, fun h => (nomatch n5.symm.trans h), m6f, fun h => (nomatch n6.symm.trans h), m8f, m8, hT8⟩
    | 5, hq, hSk =>
     obtain rfl := Option.some.inj hq
     obtain ⟨h34, hps, rfl⟩ := m4 (deps_of hd 4 rfl)
     have n6 : S 6 = false := (notyet hSk fun h => deps_of (hcl 6 _ h rfl) 5 rfl)
     refine Ops.bs1R (hT.sub (ks' := Bx 32 1 A5 vs :: Bx 32 1 A4 [.slice none 0 0] :: b3 :: (rowsCk 2 rs xss ++ ([CkI 2 Am N cm ps] ++ ks.set ix kk))) (List.Sublist.cons_cons _ (List.Sublist.cons_cons _ (List.Sublist.cons_cons _ ((List.Sublist.refl _).append (List.sublist_append_right _ _)))))) (by exact h34) rfl rfl ?_
     intro A35 w8 hT8
     have hT8 : St w0 w8 (Bx 32 1 A5 vs :: Bx 32 1 A4 [.slice none 0 0] :: b3 :: (rowsCk 2 rs xss ++ ([CkR 34 A35 1 1 [⟨Am, N, cm⟩]] ++ ([CkI 2 Am N cm ps] ++ ks.set ix kk)))) := hT8.perm (List.perm_middle (l₁ := Bx 32 1 A5 vs :: Bx 32 1 A4 [.slice none 0 0] :: b3 :: rowsCk 2 rs xss)).symm
     refine Ops.nil ?_
     exact ⟨f0, f4, f5, f6, p0, p1, p2, p3, p7, Am, cm, ps, A35, A', c', _, [CkR 34 A35 1 1 [⟨Am, N, cm⟩]], b3, kk, vs, hkk, fun _ => ⟨h34, hps, rfl⟩, fun _ => ⟨rfl, rfl⟩, m6f, fun h => (nomatch n6.symm.trans h), m8f, m8, hT8⟩
    | 6, hq, hSk =>
     obtain rfl := Option.some.inj hq
     obtain ⟨h35, rfl⟩ := m5 (deps_of hd 5 rfl)
     obtain rfl := m6f hSk
     have n8 : S 8 = false := (notyet hSk fun h => deps_of (hcl 8 _ h rfl) 6 rfl)
     have hR : RdR w7 A35 1 [⟨Am, N, cm⟩] := St.rdR (i := 0) (hT.sub (ks' := CkR 34 A35 1 1 [⟨Am, N, cm⟩] :: (b1 ++ ks.set ix kk)) (((List.sublist_append_right _ _).cons _).cons _ |>.cons _)) rfl
     refine Ops.appR 2 hT rfl hR (by exact p1 (deps_of hd 1 rfl)) (by exact h35) rfl (by omega) (by omega) rfl ?_
     intro A' c' w8 hT8
     refine Ops.nil ?_
     exact ⟨f0, f4, f5, f6, p0, p1, p2, p3, p7, Am, cm, ps, A35, A', c', b1, _, CkR 34 A' (n + 1) c' (rs ++ [⟨Am, N, cm⟩]), kk, vs, hkk, m4, fun _ => ⟨h35, rfl⟩, fun h => (nomatch (show true = false from h)), fun _ => ⟨rfl, rfl⟩, m8f, fun h => (nomatch n8.symm.trans h), hT8⟩
    | 7, hq, hSk =>
     obtain rfl := Option.some.inj hq
     refine Ops.fld (hT.rd 0 rfl) (by exact f5) rfl rfl rfl inferInstance ?_
     refine Ops.nil ?_
     exact ⟨f0, f4, f5, f6, p0, p1, p2, p3, fun _ => rfl, Am, cm, ps, A35, A', c', b1, b2, b3, kk, vs, hkk, m4, m5, m6f, m6, m8f, m8, hT⟩
    | 8, hq, hSk =>
     obtain rfl := Option.some.inj hq
     obtain ⟨h36, rfl⟩ := m6 (deps_of hd 6 rfl)
     obtain rfl := m8f hSk
     refine Ops.stf 0 hT rfl (by exact p7 (deps_of hd 7 rfl)) (by exact h36) rfl rfl ?_
     intro w8 hT8
     refine Ops.nil ?_
     exact ⟨f0, f4, f5, f6, p0, p1, p2, p3, p7, Am, cm, ps, A35, A', c', b1, b2, _, kk, [.slice A' (n + 1) c'], hkk, m4, m5, m6f, fun _ => ⟨h36, rfl⟩, fun h => (nomatch (show true = false from h)), fun _ => rfl, hT8⟩
    | i + 9, hq, _ => exact (nomatch hq)
   ·intro S e1 w7 hall hI
    obtain ⟨f0, f4, f5, f6, p0, p1, p2, p3, p7, Am, cm, ps, A35, A', c', b1, b2, b3, kk, vs, hkk, m4, m5, m6f, m6, m8f, m8, hT⟩ := hI
    obtain ⟨_, hps, rfl⟩ := m4 (hall 4 (by decide))
    obtain ⟨_, rfl⟩ := m6 (hall 6 (by decide))
    obtain rfl := m8 (hall 8 (by decide))
    have hcap' : n + 1 ≤ c' ∧ c' ≤ 9223372036854775807 := hT.cap 2 rfl
    have hT : St w0 w7 (Bx 32 1 A5 [.slice A' (n + 1) c'] :: Bx 32 1 A4 [.slice none 0 0] :: (mat 34 2 A' (n + 1) c' (rs ++ [⟨Am, N, cm⟩]) (xss ++ [ps]) ++ ks.set ix kk)) := by
     refine (hT.sub (ks' := Bx 32 1 A5 [.slice A' (n + 1) c'] :: Bx 32 1 A4 [.slice none 0 0] :: CkR 34 A' (n + 1) c' (rs ++ [⟨Am, N, cm⟩]) :: (rowsCk 2 rs xss ++ ([CkI 2 Am N cm ps] ++ ks.set ix kk))) (List.Sublist.cons_cons _ (List.Sublist.cons_cons _ (List.Sublist.cons_cons _ ((List.Sublist.refl _).append (List.sublist_append_right _ _)))))).perm ?_
     refine List.Perm.cons _ (List.Perm.cons _ ?_)
     show List.Perm _ (CkR 34 A' (n + 1) c' (rs ++ [⟨Am, N, cm⟩]) :: (rowsCk 2 (rs ++ [⟨Am, N, cm⟩]) (xss ++ [ps]) ++ ks.set ix kk))
     rw [rowsCk_append (by omega), ← List.append_assoc]
     exact List.Perm.refl _
    refine postQ_ext (F := [(4, .pointer A4), (5, .pointer A5)]) ⟨f4, f5, trivial⟩ ?_
    refine blockQ_n ?_
    refine thenQ_n ?_
    refine Cd.seq ?_
    refine Cd.region ?_
    refine Ops.ld_agg 0 (hT.rd 0 rfl) rfl rfl rfl ?_
    skip
    refine Ops.st_agg 1 1 hT rfl rfl rfl rfl rfl rfl rfl ?_
    intro w20 hS20
    refine Ops.nil ?_
    refine thenQ_n ?_
    refine Cd.ret ?_
    skip
    refine retc_r rfl (hS20.rd 1 rfl) ?_
    exact ⟨n + 1, A', c', _, xss ++ [ps], _, kk, rfl, by omega, hcap', fun p hp => (List.mem_append.1 hp).elim (hsp p) (fun h => by rw [List.mem_singleton] at h; subst h; exact ⟨by have := hps.1; omega, fun x hx => by have := hps.2 x hx; omega⟩), hkk, fun w'' Y h => St.rowsI h (by simp [hxl]), hS20.tail.tail⟩
  ·refine Cd.seq ?_
   refine Cd.region ?_
   refine Ops.eql rfl rfl rfl ?_
   refine Ops.mv_bool rfl rfl rfl ?_
   refine Ops.nil ?_
   refine thenQ_n ?_
   refine Cd.cond_p _ rfl (fun h3 => ?_) (fun h3 => ?_)
   ·refine Cd.region ?_
    refine Ops.bs0 hS6 rfl ?_
    intro A40 w7 hS7
    skip
    refine Ops.fld (hS7.rd 1 rfl) rfl rfl rfl rfl inferInstance ?_
    refine Ops.stf 1 hS7 rfl rfl rfl rfl rfl ?_
    intro w8 hS8
    have hS8 : St w0 w8 ([Bx 32 1 A5 [.slice A40 0 0], Bx 32 1 A4 [.slice none 0 0]] ++ (mat 34 2 A40 0 0 [] [] ++ ks.set ix k2)) := by
     refine (hS8.sub (ks' := mat 34 2 A40 0 0 [] [] ++ ([Bx 32 1 A5 [.slice A40 0 0], Bx 32 1 A4 [.slice none 0 0]] ++ ks.set ix k2)) ?_).perm ?_
     ·exact List.Sublist.cons_cons _ (List.Sublist.cons_cons _ (List.Sublist.cons_cons _ (List.sublist_append_right _ _)))
     ·exact (List.perm_middle (l₁ := [_, _])).symm
    refine Ops.nil ?_
    refine blockQ_n ?_
    refine thenQ_n ?_
    refine Cd.seq ?_
    refine Cd.region ?_
    refine Ops.ld_agg 0 (hS8.rd 0 rfl) rfl rfl rfl ?_
    skip
    refine Ops.st_agg 1 1 hS8 rfl rfl rfl rfl rfl rfl rfl ?_
    intro w20 hS20
    refine Ops.nil ?_
    refine thenQ_n ?_
    refine Cd.ret ?_
    skip
    refine retc_r rfl (hS20.rd 1 rfl) ?_
    exact ⟨0, A40, 0, [], [], _, k2, rfl, by omega, by decide, fun p hp => (nomatch hp), hK2, fun w'' Y h => St.rowsI h rfl, hS20.tail.tail⟩
   ·refine Cd.seq ?_
    refine Cd.region ?_
    refine Ops.eql rfl rfl rfl ?_
    refine Ops.mv_bool rfl rfl rfl ?_
    refine Ops.nil ?_
    refine thenQ_n ?_
    refine Cd.cond_p _ rfl (fun h4 => ?_) (fun h4 => ?_)
    ·obtain ⟨r0, rs1, rfl⟩ : ∃ r0 rs1, rs = r0 :: rs1 := by cases rs with | nil => exact absurd hrl (by simp; omega) | cons a b => exact ⟨a, b, rfl⟩
     obtain ⟨x0, xss1, rfl⟩ : ∃ x0 xss1, xss = x0 :: xss1 := by cases xss with | nil => exact absurd hxl (by simp; omega) | cons a b => exact ⟨a, b, rfl⟩
     obtain ⟨a0, n0, c0⟩ := r0
     have hx0 : x0.length = N := (hG x0 (List.mem_cons_self)).1
     have hr0 : x0.length = n0 := ((St.rowsI hS6.tail.tail hxl).at_ (i := 0) (by omega) (by omega)).1
     obtain rfl : n0 = N := by omega
     skip
     refine Cd.drawS (by kernel_rfl) (by kernel_rfl) (fun S e1 w1 => Sp3 w0 ks ix As A4 A5 n n0 A c a0 c0 rs1 x0 xss1 k2 S e1 w1) (fun w7 hb => ⟨rfl, rfl, rfl, fun h => (nomatch h), fun h => (nomatch h), fun h => (nomatch h), fun h => (nomatch h), fun h => (nomatch h), fun h => (nomatch h), fun h => (nomatch h), fun h => (nomatch h), none, none, 0, [], _, _, fun h => (nomatch h), fun _ => rfl, fun h => (nomatch h), fun _ => rfl, fun h => (nomatch h), hS6.later hb⟩) ?_ ?_
     ·intro S i o e1 w7 hq hSk hd hcl hI
      obtain ⟨f4, f5, f6, p0, p1, p2, p3, p4, p5, p6, p9, A51, A', c', b1, b3, b4, m7, m8f, m8, m10f, m10, hT⟩ := hI
      match i, hq, hSk with
      | 0, hq, hSk =>
       obtain rfl := Option.some.inj hq
       refine Ops.fld (hT.rd 0 rfl) (by exact f5) rfl rfl rfl inferInstance ?_
       refine Ops.nil ?_
       exact ⟨f4, f5, f6, fun _ => rfl, p1, p2, p3, p4, p5, p6, p9, A51, A', c', b1, b3, b4, m7, m8f, m8, m10f, m10, hT⟩
      | 1, hq, hSk =>
       obtain rfl := Option.some.inj hq
       refine Ops.ldf_s (hT.rd 0 rfl) (by exact p0 (deps_of hd 0 rfl)) rfl rfl rfl rfl ?_
       refine Ops.nil ?_
       exact ⟨f4, f5, f6, p0, fun _ => rfl, p2, p3, p4, p5, p6, p9, A51, A', c', b1, b3, b4, m7, m8f, m8, m10f, m10, hT⟩
      | 2, hq, hSk =>
       obtain rfl := Option.some.inj hq
       refine Ops.fld (hT.rd 0 rfl) (by exact f5) rfl rfl rfl inferInstance ?_
       refine Ops.nil ?_
       exact ⟨f4, f5, f6, p0, p1, fun _ => rfl, p3, p4, p5, p6, p9, A51, A', c', b1, b3, b4, m7, m8f, m8, m10f, m10, hT⟩
      | 3, hq, hSk =>
       obtain rfl := Option.some.inj hq
       refine Ops.ldf_s (hT.rd 0 rfl) (by exact p2 (deps_of hd 2 rfl)) rfl rfl rfl rfl ?_
       refine Ops.nil ?_
       exact ⟨f4, f5, f6, p0, p1, p2, fun _ => rfl, p4, p5, p6, p9, A51, A', c', b1, b3, b4, m7, m8f, m8, m10f, m10, hT⟩
      | 4, hq, hSk =>
       obtain rfl := Option.some.inj hq
       obtain rfl := m10f (notyet hSk fun h => deps_of (hcl 10 _ h rfl) 4 rfl)
       refine Ops.idx (hT.rd 2 rfl) (by exact p3 (deps_of hd 3 rfl)) rfl rfl (by omega) (by show (0 : Int) < (n : Int); omega) ?_
       refine Ops.nil ?_
       exact ⟨f4, f5, f6, p0, p1, p2, p3, fun _ => rfl, p5, p6, p9, A51, A', c', b1, b3, _, m7, m8f, m8, m10f, m10, hT⟩
      | 5, hq, hSk =>
       obtain rfl := Option.some.inj hq
       obtain rfl := m10f (notyet hSk fun h => deps_of (hcl 10 _ h rfl) 5 rfl)
       refine Ops.ld_sl (i := 0) (hT.rdR 2 rfl) (by exact p4 (deps_of hd 4 rfl)) (by show 0 < n; omega) rfl rfl ?_
       refine Ops.nil ?_
       exact ⟨f4, f5, f6, p0, p1, p2, p3, p4, fun _ => rfl, p6, p9, A51, A', c', b1, b3, _, m7, m8f, m8, m10f, m10, hT⟩
      | 6, hq, hSk =>
       obtain rfl := Option.some.inj hq
       refine Ops.mv_int rfl (by exact f6) rfl ?_
       refine Ops.nil ?_
       exact ⟨f4, f5, f6, p0, p1, p2, p3, p4, p5, fun _ => rfl, p9, A51, A', c', b1, b3, b4, m7, m8f, m8, m10f, m10, hT⟩
      | 7, hq, hSk =>
       obtain rfl := Option.some.inj hq
       refine Ops.bs1I (hT.sub (ks' := Bx 32 1 A5 [.slice A n c] :: Bx 32 1 A4 [.slice none 0 0] :: b4 :: b3 :: (rowsCk 2 rs1 xss1 ++ ks.set ix k2)) (List.Sublist.cons_cons _ (List.Sublist.cons_cons _ (List.Sublist.cons_cons _ (List.Sublist.cons_cons _ ((List.Sublist.refl _).append (List.sublist_append_right _ _))))))) (by exact p6 (deps_of hd 6 rfl)) rfl rfl ?_
       intro A51 w8 hT8
       have hT9 : St w0 w8 (Bx 32 1 A5 [.slice A n c] :: Bx 32 1 A4 [.slice none 0 0] :: b4 :: b3 :: (rowsCk 2 rs1 xss1 ++ ([CkI 2 A51 1 1 [(n0 : Int)]] ++ ks.set ix k2))) := hT8.perm (List.perm_middle (l₁ := Bx 32 1 A5 [.slice A n c] :: Bx 32 1 A4 [.slice none 0 0] :: b4 :: b3 :: rowsCk 2 rs1 xss1)).symm
       refine Ops.nil ?_
       exact ⟨f4, f5, f6, p0, p1, p2, p3, p4, p5, p6, p9, A51, A', c', _, b3, b4, fun _ => ⟨rfl, rfl⟩, m8f, m8, m10f, m10, hT9⟩
      | 8, hq, hSk =>
       obtain rfl := Option.some.inj hq
       obtain ⟨h51, rfl⟩ := m7 (deps_of hd 7 rfl)
       obtain rfl := m8f hSk
       have n10 : S 10 = false := (notyet hSk fun h => deps_of (hcl 10 _ h rfl) 8 rfl)
       have hR : RdI w7 A51 1 [(n0 : Int)] := St.rdI (i := 0) (hT.sub (((List.sublist_append_right _ _).cons _).cons _ |>.cons _ |>.cons _)) rfl
       refine Ops.appI 3 hT rfl hR (by exact p5 (deps_of hd 5 rfl)) (by exact h51) rfl (by omega) (by omega) rfl ?_
       intro A' c' w8 hT8
       refine Ops.nil ?_
       exact ⟨f4, f5, f6, p0, p1, p2, p3, p4, p5, p6, p9, A51, A', c', _, _, b4, fun _ => ⟨h51, rfl⟩, fun h => (nomatch (show true = false from h)), fun _ => ⟨rfl, rfl⟩, m10f, fun h => (nomatch n10.symm.trans h), hT8⟩
      | 9, hq, hSk =>
       obtain rfl := Option.some.inj hq
       obtain rfl := m10f (notyet hSk fun h => deps_of (hcl 10 _ h rfl) 9 rfl)
       refine Ops.idx (hT.rd 2 rfl) (by exact p1 (deps_of hd 1 rfl)) rfl rfl (by omega) (by show (0 : Int) < (n : Int); omega) ?_
       refine Ops.nil ?_
       exact ⟨f4, f5, f6, p0, p1, p2, p3, p4, p5, p6, fun _ => rfl, A51, A', c', b1, b3, _, m7, m8f, m8, m10f, m10, hT⟩
      | 10, hq, hSk =>
       obtain rfl := Option.some.inj hq
       obtain ⟨h52, rfl⟩ := m8 (deps_of hd 8 rfl)
       obtain rfl := m10f hSk
       refine Ops.st_sl (i := 0) 2 hT rfl (by exact p9 (deps_of hd 9 rfl)) (by exact h52) (by show 0 < n; omega) ?_
       intro w8 hT8
       refine Ops.nil ?_
       exact ⟨f4, f5, f6, p0, p1, p2, p3, p4, p5, p6, p9, A51, A', c', b1, _, _, m7, m8f, fun _ => ⟨h52, rfl⟩, fun h => (nomatch (show true = false from h)), fun _ => rfl, hT8⟩
      | i + 11, hq, _ => exact (nomatch hq)
     ·intro S e1 w7 hall hI
      obtain ⟨f4, f5, f6, p0, p1, p2, p3, p4, p5, p6, p9, A51, A', c', b1, b3, b4, m7, m8f, m8, m10f, m10, hT⟩ := hI
      obtain ⟨_, rfl⟩ := m8 (hall 8 (by decide))
      obtain rfl := m10 (hall 10 (by decide))
      refine postQ_ext (F := [(4, .pointer A4), (5, .pointer A5)]) ⟨f4, f5, trivial⟩ ?_
      refine blockQ_n ?_
      refine thenQ_n ?_
      refine Cd.seq ?_
      refine Cd.region ?_
      refine Ops.ld_agg 0 (hT.rd 0 rfl) rfl rfl rfl ?_
      skip
      refine Ops.st_agg 1 1 hT rfl rfl rfl rfl rfl rfl rfl ?_
      intro w20 hS20
      refine Ops.nil ?_
      refine thenQ_n ?_
      refine Cd.ret ?_
      skip
      refine retc_r rfl (hS20.rd 1 rfl) ?_
      exact ⟨n, A, c, ⟨A', n0 + 1, c'⟩ :: rs1, (x0 ++ [(n0 : Int)]) :: xss1, mat 34 2 A n c (⟨A', n0 + 1, c'⟩ :: rs1) ((x0 ++ [(n0 : Int)]) :: xss1), k2, rfl, by omega, hcap, fun p hp => (List.mem_cons.1 hp).elim (fun h => h ▸ ⟨by simp; omega, fun x hx => (List.mem_append.1 hx).elim ((hsp x0 List.mem_cons_self).2 x) (fun h => by rw [List.mem_singleton] at h; omega)⟩) (fun h => hsp p (List.mem_cons_of_mem _ h)), hK2, fun w'' Y h => St.rowsI h (by simpa using hxl), hS20.tail.tail.sub (List.Sublist.cons_cons _ (List.Sublist.cons_cons _ ((List.Sublist.refl _).append (List.sublist_append_right _ _))))⟩
    ·refine Cd.seq ?_
     refine Cd.region ?_
     refine Ops.eql rfl rfl rfl ?_
     refine Ops.mv_bool rfl rfl rfl ?_
     refine Ops.nil ?_
     refine thenQ_n ?_
     refine Cd.cond_p _ rfl (fun h5 => ?_) (fun h5 => ?_)
     ·refine Cd.region ?_
      refine Ops.fld (hS6.rd 0 rfl) rfl rfl rfl rfl inferInstance ?_
      refine Ops.ldf_s (hS6.rd 0 rfl) rfl rfl rfl rfl rfl ?_
      skip
      refine Ops.cut_l rfl rfl rfl (by omega) ?_
      skip
      refine Ops.fld (hS6.rd 0 rfl) rfl rfl rfl rfl inferInstance ?_
      refine Ops.stf 0 hS6 rfl rfl rfl rfl rfl ?_
      intro w7 hS7
      refine Ops.nil ?_
      refine blockQ_n ?_
      refine thenQ_n ?_
      refine Cd.seq ?_
      refine Cd.region ?_
      refine Ops.ld_agg 0 (hS7.rd 0 rfl) rfl rfl rfl ?_
      skip
      refine Ops.st_agg 1 1 hS7 rfl rfl rfl rfl rfl rfl rfl ?_
      intro w20 hS20
      refine Ops.nil ?_
      refine thenQ_n ?_
      refine Cd.ret ?_
      skip
      refine retc_r rfl (hS20.rd 1 rfl) ?_
      exact ⟨n - 1, cutAt A c 1, c - 1, rs.drop 1, xss.drop 1, _, k2, rfl, by omega, by omega, fun p hp => hsp p (List.mem_of_mem_drop hp), hK2, fun w'' Y h => (St.rowsI h hxl).drop1 (by omega) (by omega), hS20.tail.tail⟩
     ·skip
      refine Cd.skip ?_
      refine blockQ_n ?_
      refine thenQ_n ?_
      refine Cd.seq ?_
      refine Cd.region ?_
      refine Ops.ld_agg 0 (hS6.rd 0 rfl) rfl rfl rfl ?_
      skip
      refine Ops.st_agg 1 1 hS6 rfl rfl rfl rfl rfl rfl rfl ?_
      intro w20 hS20
      refine Ops.nil ?_
      refine thenQ_n ?_
      refine Cd.ret ?_
      skip
      refine retc_r rfl (hS20.rd 1 rfl) ?_
      exact ⟨n, A, c, rs, xss, _, k2, rfl, by omega, hcap, hsp, hK2, fun w'' Y h => St.rowsI h hxl, hS20.tail.tail⟩
end Go.Proofs.YtjpkmpihmilgoaaGreat.Vc
/-
 The draws of maniplexes, walked: rotations drawn. Conditions: as each states them.
-/
namespace Go.Proofs.YtjpkmpihmilgoaaGreat.Vc
open Go.RowKit

theorem l14DrawRotation_c {w0 w : World} {ks : List Ck} (ix : Nat) {As : Option Addr} {k : Ck} (most : Int) (hS : St w0 w ks) (hk : ks[ix]? = some k) (hK : srcK w0 As k) (hm : most ≤ 100000) :
  Ret Tryz.prog 162 [.pointer As, .int .i64 most] w (fun v w' => ∃ A n c xs k', v = .slice A n c ∧ n ≤ 200000 ∧ Rg n xs ∧ srcK w0 As k' ∧ St w0 w' (CkI 2 A n c xs :: ks.set ix k')) := by
 refine Ret.of_cd Tryz.func162 rfl Tryz.ntmps162 rfl (post1 rfl) ?_
 refine Cd.seq ?_
 refine Cd.region ?_
 refine Ops.mv_sl rfl rfl rfl ?_
 refine Ops.nil ?_
 refine thenQ_n ?_
 refine Cd.seq ?_
 refine Cd.region ?_
 refine Ops.mv_ptr rfl rfl rfl ?_
 refine Ops.mv_int rfl rfl rfl ?_
 refine Ops.maxI rfl rfl rfl ?_
 skip
 refine Ops.call (srcNext_c ix _ hS hk hK) rfl rfl rfl ?_
 rintro _ w1 ⟨r, k1, rfl, hr, hK1, hS1⟩
 have hk1 := setK_get (k' := k1) hk
 obtain ⟨n, hn⟩ : ∃ n : Nat, 2 * (1 + r) = n := ⟨(2 * (1 + r)).toNat, by omega⟩
 refine Ops.add rfl rfl rfl (by omega) ?_
 refine Ops.mul rfl rfl rfl (by omega) ?_
 refine Ops.mv_int rfl rfl rfl ?_
 refine Ops.nil ?_
 refine thenQ_n ?_
 refine Cd.seq ?_
 refine Cd.region ?_
 rw [hn]
 refine Ops.bs0 hS1 rfl ?_
 intro A6 w2 hS2
 have hS2 : St w0 w2 (CkI 2 A6 0 0 [] :: ks.set ix k1) := hS2
 refine Ops.mv_sl rfl rfl rfl ?_
 refine Ops.nil ?_
 refine thenQ_n ?_
 refine Cd.seq ?_
 refine Cd.seq ?_
 refine Cd.region ?_
 refine Ops.mv_int rfl rfl rfl ?_
 refine Ops.nil ?_
 refine thenQ_n ?_
 refine Cd.block ?_
 refine Cd.loop (α := Nat × Option Addr × Nat × List Int × Ck) (fun s => [(0, .pointer As), (5, .int .i64 (n : Int)), (6, .slice s.2.1 s.1 s.2.2.1), (7, .int .i64 (s.1 : Int))]) (fun s w' => St w0 w' (CkI 2 s.2.1 s.1 s.2.2.1 s.2.2.2.1 :: ks.set ix s.2.2.2.2) ∧ Rg s.1 s.2.2.2.1 ∧ srcK w0 As s.2.2.2.2 ∧ s.1 ≤ n) (fun s => n - s.1) (0, A6, 0, [], k1) ⟨rfl, rfl, rfl, rfl, trivial⟩ ⟨hS2, ⟨rfl, fun x hx => (nomatch hx)⟩, hK1, Nat.zero_le _⟩ ?_
 rintro ⟨d, A6, c6, xs, k2⟩ e w3 ⟨hS3, hx, hK2, hd⟩
 dsimp only at hS3 hx hK2 hd ⊢
 have hk2 := setK_get (k' := k2) hk
 refine Cd.seq ?_
 refine Cd.seq ?_
 refine Cd.region ?_
 refine Ops.mv_int rfl rfl rfl ?_
 refine Ops.mv_int rfl rfl rfl ?_
 refine Ops.lss rfl rfl rfl ?_
 refine Ops.nil ?_
 refine thenQ_n ?_
 refine Cd.cond_p _ rfl (fun h1 => ?_) (fun h1 => ?_)
 ·refine Cd.skip ?_
  refine thenQ_n ?_
  refine Cd.seq ?_
  refine Cd.block ?_
  refine Cd.seq ?_
  refine Cd.region ?_
  refine Ops.mv_ptr rfl rfl rfl ?_
  refine Ops.mv_int rfl rfl rfl ?_
  refine Ops.add rfl rfl rfl (by omega) ?_
  refine Ops.call (srcNext_c (ix + 1) ((d : Int) + 1) hS3 (by exact hk2) hK2) rfl rfl rfl ?_
  rintro _ w4 ⟨g, k3, rfl, hg, hK3, hS4⟩
  have hS4 : St w0 w4 (CkI 2 A6 d c6 xs :: (ks.set ix k2).set ix k3) := hS4
  rw [List.set_set] at hS4
  obtain ⟨q, rfl⟩ : ∃ q : Nat, g = q := ⟨g.toNat, by omega⟩
  have hq : q ≤ d := by omega
  refine Ops.mv_int rfl rfl rfl ?_
  refine Ops.nil ?_
  refine thenQ_n ?_
  refine Cd.seq ?_
  refine Cd.region ?_
  refine Ops.mv_int rfl rfl rfl ?_
  refine Ops.bs1I hS4 rfl rfl rfl ?_
  intro A27 w5 hS5
  have hc6 := hS5.cap 1 rfl
  refine Ops.mv_sl rfl rfl rfl ?_
  refine Ops.mv_int rfl rfl rfl ?_
  refine Ops.cut_l rfl rfl rfl (by omega) ?_
  skip
  refine Ops.appI 0 hS5 rfl ((hS5.rdI 1 rfl).drop hq hc6.1) rfl rfl rfl (by omega) (by omega) rfl ?_
  intro A31 c31 w6 hS6
  refine Ops.mv_sl rfl rfl rfl ?_
  refine Ops.nil ?_
  refine thenQ_n ?_
  refine Cd.region ?_
  refine Ops.bs0 hS6 rfl ?_
  intro A32 w7 hS7
  have hc6 : d ≤ c6 ∧ c6 ≤ 9223372036854775807 := hS7.cap 2 rfl
  refine Ops.mv_sl rfl rfl rfl ?_
  refine Ops.mv_int rfl rfl rfl ?_
  refine Ops.cut_h rfl rfl rfl (by omega) ?_
  skip
  refine Ops.appI (xs := []) 0 hS7 rfl ((hS7.rdI 2 rfl).take hq) rfl rfl rfl (by omega) (by omega) rfl ?_
  intro A36 c36 w8 hS8
  refine Ops.mv_sl rfl rfl rfl ?_
  refine Ops.appI 0 hS8 rfl (hS8.rdI 1 rfl) rfl rfl rfl (by omega) (by omega) rfl ?_
  intro A38 c38 w9 hS9
  have hN : 0 + q + (1 + (d - q)) = d + 1 := by omega
  have hS9 : St w0 w9 (CkI 2 A38 (0 + q + (1 + (d - q))) c38 (([] ++ xs.take q) ++ ([(d : Int)] ++ xs.drop q)) :: ks.set ix k3) := hS9.sub (List.Sublist.cons_cons _ (((List.Sublist.refl _).cons _).cons _))
  have hx1 := hx.1
  rw [hN] at hS9
  refine Ops.mv_sl rfl rfl rfl ?_
  refine Ops.nil ?_
  refine blockQ_n ?_
  refine thenQ_n ?_
  refine Cd.region ?_
  refine Ops.mv_int rfl rfl rfl ?_
  refine Ops.add rfl rfl rfl (by omega) ?_
  refine Ops.mv_int rfl rfl rfl ?_
  refine Ops.nil ?_
  refine thenQ_n ?_
  refine ⟨(d + 1, A38, c38, ([] ++ xs.take q) ++ ([(d : Int)] ++ xs.drop q), k3), by show n - (d + 1) < n - d; omega, ⟨rfl, rfl, ?_, rfl, trivial⟩, hS9, ⟨by simp; omega, fun x hx' => ?_⟩, hK3, by show d + 1 ≤ n; omega⟩
  ·exact congrArg (fun z => Value.slice A38 z c38) hN
  ·have hb : x = (d : Int) ∨ x ∈ xs := by
    simp only [List.nil_append, List.mem_append, List.mem_singleton] at hx'
    rcases hx' with h | h | h
    ·exact .inr (List.mem_of_mem_take h)
    ·exact .inl h
    ·exact .inr (List.mem_of_mem_drop h)
   rcases hb with rfl | hb
   ·omega
   ·have := hx.2 x hb; omega
 ·have hdn : d = n := by omega
  refine Cd.exit ?_
  refine thenQ_x ?_
  refine thenQ_x ?_
  refine blockQ_x ?_
  refine thenQ_n ?_
  refine Cd.seq ?_
  refine Cd.region ?_
  refine Ops.mv_sl rfl rfl rfl ?_
  refine Ops.mv_sl rfl rfl rfl ?_
  refine Ops.nil ?_
  refine thenQ_n ?_
  refine Cd.ret ?_
  refine ret1_s rfl ?_
  exact ⟨A6, d, c6, xs, k2, rfl, by omega, hx, hK2, hS3⟩

theorem l14Is_c (A : Option Addr) (n c : Nat) (rs : List SlV) (xss : List (List Int)) (w : World) (hR : RowsI w A n rs xss) (hn : n ≤ 9223372036854775807) :
  Ret Tryz.prog 164 [.agg #[.slice A n c]] w (fun v w' => v = .bool (decide (Mani xss ∧ n = 3)) ∧ St w w' []) := by
 refine Ret.of_cd Tryz.func164 rfl Tryz.ntmps164 rfl (post1 rfl) ?_
 refine Cd.seq ?_
 refine Cd.region ?_
 refine Ops.box1 (St.refl w) rfl rfl ?_
 intro A1 w1 hS1
 refine Ops.mv_bool rfl rfl rfl ?_
 refine Ops.nil ?_
 refine thenQ_n ?_
 refine Cd.seq ?_
 refine Cd.region ?_
 refine Ops.ld_agg 0 (hS1.rd 0 rfl) rfl rfl rfl ?_
 skip
 refine Ops.call (l02Is_c A n c rs xss w1 (hS1.oldRows hR) hn) rfl rfl rfl ?_
 rintro _ w2 ⟨rfl, hT⟩
 have hS2 := hS1.later hT.below
 refine Ops.mv_bool rfl rfl rfl ?_
 refine Ops.split_p 5 rfl (fun h1 => ?_) (fun h1 => ?_)
 ·refine Ops.rung rfl rfl rfl ?_
  refine Ops.fld (hS2.rd 0 rfl) rfl rfl rfl rfl inferInstance ?_
  refine Ops.rung rfl rfl rfl ?_
  refine Ops.ldf_s (hS2.rd 0 rfl) rfl rfl rfl rfl rfl ?_
  refine Ops.rung rfl rfl rfl ?_
  refine Ops.len rfl rfl ?_
  refine Ops.rung rfl rfl rfl ?_
  refine Ops.eql rfl rfl rfl ?_
  refine Ops.pick_t rfl rfl rfl ?_
  refine Ops.mv_bool rfl rfl rfl ?_
  refine Ops.nil ?_
  refine thenQ_n ?_
  refine Cd.ret ?_
  refine ret1_b rfl ?_
  exact ⟨congrArg Value.bool (decide_eq_decide.2 ⟨fun h => ⟨h1, by omega⟩, fun h => by omega⟩), hS2.tail⟩
 ·refine Ops.skipg rfl rfl rfl rfl rfl ?_
  refine Ops.skipg rfl rfl rfl rfl rfl ?_
  refine Ops.skipg rfl rfl rfl rfl rfl ?_
  refine Ops.skipg rfl rfl rfl rfl rfl ?_
  refine Ops.pick_f rfl rfl rfl ?_
  refine Ops.mv_bool rfl rfl rfl ?_
  refine Ops.nil ?_
  refine thenQ_n ?_
  refine Cd.ret ?_
  refine ret1_b rfl ?_
  exact ⟨congrArg Value.bool (Eq.symm (decide_eq_false fun h => h1 h.1)), hS2.tail⟩

theorem IsRotation_c (A : Option Addr) (n c : Nat) (p : List Int) (w : World) (hR : RdI w A n p) (hn : n ≤ 9223372036854775807) :
  Ret Tryz.prog 200 [.slice A n c] w (fun v w' => (∃ b, v = .bool b ∧ (b = true → (2 ≤ n ∧ n ≤ 200) ∧ IsPerm p)) ∧ St w w' []) := by
 refine Ret.of_cd Tryz.func200 rfl Tryz.ntmps200 rfl (post1 rfl) ?_
 refine Cd.seq ?_
 refine Cd.region ?_
 refine Ops.mv_bool rfl rfl rfl ?_
 refine Ops.nil ?_
 refine thenQ_n ?_
 refine Cd.seq ?_
 refine Cd.region ?_
 refine Ops.mv_sl rfl rfl rfl ?_
 refine Ops.len rfl rfl ?_
 refine Ops.geq rfl rfl rfl ?_
 refine Ops.mv_bool rfl rfl rfl ?_
 refine Ops.split_p 6 rfl (fun h1 => ?_) (fun h1 => ?_)
 ·refine Ops.rung rfl rfl rfl ?_
  refine Ops.mv_sl rfl rfl rfl ?_
  refine Ops.rung rfl rfl rfl ?_
  refine Ops.len rfl rfl ?_
  refine Ops.rung rfl rfl rfl ?_
  refine Ops.rem rfl rfl rfl (by omega) ?_
  refine Ops.rung rfl rfl rfl ?_
  refine Ops.eql rfl rfl rfl ?_
  refine Ops.pick_t rfl rfl rfl ?_
  refine Ops.mv_bool rfl rfl rfl ?_
  refine Ops.split_p 12 rfl (fun h2 => ?_) (fun h2 => ?_)
  ·refine Ops.rung rfl rfl rfl ?_
   refine Ops.mv_sl rfl rfl rfl ?_
   refine Ops.rung rfl rfl rfl ?_
   refine Ops.len rfl rfl ?_
   refine Ops.rung rfl rfl rfl ?_
   refine Ops.leq rfl rfl rfl ?_
   refine Ops.pick_t rfl rfl rfl ?_
   refine Ops.mv_bool rfl rfl rfl ?_
   refine Ops.split_p 17 rfl (fun h3 => ?_) (fun h3 => ?_)
   ·refine Ops.rung rfl rfl rfl ?_
    refine Ops.mv_sl rfl rfl rfl ?_
    refine Ops.rung rfl rfl rfl ?_
    refine Ops.call (l01Perm_c A n c p w hR) rfl rfl rfl ?_
    rintro _ w1 ⟨rfl, hT⟩
    refine Ops.pick_t rfl rfl rfl ?_
    refine Ops.mv_bool rfl rfl rfl ?_
    refine Ops.nil ?_
    refine thenQ_n ?_
    refine Cd.ret ?_
    refine ret1_b rfl ?_
    exact ⟨⟨_, rfl, fun h => ⟨by omega, of_decide_eq_true h⟩⟩, hT⟩
   ·refine Ops.skipg rfl rfl rfl rfl rfl ?_
    refine Ops.skipg rfl rfl rfl rfl rfl ?_
    refine Ops.pick_f rfl rfl rfl ?_
    refine Ops.mv_bool rfl rfl rfl ?_
    refine Ops.nil ?_
    refine thenQ_n ?_
    refine Cd.ret ?_
    refine ret1_b rfl ?_
    exact ⟨⟨false, rfl, fun h => (nomatch h)⟩, St.refl w⟩
  ·refine Ops.skipg rfl rfl rfl rfl rfl ?_
   refine Ops.skipg rfl rfl rfl rfl rfl ?_
   refine Ops.skipg rfl rfl rfl rfl rfl ?_
   refine Ops.pick_f rfl rfl rfl ?_
   refine Ops.mv_bool rfl rfl rfl ?_
   refine Ops.skipg rfl rfl rfl rfl rfl ?_
   refine Ops.skipg rfl rfl rfl rfl rfl ?_
   refine Ops.pick_f rfl rfl rfl ?_
   refine Ops.mv_bool rfl rfl rfl ?_
   refine Ops.nil ?_
   refine thenQ_n ?_
   refine Cd.ret ?_
   refine ret1_b rfl ?_
   exact ⟨⟨false, rfl, fun h => (nomatch h)⟩, St.refl w⟩
 ·refine Ops.skipg rfl rfl rfl rfl rfl ?_
  refine Ops.skipg rfl rfl rfl rfl rfl ?_
  refine Ops.skipg rfl rfl rfl rfl rfl ?_
  refine Ops.skipg rfl rfl rfl rfl rfl ?_
  refine Ops.pick_f rfl rfl rfl ?_
  refine Ops.mv_bool rfl rfl rfl ?_
  refine Ops.skipg rfl rfl rfl rfl rfl ?_
  refine Ops.skipg rfl rfl rfl rfl rfl ?_
  refine Ops.skipg rfl rfl rfl rfl rfl ?_
  refine Ops.pick_f rfl rfl rfl ?_
  refine Ops.mv_bool rfl rfl rfl ?_
  refine Ops.skipg rfl rfl rfl rfl rfl ?_
  refine Ops.skipg rfl rfl rfl rfl rfl ?_
  refine Ops.pick_f rfl rfl rfl ?_
  refine Ops.mv_bool rfl rfl rfl ?_
  refine Ops.nil ?_
  refine thenQ_n ?_
  refine Cd.ret ?_
  refine ret1_b rfl ?_
  exact ⟨⟨false, rfl, fun h => (nomatch h)⟩, St.refl w⟩
end Go.Proofs.YtjpkmpihmilgoaaGreat.Vc
/-
 The walk of cloneManiplex. Conditions: as each states them.
-/
namespace Go.Proofs.YtjpkmpihmilgoaaGreat.Vc
open Go.RowKit

/-- what a copy owns while it grows -/
def clK (Ab Ac Ad A : Option Addr) (n c : Nat) (A1 A3 : Option Addr) (k c1 c3 : Nat) (rs1 : List SlV) (rows : List Ck) : List Ck :=
 Bx 32 1 Ad [.slice A1 k c1] :: Bx 32 1 Ac [.slice none 0 0] :: Bx 32 1 Ab [.slice A n c] :: CkR 34 A3 c3 c1 rs1 :: rows

end Go.Proofs.YtjpkmpihmilgoaaGreat.Vc
/-
 The walk of the program's test of a move. Conditions: as each states them.
-/
namespace Go.Proofs.YtjpkmpihmilgoaaGreat.Vc
open Go.RowKit

end Go.Proofs.YtjpkmpihmilgoaaGreat.Vc
/-
 The walk of the program's search for rooted forms. Conditions: as each states them.
-/
namespace Go.Proofs.YtjpkmpihmilgoaaGreat.Vc
open Go.RowKit

/-- what the builder owns -/
def bdK (Ab : Option Addr) (A : Option Addr) (n c F used : Nat) (Al : Option Addr) (nl cl : Nat) (outs : List SlV) (rs : List SlV) (M : List (List Int)) (ks : List Ck) : List Ck :=
 Bx 113 4 Ab [.slice A n c, .int .i64 (F : Int), .int .i64 (used : Int), .slice Al nl cl] :: CkR 32 Al nl cl outs :: (mat 34 2 A n c rs M ++ ks)

end Go.Proofs.YtjpkmpihmilgoaaGreat.Vc
/-
 The walks of the program's list of rooted forms, of its count, and of the law over both. Conditions: as each states them.
-/
namespace Go.Proofs.YtjpkmpihmilgoaaGreat.Vc
open Go.RowKit
section
variable {P : Program} {N : Nat} {ops : Array Oper} {K : Env → World → Prop} {rest : List Oper} {e : Env} {w0 w w' : World} {ks : List Ck} {d : Nat} {ty : TypeId} {pos : String} {af : Array Edge}
end

/-- what the builder owns while its moves grow -/
def rfK (Ab A : Option Addr) (k c F : Nat) (rs : List SlV) : List Ck :=
 Bx 113 4 Ab [.slice A k c, .int .i64 (F : Int), .int .i64 (1 : Int), .slice none 0 0] :: CkR 34 A k c rs :: rowsCk 2 rs (List.replicate k (List.replicate F (-1)))

end Go.Proofs.YtjpkmpihmilgoaaGreat.Vc
