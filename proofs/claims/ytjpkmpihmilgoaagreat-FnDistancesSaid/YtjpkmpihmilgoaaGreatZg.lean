/-
  The texts Cs4, Cs5, Cs6, Cs7, Dc, Dd in one. Conditions: as each part states them.
-/
import Derived.Test.YtjpkmpihmilgoaaGreatZf
import Derived.Test.YtjpkmpihmilgoaaGreatZc
import Derived.Test.YtjpkmpihmilgoaaGreatZd
import Derived.Test.YtjpkmpihmilgoaaGreatZb
/-
 The reference's coset enumeration, walked: a word closed at a coset. Conditions: as each states them.
-/
namespace Go.Proofs.YtjpkmpihmilgoaaGreat.Vc
open Go.RowKit

def closeW (x : PS) (d : Int) : List Int → Option (PS × Int × Int)
 | [] => none
 | [g] => some (x, d, g)
 | g :: g' :: r => match nextP x d g with
  | none => none
  | some (y, e) => closeW y e (g' :: r)
def closeP (x : PS) (c : Int) (ws : List Int) : Option PS :=
 match ws with
 | [] => some x
 | g :: r => match closeW x c (g :: r) with
  | none => none
  | some (y, d, g) => match imageP y d g, imageP y c g with
   | some e, some f => if 0 ≤ e then identP 100000 0 y [e] [c] else if 0 ≤ f then identP 100000 0 y [f] [d] else some ⟨setI (setI y.im d g c) c g d, y.ls⟩
   | _, _ => none

/-- how far the open statement is -/
structure Cl4 (w0 : World) (ks : List Ck) (Ab Ac Aw : Option Addr) (nw cw : Nat) (ws : List Int) (c d : Int) (i : Nat) (x : LS) (y : PS) (d' : Int) (S : Nat → Bool) (e : Env) (w : World) : Prop where
  f1 : e 1 = .int .i64 c
  f2 : e 2 = .slice Aw nw cw
  f3 : e 3 = .pointer Ab
  f6 : e 6 = .pointer Ac
  f7 : e 7 = .int .i64 d
  f8 : e 8 = .int .i64 (i : Int)
  p0 : S 0 = true → e 27 = x.val
  p1 : S 1 = true → e 28 = .int .i64 d
  p2 : S 2 = true → e 29 = .slice Aw nw cw
  p3 : S 3 = true → e 30 = .int .i64 (i : Int)
  p4 : S 4 = true → e 31 = .pointer (ptrAt Aw (i : Int).toNat)
  p5 : S 5 = true → e 32 = .int .i64 (gi ws (i : Int))
  mem : ∃ (X : LS) (bs : List Ck) (Ad : Option Addr), X.ok ∧ (S 6 = false → X = x) ∧ (S 6 = true → X.p = y ∧ e 33 = .tuple #[X.val, .int .i64 d']) ∧ (S 7 = true → e 26 = .tuple #[X.val, .int .i64 d']) ∧ (S 8 = true → e 34 = X.val) ∧ (S 9 = true → e 35 = .int .i64 d') ∧ (S 10 = false → bs = []) ∧
    (S 10 = true → e 9 = .pointer Ad ∧ ((S 11 = false ∧ bs = [Bx 202 3 Ad [.slice none 0 0, .slice none 0 0, .bool false]]) ∨ (S 11 = true ∧ bs = [Bx 202 3 Ad X.cells]))) ∧ (S 12 = true → e 10 = .int .i64 d') ∧
    St w0 w (bs ++ ([Bx 202 3 Ac [.slice none 0 0, .slice none 0 0, .bool false], Bx 202 3 Ab x.cells] ++ (X.cks ++ ks)))

theorem LS.back {w0 w : World} {bs pre ks : List Ck} {x : LS} (h : St w0 w (bs ++ (pre ++ (x.cks ++ ks)))) : St w0 w (x.cks ++ ((bs ++ pre) ++ ks)) := by
 rw [← List.append_assoc] at h
 exact h.toBack
theorem LS.front {w0 w : World} {pre ks : List Ck} {x : LS} (h : St w0 w (x.cks ++ (pre ++ ks))) : St w0 w (pre ++ (x.cks ++ ks)) := h.toBack
theorem LS.front2 {w0 w : World} {bs pre ks : List Ck} {x : LS} (h : St w0 w (x.cks ++ ((bs ++ pre) ++ ks))) : St w0 w (bs ++ (pre ++ (x.cks ++ ks))) := by
 have := h.toBack
 rwa [List.append_assoc] at this
theorem drop_two {l : List Int} {i : Nat} (h : i + 1 < l.length) : l.drop i = gi l (i : Int) :: gi l ((i + 1 : Nat) : Int) :: l.drop (i + 2) := by
 rw [List.drop_eq_getElem_cons (by omega), List.drop_eq_getElem_cons (i := i + 1) (by omega), gi_mem (by omega), gi_mem (by omega)]
theorem drop_one {l : List Int} {i : Nat} (h : i + 1 = l.length) : l.drop i = [gi l (i : Int)] := by
 rw [List.drop_eq_getElem_cons (by omega), gi_mem (by omega), List.drop_eq_nil_of_le (by omega)]

theorem l11Close_c {w0 w : World} {ks : List Ck} (x : LS) (c : Int) (Aw : Option Addr) (nw cw : Nat) (ws : List Int) (y : PS) (hok : x.ok) (hS : St w0 w (x.cks ++ ks)) (hW : ∀ w', St w0 w' ks → RdI w' Aw nw ws) (hnw : nw ≤ 1000000) (hp : closeP x.p c ws = some y) :
  Ret Tryz.prog 223 [x.val, .int .i64 c, .slice Aw nw cw] w (fun v w' => ∃ x' : LS, x'.ok ∧ x'.p = y ∧ v = x'.val ∧ St w0 w' (x'.cks ++ ks)) := by
 have hwl : ws.length = nw := (hW w (hS.sub (List.sublist_append_right _ _))).1
 refine Ret.of_cd Tryz.func223 rfl Tryz.ntmps223 rfl (postc rfl rfl) ?_
 refine Cd.seq ?_
 refine Cd.region ?_
 refine Ops.box3 hS rfl rfl ?_
 intro Ab w1 hS1
 skip
 refine Ops.new3 hS1 rfl ?_
 intro Ac w2 hS2
 have hS2 : St w0 w2 ([Bx 202 3 Ac [.slice none 0 0, .slice none 0 0, .bool false], Bx 202 3 Ab x.cells] ++ (x.cks ++ ks)) := hS2
 refine Ops.nil ?_
 refine thenQ_n ?_
 refine Cd.seq ?_
 refine Cd.seq ?_
 refine Cd.region ?_
 refine Ops.mv_sl rfl rfl rfl ?_
 refine Ops.len rfl rfl ?_
 refine Ops.eql rfl rfl rfl ?_
 refine Ops.nil ?_
 refine thenQ_n ?_
 refine Cd.cond_p _ rfl (fun h1 => ?_) (fun h1 => ?_)
 ·have : ws = [] := List.eq_nil_of_length_eq_zero (by omega)
  subst this
  obtain rfl := Option.some.inj hp
  refine Cd.seq ?_
  refine Cd.region ?_
  refine Ops.ld_agg 2 (hS2.rd 1 rfl) rfl rfl rfl ?_
  skip
  refine Ops.st_agg 3 0 hS2 rfl rfl rfl rfl rfl rfl rfl ?_
  intro w3 hS3
  refine Ops.nil ?_
  refine thenQ_n ?_
  refine Cd.ret ?_
  refine thenQ_r ?_
  skip
  refine retc_r rfl (hS3.rd 0 rfl) ?_
  exact ⟨x, hok, rfl, rfl, (hS3.sub ((List.Sublist.refl _).cons _)).sub ((List.Sublist.refl _).cons _)⟩
 ·obtain ⟨z, d', g', hcw, hfin⟩ : ∃ z d' g', closeW x.p c (ws.drop 0) = some (z, d', g') ∧ (match imageP z d' g', imageP z c g' with
   | some e, some f => if 0 ≤ e then identP 100000 0 z [e] [c] else if 0 ≤ f then identP 100000 0 z [f] [d'] else some ⟨setI (setI z.im d' g' c) c g' d', z.ls⟩
   | _, _ => none) = some y := by
   cases ws with
   | nil => exact absurd (by simpa using hwl.symm) (by omega)
   | cons a r =>
    simp only [closeP] at hp
    split at hp
    ·cases hp
    ·rename_i z d' g' hz
     exact ⟨z, d', g', hz, hp⟩
  clear hp
  refine Cd.skip ?_
  refine thenQ_n ?_
  refine Cd.seq ?_
  refine Cd.region ?_
  refine Ops.mv_int rfl rfl rfl ?_
  refine Ops.mv_int rfl rfl rfl ?_
  refine Ops.nil ?_
  refine thenQ_n ?_
  refine Cd.seq ?_
  refine Cd.seq ?_
  refine Cd.region ?_
  refine Ops.mv_int rfl rfl rfl ?_
  refine Ops.nil ?_
  refine thenQ_n ?_
  refine Cd.block ?_
  refine Cd.loop (α := Nat × LS × Int) (fun s => [(1, .int .i64 c), (2, .slice Aw nw cw), (3, .pointer Ab), (6, .pointer Ac), (7, .int .i64 s.2.2), (8, .int .i64 (s.1 : Int))]) (fun s w' => s.2.1.ok ∧ s.1 < nw ∧ closeW s.2.1.p s.2.2 (ws.drop s.1) = some (z, d', g') ∧ St w0 w' ([Bx 202 3 Ac [.slice none 0 0, .slice none 0 0, .bool false], Bx 202 3 Ab s.2.1.cells] ++ (s.2.1.cks ++ ks))) (fun s => nw - s.1) (0, x, c) ⟨rfl, rfl, rfl, rfl, rfl, rfl, trivial⟩ ⟨hok, by show 0 < nw; omega, hcw, hS2⟩ ?_
  rintro ⟨i, x, d⟩ e w3 ⟨hok, hi, hcw, hS3⟩
  dsimp only at hok hi hcw hS3 ⊢
  refine Cd.seq ?_
  refine Cd.seq ?_
  refine Cd.region ?_
  refine Ops.mv_int rfl rfl rfl ?_
  refine Ops.add rfl rfl rfl (by omega) ?_
  refine Ops.mv_sl rfl rfl rfl ?_
  refine Ops.len rfl rfl ?_
  refine Ops.lss rfl rfl rfl ?_
  refine Ops.nil ?_
  refine thenQ_n ?_
  refine Cd.cond_p _ rfl (fun h2 => ?_) (fun h2 => ?_)
  ·rw [drop_two (by omega)] at hcw
   simp only [closeW] at hcw
   split at hcw
   case h_1 => cases hcw
   rename_i y1 d1 hn
   refine Cd.skip ?_
   refine thenQ_n ?_
   refine Cd.seq ?_
   refine Cd.block ?_
   refine Cd.seq ?_
   refine Cd.drawS (by kernel_rfl) (by kernel_rfl) (fun S e1 w1 => Cl4 w0 ks Ab Ac Aw nw cw ws c d i x y1 d1 S e1 w1) (fun w4 hb => ⟨rfl, rfl, rfl, rfl, rfl, rfl, fun h => (nomatch h), fun h => (nomatch h), fun h => (nomatch h), fun h => (nomatch h), fun h => (nomatch h), fun h => (nomatch h), x, [], none, hok, fun _ => rfl, fun h => (nomatch h), fun h => (nomatch h), fun h => (nomatch h), fun h => (nomatch h), fun _ => rfl, fun h => (nomatch h), fun h => (nomatch h), hS3.later hb⟩) ?_ ?_
   ·intro S k o e1 w4 hk hSk hd hcl hI
    obtain ⟨f1, f2, f3, f6, f7, f8, p0, p1, p2, p3, p4, p5, X, bs, Ad, m0, m1, m2, m3, m4, m5, m6, m7, m8, hT⟩ := hI
    have hRw : RdI w4 Aw nw ws := hW w4 (((hT.sub (List.sublist_append_right _ _)).sub (List.sublist_append_right _ _)).sub (List.sublist_append_right _ _))
    match k, hk, hSk with
    | 0, hk, hSk =>
     obtain rfl := Option.some.inj hk
     refine Ops.ld_agg 2 ((hT.sub (List.sublist_append_right bs _)).rd 1 rfl) (by exact f3) rfl rfl ?_
     refine Ops.nil ?_
     exact ⟨f1, f2, f3, f6, f7, f8, fun _ => rfl, p1, p2, p3, p4, p5, X, bs, Ad, m0, m1, m2, m3, m4, m5, m6, m7, m8, hT⟩
    | 1, hk, hSk =>
     obtain rfl := Option.some.inj hk
     refine Ops.mv_int rfl (by exact f7) rfl ?_
     refine Ops.nil ?_
     exact ⟨f1, f2, f3, f6, f7, f8, p0, fun _ => rfl, p2, p3, p4, p5, X, bs, Ad, m0, m1, m2, m3, m4, m5, m6, m7, m8, hT⟩
    | 2, hk, hSk =>
     obtain rfl := Option.some.inj hk
     refine Ops.mv_sl rfl (by exact f2) rfl ?_
     refine Ops.nil ?_
     exact ⟨f1, f2, f3, f6, f7, f8, p0, p1, fun _ => rfl, p3, p4, p5, X, bs, Ad, m0, m1, m2, m3, m4, m5, m6, m7, m8, hT⟩
    | 3, hk, hSk =>
     obtain rfl := Option.some.inj hk
     refine Ops.mv_int rfl (by exact f8) rfl ?_
     refine Ops.nil ?_
     exact ⟨f1, f2, f3, f6, f7, f8, p0, p1, p2, fun _ => rfl, p4, p5, X, bs, Ad, m0, m1, m2, m3, m4, m5, m6, m7, m8, hT⟩
    | 4, hk, hSk =>
     obtain rfl := Option.some.inj hk
     refine Ops.idx hRw.2 (by exact p2 (deps_of hd 2 rfl)) (by exact p3 (deps_of hd 3 rfl)) rfl (by omega) (by omega) ?_
     refine Ops.nil ?_
     exact ⟨f1, f2, f3, f6, f7, f8, p0, p1, p2, p3, fun _ => rfl, p5, X, bs, Ad, m0, m1, m2, m3, m4, m5, m6, m7, m8, hT⟩
    | 5, hk, hSk =>
     obtain rfl := Option.some.inj hk
     refine Ops.ld_int hRw (by exact p4 (deps_of hd 4 rfl)) (by omega) rfl rfl ?_
     refine Ops.nil ?_
     exact ⟨f1, f2, f3, f6, f7, f8, p0, p1, p2, p3, p4, fun _ => rfl, X, bs, Ad, m0, m1, m2, m3, m4, m5, m6, m7, m8, hT⟩
    | 6, hk, hSk =>
     obtain rfl := Option.some.inj hk
     obtain rfl := m1 hSk
     have n7 : S 7 = false := by
      cases h : S 7 with
      | false => rfl
      | true => rw [← hSk]; exact (deps_of (hcl 7 _ h rfl) 6 rfl).symm
     have n8 : S 8 = false := by
      cases h : S 8 with
      | false => rfl
      | true => rw [← n7]; exact (deps_of (hcl 8 _ h rfl) 7 rfl).symm
     have n9 : S 9 = false := by
      cases h : S 9 with
      | false => rfl
      | true => rw [← n7]; exact (deps_of (hcl 9 _ h rfl) 7 rfl).symm
     have n11 : S 11 = false := by
      cases h : S 11 with
      | false => rfl
      | true => rw [← hSk]; exact (deps_of (hcl 11 _ h rfl) 6 rfl).symm
     have n12 : S 12 = false := by
      cases h : S 12 with
      | false => rfl
      | true => rw [← n11]; exact (deps_of (hcl 12 _ h rfl) 11 rfl).symm
     refine Ops.call (l11Next_c X d (gi ws (i : Int)) y1 d1 m0 (LS.back hT) hn) rfl (by show [e1 27, e1 28, e1 32] = _; rw [p0 (deps_of hd 0 rfl), p1 (deps_of hd 1 rfl), p5 (deps_of hd 5 rfl)]) rfl ?_
     rintro _ w5 ⟨x', hok', hp', rfl, hT'⟩
     refine Ops.nil ?_
     refine ⟨f1, f2, f3, f6, f7, f8, p0, p1, p2, p3, p4, p5, x', bs, Ad, hok', fun h => (nomatch (show true = false from h)), fun _ => ⟨hp', rfl⟩, fun h => ?_, fun h => ?_, fun h => ?_, m6, fun h => ?_, fun h => ?_, LS.front2 hT'⟩
     ·exact (nomatch n7.symm.trans h)
     ·exact (nomatch n8.symm.trans h)
     ·exact (nomatch n9.symm.trans h)
     ·obtain ⟨h9, h10⟩ := m7 h
      refine ⟨h9, .inl ⟨n11, ?_⟩⟩
      rcases h10 with h10 | h10
      ·exact h10.2
      ·exact (nomatch n11.symm.trans h10.1)
     ·exact (nomatch n12.symm.trans h)
    | 7, hk, hSk =>
     obtain rfl := Option.some.inj hk
     refine Ops.mv_tup rfl (by exact (m2 (deps_of hd 6 rfl)).2) rfl ?_
     refine Ops.nil ?_
     exact ⟨f1, f2, f3, f6, f7, f8, p0, p1, p2, p3, p4, p5, X, bs, Ad, m0, m1, m2, fun _ => rfl, m4, m5, m6, m7, m8, hT⟩
    | 8, hk, hSk =>
     obtain rfl := Option.some.inj hk
     refine Ops.extract (by exact m3 (deps_of hd 7 rfl)) rfl rfl ?_
     refine Ops.nil ?_
     exact ⟨f1, f2, f3, f6, f7, f8, p0, p1, p2, p3, p4, p5, X, bs, Ad, m0, m1, m2, m3, fun _ => rfl, m5, m6, m7, m8, hT⟩
    | 9, hk, hSk =>
     obtain rfl := Option.some.inj hk
     refine Ops.extract (by exact m3 (deps_of hd 7 rfl)) rfl rfl ?_
     refine Ops.nil ?_
     exact ⟨f1, f2, f3, f6, f7, f8, p0, p1, p2, p3, p4, p5, X, bs, Ad, m0, m1, m2, m3, m4, fun _ => rfl, m6, m7, m8, hT⟩
    | 10, hk, hSk =>
     obtain rfl := Option.some.inj hk
     obtain rfl := m6 hSk
     have n11 : S 11 = false := by
      cases h : S 11 with
      | false => rfl
      | true => rw [← hSk]; exact (deps_of (hcl 11 _ h rfl) 10 rfl).symm
     refine Ops.new3 hT rfl ?_
     intro Ae w5 hT5
     refine Ops.nil ?_
     exact ⟨f1, f2, f3, f6, f7, f8, p0, p1, p2, p3, p4, p5, X, [Bx 202 3 Ae [.slice none 0 0, .slice none 0 0, .bool false]], Ae, m0, m1, m2, m3, m4, m5, fun h => (nomatch (show true = false from h)), fun _ => ⟨rfl, .inl ⟨n11, rfl⟩⟩, m8, hT5⟩
    | 11, hk, hSk =>
     obtain rfl := Option.some.inj hk
     have hs10 := deps_of hd 10 rfl
     obtain ⟨h9, h10⟩ := m7 hs10
     rcases h10 with ⟨_, rfl⟩ | h10
     ·refine Ops.st_agg 3 0 hT rfl (by exact h9) (by exact m4 (deps_of hd 8 rfl)) rfl rfl rfl rfl ?_
      intro w5 hT5
      refine Ops.nil ?_
      exact ⟨f1, f2, f3, f6, f7, f8, p0, p1, p2, p3, p4, p5, X, [Bx 202 3 Ad X.cells], Ad, m0, m1, m2, m3, m4, m5, fun h => (nomatch hs10.symm.trans h), fun _ => ⟨h9, .inr ⟨rfl, rfl⟩⟩, m8, hT5⟩
     ·exact (nomatch hSk.symm.trans h10.1)
    | 12, hk, hSk =>
     obtain rfl := Option.some.inj hk
     refine Ops.mv_int rfl (by exact m5 (deps_of hd 9 rfl)) rfl ?_
     refine Ops.nil ?_
     exact ⟨f1, f2, f3, f6, f7, f8, p0, p1, p2, p3, p4, p5, X, bs, Ad, m0, m1, m2, m3, m4, m5, m6, m7, fun _ => rfl, hT⟩
    | q + 13, hk, _ => exact (nomatch hk)
   ·intro S e1 w4 hall hI
    obtain ⟨f1, f2, f3, f6, f7, f8, p0, p1, p2, p3, p4, p5, X, bs, Ad, m0, m1, m2, m3, m4, m5, m6, m7, m8, hT⟩ := hI
    obtain ⟨h9, h10⟩ := m7 (hall 10 (by decide))
    rcases h10 with h10 | ⟨_, rfl⟩
    ·exact (nomatch (hall 11 (by decide)).symm.trans h10.1)
    have hy1 := (m2 (hall 6 (by decide))).1
    refine thenQ_ext (F := [(1, .int .i64 c), (2, .slice Aw nw cw), (3, .pointer Ab), (6, .pointer Ac), (7, .int .i64 d), (8, .int .i64 (i : Int)), (9, .pointer Ad), (10, .int .i64 d1)]) ⟨f1, f2, f3, f6, f7, f8, h9, m8 (hall 12 (by decide)), trivial⟩ ?_
    refine thenQ_n ?_
    refine Cd.seq ?_
    refine Cd.region ?_
    refine Ops.ld_agg 2 (hT.rd 0 rfl) rfl rfl rfl ?_
    skip
    refine Ops.st_agg 3 2 hT rfl rfl rfl rfl rfl rfl rfl ?_
    intro w5 hT5
    have hT5 : St w0 w5 (Bx 202 3 Ad X.cells :: ([Bx 202 3 Ac [.slice none 0 0, .slice none 0 0, .bool false], Bx 202 3 Ab X.cells] ++ (X.cks ++ ks))) := hT5
    have hT6 := hT5.tail
    refine Ops.nil ?_
    refine thenQ_n ?_
    refine Cd.seq ?_
    refine Cd.region ?_
    refine Ops.mv_int rfl rfl rfl ?_
    refine Ops.mv_int rfl rfl rfl ?_
    refine Ops.nil ?_
    refine thenQ_n ?_
    refine Cd.seq ?_
    refine Cd.region ?_
    refine Ops.fld (hT6.rd 1 rfl) rfl rfl rfl rfl inferInstance ?_
    refine Ops.ldf_b (hT6.rd 1 rfl) rfl rfl rfl rfl rfl ?_
    refine Ops.nil ?_
    refine thenQ_n ?_
    refine Cd.cond_f rfl ?_
    refine Cd.skip ?_
    refine blockQ_n ?_
    refine thenQ_n ?_
    refine Cd.region ?_
    refine Ops.mv_int rfl rfl rfl ?_
    refine Ops.add rfl rfl rfl (by omega) ?_
    refine Ops.mv_int rfl rfl rfl ?_
    refine Ops.nil ?_
    refine thenQ_n ?_
    refine ⟨(i + 1, X, d1), by show nw - (i + 1) < nw - i; omega, ⟨rfl, rfl, rfl, rfl, rfl, rfl, trivial⟩, m0, by show i + 1 < nw; omega, ?_, hT6⟩
    show closeW X.p d1 (ws.drop (i + 1)) = _
    rw [hy1, List.drop_eq_getElem_cons (by omega), ← gi_mem (by omega)]
    exact hcw
  ·rw [drop_one (by omega)] at hcw
   have hcw := Option.some.inj hcw
   simp only [Prod.mk.injEq] at hcw
   obtain ⟨rfl, rfl, rfl⟩ := hcw
   have hRw : RdI w3 Aw nw ws := hW w3 ((hS3.sub (List.sublist_append_right _ _)).sub (List.sublist_append_right _ _))
   split at hfin
   case h_2 => cases hfin
   rename_i a b ha hb0
   have hI3 := LS.rowsI hok hS3
   have hR3 := LS.rdI hS3
   refine Cd.exit ?_
   refine thenQ_x ?_
   refine thenQ_x ?_
   refine blockQ_x ?_
   refine thenQ_n ?_
   refine Cd.seq ?_
   refine Cd.region ?_
   refine Ops.mv_sl rfl rfl rfl ?_
   refine Ops.mv_sl rfl rfl rfl ?_
   refine Ops.len rfl rfl ?_
   refine Ops.sub rfl rfl rfl (by omega) ?_
   refine Ops.idx hRw.2 rfl rfl rfl (by omega) (by omega) ?_
   have hin : ((nw : Nat) : Int) - 1 = (i : Nat) := by omega
   refine Ops.ld_int hRw rfl (by omega) rfl rfl ?_
   rw [hin]
   generalize gi ws (i : Int) = g at *
   refine Ops.mv_int rfl rfl rfl ?_
   refine Ops.nil ?_
   refine thenQ_n ?_
   refine Cd.seq ?_
   refine Cd.draw [.ex (.agg #[.slice (x.A) (x.n) (x.c), .slice (x.B) (x.m) (x.cB), .bool (false)]), .ex (.int .i64 (d)), .ex (.int .i64 (g)), .ex (.int .i64 (a)), .ex (.agg #[.slice (x.A) (x.n) (x.c), .slice (x.B) (x.m) (x.cB), .bool (false)]), .ex (.int .i64 (c)), .ex (.int .i64 (g)), .ex (.int .i64 (b)), .ex (.int .i64 (a)), .ex (.int .i64 (b))] (by kernel_rfl) (by kernel_rfl) rfl (List.forall_mem_cons.2 ⟨Yd.lasts_ex _, (List.forall_mem_cons.2 ⟨Yd.lasts_ex _, (List.forall_mem_cons.2 ⟨Yd.lasts_ex _, (List.forall_mem_cons.2 ⟨Yd.lasts_ex _, (List.forall_mem_cons.2 ⟨Yd.lasts_ex _, (List.forall_mem_cons.2 ⟨Yd.lasts_ex _, (List.forall_mem_cons.2 ⟨Yd.lasts_ex _, (List.forall_mem_cons.2 ⟨Yd.lasts_ex _, (List.forall_mem_cons.2 ⟨Yd.lasts_ex _, (List.forall_mem_cons.2 ⟨Yd.lasts_ex _, (fun _ h => by cases h)⟩)⟩)⟩)⟩)⟩)⟩)⟩)⟩)⟩)⟩) ⟨?_, ?_, ?_, ?_, ?_, ?_, ?_, ?_, ?_, ?_, trivial⟩ ?_
   ·intro e1 w1 hb hp hun
    refine Ops.ld_agg 2 ((hS3.rd 1 rfl).below hb) rfl rfl rfl ?_
    refine Ops.nil ?_
    exact After.dn (Below.refl _ _) (by exact rfl)
   ·intro e1 w1 hb hp hun
    refine Ops.mv_int rfl rfl rfl ?_
    refine Ops.nil ?_
    exact After.dn (Below.refl _ _) (by exact rfl)
   ·intro e1 w1 hb hp hun
    refine Ops.mv_int rfl rfl rfl ?_
    refine Ops.nil ?_
    exact After.dn (Below.refl _ _) (by exact rfl)
   ·intro e1 w1 hb hp hun
    refine Ops.call (l11Image_c x.rs x.im x.ls d g a _ (hI3.later hb) (hR3.later hb) ha) rfl rfl rfl ?_
    rintro _ w2 ⟨rfl, hst⟩
    refine Ops.nil ?_
    exact After.dn hst.below (by exact rfl)
   ·intro e1 w1 hb hp hun
    refine Ops.ld_agg 2 ((hS3.rd 1 rfl).below hb) rfl rfl rfl ?_
    refine Ops.nil ?_
    exact After.dn (Below.refl _ _) (by exact rfl)
   ·intro e1 w1 hb hp hun
    refine Ops.mv_int rfl rfl rfl ?_
    refine Ops.nil ?_
    exact After.dn (Below.refl _ _) (by exact rfl)
   ·intro e1 w1 hb hp hun
    refine Ops.mv_int rfl rfl rfl ?_
    refine Ops.nil ?_
    exact After.dn (Below.refl _ _) (by exact rfl)
   ·intro e1 w1 hb hp hun
    refine Ops.call (l11Image_c x.rs x.im x.ls c g b _ (hI3.later hb) (hR3.later hb) hb0) rfl rfl rfl ?_
    rintro _ w2 ⟨rfl, hst⟩
    refine Ops.nil ?_
    exact After.dn hst.below (by exact rfl)
   ·intro e1 w1 hb hp hun
    refine Ops.mv_int rfl rfl rfl ?_
    refine Ops.nil ?_
    exact After.dn (Below.refl _ _) (by exact rfl)
   ·intro e1 w1 hb hp hun
    refine Ops.mv_int rfl rfl rfl ?_
    refine Ops.nil ?_
    exact After.dn (Below.refl _ _) (by exact rfl)
   intro u w4 hb4 _
   have hS4 := hS3.later hb4
   refine thenQ_n ?_
   refine Cd.seq ?_
   refine Cd.block ?_
   refine Cd.seq ?_
   refine Cd.region ?_
   refine Ops.mv_int rfl rfl rfl ?_
   refine Ops.geq rfl rfl rfl ?_
   refine Ops.mv_bool rfl rfl rfl ?_
   refine Ops.nil ?_
   refine thenQ_n ?_
   refine Cd.cond_p _ rfl (fun h3 => ?_) (fun h3 => ?_)
   ·rw [if_pos h3] at hfin
    refine Cd.seq ?_
    refine Cd.region ?_
    refine Ops.ld_agg 2 (hS4.rd 1 rfl) rfl rfl rfl ?_
    refine Ops.mv_int rfl rfl rfl ?_
    refine Ops.mv_int rfl rfl rfl ?_
    refine Ops.call (l11Identify_c x a c y 100000 hok (hS4.toBack (pre := [_, _])) hfin) rfl rfl rfl ?_
    rintro _ w5 ⟨x', hok', hp', rfl, hT⟩
    have hT := hT.toBack
    refine Ops.st_agg 3 0 hT rfl rfl rfl rfl rfl rfl rfl ?_
    intro w6 hT6
    refine Ops.nil ?_
    refine thenQ_n ?_
    refine Cd.ret ?_
    refine blockQ_r ?_
    refine thenQ_r ?_
    skip
    refine retc_r rfl (hT6.rd 0 rfl) ?_
    exact ⟨x', hok', hp', rfl, (hT6.sub ((List.Sublist.refl _).cons _)).sub ((List.Sublist.refl _).cons _)⟩
   ·rw [if_neg h3] at hfin
    refine Cd.seq ?_
    refine Cd.region ?_
    refine Ops.mv_int rfl rfl rfl ?_
    refine Ops.geq rfl rfl rfl ?_
    refine Ops.mv_bool rfl rfl rfl ?_
    refine Ops.nil ?_
    refine thenQ_n ?_
    refine Cd.cond_p _ rfl (fun h4 => ?_) (fun h4 => ?_)
    ·rw [if_pos h4] at hfin
     refine Cd.seq ?_
     refine Cd.region ?_
     refine Ops.ld_agg 2 (hS4.rd 1 rfl) rfl rfl rfl ?_
     refine Ops.mv_int rfl rfl rfl ?_
     refine Ops.mv_int rfl rfl rfl ?_
     refine Ops.call (l11Identify_c x b d y 100000 hok (hS4.toBack (pre := [_, _])) hfin) rfl rfl rfl ?_
     rintro _ w5 ⟨x', hok', hp', rfl, hT⟩
     have hT := hT.toBack
     refine Ops.st_agg 3 0 hT rfl rfl rfl rfl rfl rfl rfl ?_
     intro w6 hT6
     refine Ops.nil ?_
     refine thenQ_n ?_
     refine Cd.ret ?_
     refine blockQ_r ?_
     refine thenQ_r ?_
     skip
     refine retc_r rfl (hT6.rd 0 rfl) ?_
     exact ⟨x', hok', hp', rfl, (hT6.sub ((List.Sublist.refl _).cons _)).sub ((List.Sublist.refl _).cons _)⟩
    ·rw [if_neg h4] at hfin
     obtain rfl := Option.some.inj hfin
     have bd : ∀ {z : PS} {c g r : Int}, imageP z c g = some r → 0 ≤ c ∧ c < (z.im.length : Int) ∧ 0 ≤ g ∧ g < ((gl z.im c).length : Int) := fun {z c g r} h => by
      unfold imageP at h
      split at h
      case isFalse => cases h
      rename_i h'; exact h'
     have b1 := bd ha
     have b2 := bd hb0
     have b1 : 0 ≤ d ∧ d < (x.im.length : Int) ∧ 0 ≤ g ∧ g < ((gl x.im d).length : Int) := b1
     have b2 : 0 ≤ c ∧ c < (x.im.length : Int) ∧ 0 ≤ g ∧ g < ((gl x.im c).length : Int) := b2
     have hxn := hok.2.1
     have hxr := hok.1
     obtain ⟨dN, rfl⟩ : ∃ q : Nat, d = q := ⟨d.toNat, by omega⟩
     obtain ⟨cN, rfl⟩ : ∃ q : Nat, c = q := ⟨c.toNat, by omega⟩
     have hI4 := LS.rowsI hok hS4
     have hrd := hI4.at_ (i := (dN : Int)) (by omega) (by omega)
     have hrd1 := hrd.1
     have hS5 : St w0 w4 ([Bx 202 3 Ac [.slice none 0 0, .slice none 0 0, .bool false], Bx 202 3 Ab x.cells, CkI 2 x.B x.m x.cB x.ls] ++ (mat 34 2 x.A x.n x.c x.rs x.im ++ ks)) := hS4
     refine Cd.skip ?_
     refine blockQ_n ?_
     refine thenQ_n ?_
     refine Cd.seq ?_
     refine Cd.region ?_
     refine Ops.fld (hS4.rd 1 rfl) rfl rfl rfl rfl inferInstance ?_
     refine Ops.ldf_s (hS4.rd 1 rfl) rfl rfl rfl rfl rfl ?_
     refine Ops.mv_int rfl rfl rfl ?_
     refine Ops.idx hI4.top.2 rfl rfl rfl (by omega) (by omega) ?_
     refine Ops.ld_sl hI4.top rfl (by omega) rfl rfl ?_
     refine Ops.mv_int rfl rfl rfl ?_
     refine Ops.mv_int rfl rfl rfl ?_
     refine Ops.idx hrd.2 rfl rfl rfl (by omega) (by omega) ?_
     skip
     refine Ops.st_row dN hS5 (by omega) (by omega) rfl rfl (by omega) ?_
     intro w6 hT6
     have hok6 : ({ x with im := x.im.set dN ((gl x.im (dN : Int)).set g.toNat (cN : Int)) } : LS).ok := ⟨hok.1, by show (x.im.set _ _).length = _; rw [List.length_set]; exact hok.2.1, hok.2.2⟩
     generalize hx6 : ({ x with im := x.im.set dN ((gl x.im (dN : Int)).set g.toNat (cN : Int)) } : LS) = x6 at hok6
     have hA6 : x6.A = x.A ∧ x6.n = x.n ∧ x6.c = x.c ∧ x6.rs = x.rs ∧ x6.B = x.B ∧ x6.m = x.m ∧ x6.cB = x.cB ∧ x6.ls = x.ls ∧ x6.im = x.im.set dN ((gl x.im (dN : Int)).set g.toNat (cN : Int)) := by subst hx6; exact ⟨rfl, rfl, rfl, rfl, rfl, rfl, rfl, rfl, rfl⟩
     obtain ⟨q1, q2, q3, q4, q5, q6, q7, q8, q9⟩ := hA6
     have hT6' : St w0 w6 ([Bx 202 3 Ac [.slice none 0 0, .slice none 0 0, .bool false], Bx 202 3 Ab x.cells] ++ (x6.cks ++ ks)) := by
      show St w0 w6 ([Bx _ 3 Ac _, Bx _ 3 Ab x.cells] ++ ((CkI _ x6.B x6.m x6.cB x6.ls :: mat _ _ x6.A x6.n x6.c x6.rs x6.im) ++ ks))
      rw [q1, q2, q3, q4, q5, q6, q7, q8, q9]
      exact hT6
     have hI6 := LS.rowsI hok6 hT6'
     have hrow6 := hI6.at_ (i := (cN : Int)) (by omega) (by omega)
     have eg6 : (gl x6.im (cN : Int)).length = (gl x.im (cN : Int)).length := by
      rw [q9, gl_set (by omega)]
      split
      ·rename_i e; subst e; rw [List.length_set]
      ·rfl
     have hr6 : (rg x6.rs (cN : Int)).n = (gl x.im (cN : Int)).length := by rw [← hrow6.1, eg6]
     refine Ops.nil ?_
     refine thenQ_n ?_
     refine Cd.seq ?_
     refine Cd.region ?_
     refine Ops.fld (hT6'.rd 1 rfl) rfl rfl rfl rfl inferInstance ?_
     refine Ops.ldf_s (hT6'.rd 1 rfl) rfl rfl rfl rfl rfl ?_
     refine Ops.mv_int rfl rfl rfl ?_
     rw [q1, q2, q4] at hI6
     rw [q4] at hrow6 hr6
     refine Ops.idx hI6.top.2 rfl rfl rfl (by omega) (by omega) ?_
     refine Ops.ld_sl hI6.top rfl (by omega) rfl rfl ?_
     refine Ops.mv_int rfl rfl rfl ?_
     refine Ops.mv_int rfl rfl rfl ?_
     refine Ops.idx hrow6.2 rfl rfl rfl (by omega) (by omega) ?_
     skip
     have hT7 : St w0 w6 ([Bx 202 3 Ac [.slice none 0 0, .slice none 0 0, .bool false], Bx 202 3 Ab x.cells, CkI 2 x.B x.m x.cB x.ls] ++ (mat 34 2 x.A x.n x.c x.rs x6.im ++ ks)) := by
      rw [q9]; exact hT6
     refine Ops.st_row cN hT7 (by rw [q9, List.length_set]; omega) (by omega) rfl rfl (by omega) ?_
     intro w8 hT8
     refine Ops.nil ?_
     refine thenQ_n ?_
     refine Cd.seq ?_
     refine Cd.region ?_
     refine Ops.ld_agg 2 (hT8.rd 1 rfl) rfl rfl rfl ?_
     skip
     refine Ops.st_agg 3 0 hT8 rfl rfl rfl rfl rfl rfl rfl ?_
     intro w9 hT9
     refine Ops.nil ?_
     refine thenQ_n ?_
     refine Cd.ret ?_
     skip
     refine retc_r rfl (hT9.rd 0 rfl) ?_
     refine ⟨{ x with im := x6.im.set cN ((gl x6.im (cN : Int)).set g.toNat (dN : Int)) }, ⟨hok.1, by show (x6.im.set _ _).length = _; rw [List.length_set, q9, List.length_set]; exact hok.2.1, hok.2.2⟩, ?_, rfl, (hT9.sub ((List.Sublist.refl _).cons _)).sub ((List.Sublist.refl _).cons _)⟩
     show (⟨x6.im.set cN ((gl x6.im (cN : Int)).set g.toNat (dN : Int)), x.ls⟩ : PS) = _
     rw [q9]
     rfl
end Go.Proofs.YtjpkmpihmilgoaaGreat.Vc
/-
 The reference's coset enumeration, walked: the procedure. Conditions: as each states them.
-/
namespace Go.Proofs.YtjpkmpihmilgoaaGreat.Vc
open Go.RowKit

def runRel (c : Int) : PS → List (List Int) → Option PS
 | x, [] => some x
 | x, w :: r => if 0 ≤ c ∧ c < (x.ls.length : Int) then (if gi x.ls c = c then (match closeP x c w with | none => none | some y => runRel c y r) else some x) else none
def runGen (c : Int) (gens : Nat) : Nat → Nat → PS → Option PS
 | 0, _, _ => none
 | k + 1, g, x => if g < gens then (if 0 ≤ c ∧ c < (x.ls.length : Int) then (if gi x.ls c = c then (match nextP x c (g : Int) with | none => none | some (y, _) => runGen c gens k (g + 1) y) else some x) else none) else some x
def runC (gens : Nat) (rel : List (List Int)) : Nat → Nat → PS → Option PS
 | 0, _, _ => none
 | k + 1, c, x => if c < x.ls.length then (match runRel (c : Int) x rel with | none => none | some y => match runGen (c : Int) gens 100 0 y with | none => none | some z => runC gens rel k (c + 1) z) else some x
def runP (gens : Nat) (rel : List (List Int)) : Option PS :=
 match defP ⟨[], []⟩ gens with
 | none => none
 | some x => runC gens rel 3000 0 x

section
variable {P : Program} {N : Nat} {ops : Array Oper} {K : Env → World → Prop} {rest : List Oper} {e : Env} {w0 w w' : World} {ks : List Ck} {d : Nat} {ty : TypeId} {pos : String} {af : Array Edge}
theorem Ops.bld000 {t : TypeId} {f0 f1 f2 : Field} {z0 z1 z2 y0 y1 y2 : Value} {b b0 b1 b2 : Nat} [Und P t (.struct #[f0, f1, f2])] [Inf P t (.agg #[z0, z1, z2]) 3 b] (hI0 : Inf P f0.type y0 1 b0) (hI1 : Inf P f1.type y1 1 b1) (hI2 : Inf P f2.type y2 1 b2) (ho : f0.offset = 0) (ho1 : f1.offset = 1) (ho2 : f2.offset = 2) (hb : Nat.blt d N = true)
    (hK : Ops P N ops K rest (upd e d (.agg #[z0, z1, z2])) w) : Ops P N ops K (⟨some d, .build t #[], ty, pos, af, none⟩ :: rest) e w := by
  obtain ⟨inf, hi, hz0, hs, hby⟩ := Inf.get P t
  obtain ⟨inf0, hi0, _, hs0, _⟩ := hI0.get P f0.type
  obtain ⟨inf1, hi1, _, hs1, _⟩ := hI1.get P f1.type
  obtain ⟨inf2, hi2, _, hs2, _⟩ := hI2.get P f2.type
  have ez : (Value.agg #[z0, z1, z2]).cells = #[z0, z1, z2] := rfl
  refine .val (w' := w) ?_ hb hK
  simp [execOp, Instr.build, run_underlying (Und.out (P := P) (t := t)), sizeOf, typeInfo, zeroValue, hi, hz0, hi0, hs0, hi1, hs1, hi2, hs2, ez, Instr.fill]
end

theorem l11Run_c (gens : Nat) (Ar : Option Addr) (nr cr : Nat) (rsr : List SlV) (rel : List (List Int)) (A0 : Option Addr) (c0 : Nat) (y : PS) (w : World) (hR : RowsI w Ar nr rsr rel) (hrel : ∀ x ∈ rel, x.length ≤ 1000000) (hnr : nr ≤ 1000000) (hp : runP gens rel = some y) :
  Ret Tryz.prog 219 [.agg #[.int .i64 (gens : Int), .slice Ar nr cr], .slice A0 0 c0] w (fun v w' => ∃ x' : LS, x'.ok ∧ x'.p = y ∧ v = x'.val ∧ St w w' x'.cks) := by
 have hrl := hR.len
 unfold runP at hp
 split at hp
 case h_1 => cases hp
 rename_i x1 hx1
 refine Ret.of_cd Tryz.func219 rfl Tryz.ntmps219 rfl (postc rfl rfl) ?_
 refine Cd.seq ?_
 refine Cd.region ?_
 refine Ops.box2 (St.refl w) rfl rfl ?_
 intro A2 w1 hS1
 skip
 refine Ops.new3 hS1 rfl ?_
 intro A4 w2 hS2
 refine Ops.nil ?_
 refine thenQ_n ?_
 refine Cd.seq ?_
 refine Cd.region ?_
 refine Ops.bld000 (by exact inferInstance) (by exact inferInstance) (by exact inferInstance) rfl rfl rfl rfl ?_
 refine Ops.fld (hS2.rd 1 rfl) rfl rfl rfl rfl inferInstance ?_
 refine Ops.ldf_i (hS2.rd 1 rfl) rfl rfl rfl rfl rfl ?_
 skip
 refine Ops.call (l11Define_c ⟨none, 0, 0, [], [], none, 0, 0, []⟩ gens x1 ⟨rfl, rfl, rfl⟩ ((hS2.nil _).nil _) hx1) rfl rfl rfl ?_
 rintro _ w3 ⟨X, hok, hXp, rfl, hT⟩
 have hT := LS.front (pre := [Bx 202 3 A4 [.slice none 0 0, .slice none 0 0, .bool false], Bx 180 2 A2 [.int .i64 (gens : Int), .slice Ar nr cr]]) (ks := []) hT
 refine Ops.mv_tup rfl rfl rfl ?_
 refine Ops.extract rfl rfl rfl ?_
 refine Ops.extract rfl rfl rfl ?_
 refine Ops.new3 hT rfl ?_
 intro A5 w4 hS4
 skip
 refine Ops.st_agg 3 0 hS4 rfl rfl rfl rfl rfl rfl rfl ?_
 intro w5 hS5
 have hS5 : St w w5 ([Bx 202 3 A5 X.cells, Bx 202 3 A4 [.slice none 0 0, .slice none 0 0, .bool false], Bx 180 2 A2 [.int .i64 (gens : Int), .slice Ar nr cr]] ++ (X.cks ++ [])) := hS5
 refine Ops.mv_int rfl rfl rfl ?_
 refine Ops.nil ?_
 refine thenQ_n ?_
 refine Cd.seq ?_
 refine Cd.seq ?_
 refine Cd.region ?_
 refine Ops.mv_int rfl rfl rfl ?_
 refine Ops.nil ?_
 refine thenQ_n ?_
 refine Cd.block ?_
 refine Cd.loop (α := Unit) (fun _ => [(1, .slice A0 0 c0), (2, .pointer A2), (4, .pointer A4), (5, .pointer A5), (7, .int .i64 0)]) (fun _ w' => w' = w5) (fun _ => 0) () ⟨rfl, rfl, rfl, rfl, rfl, trivial⟩ rfl ?_
 rintro ⟨⟩ e w6 rfl
 refine Cd.seq ?_
 refine Cd.seq ?_
 refine Cd.region ?_
 refine Ops.mv_int rfl rfl rfl ?_
 refine Ops.mv_sl rfl rfl rfl ?_
 refine Ops.len rfl rfl ?_
 refine Ops.lss rfl rfl rfl ?_
 refine Ops.mv_bool rfl rfl rfl ?_
 refine Ops.split_p 24 rfl (fun h => absurd h (by decide)) (fun _ => ?_) --f
 refine Ops.skipg rfl rfl rfl rfl rfl ?_
 refine Ops.skipg rfl rfl rfl rfl rfl ?_
 refine Ops.skipg rfl rfl rfl rfl rfl ?_
 refine Ops.pick_f rfl rfl rfl ?_
 refine Ops.nil ?_
 refine thenQ_n ?_
 refine Cd.cond_f rfl ?_
 refine Cd.exit ?_
 refine thenQ_x ?_
 refine thenQ_x ?_
 refine blockQ_x ?_
 refine thenQ_n ?_
 refine Cd.seq ?_
 refine Cd.seq ?_
 refine Cd.region ?_
 refine Ops.mv_int rfl rfl rfl ?_
 refine Ops.nil ?_
 refine thenQ_n ?_
 refine Cd.block ?_
 refine Cd.loop (α := Nat × Nat × LS) (fun s => [(2, .pointer A2), (4, .pointer A4), (5, .pointer A5), (8, .int .i64 (s.2.1 : Int))]) (fun s w' => s.2.2.ok ∧ runC gens rel s.1 s.2.1 s.2.2.p = some y ∧ s.1 + s.2.1 = 3000 ∧ St w w' ([Bx 202 3 A5 s.2.2.cells, Bx 202 3 A4 [.slice none 0 0, .slice none 0 0, .bool false], Bx 180 2 A2 [.int .i64 (gens : Int), .slice Ar nr cr]] ++ (s.2.2.cks ++ []))) (fun s => s.1) (3000, 0, X) ⟨rfl, rfl, rfl, rfl, trivial⟩ ⟨hok, by rw [hXp]; exact hp, rfl, hS5⟩ ?_
 rintro ⟨k, c, X⟩ e w7 ⟨hok, hc, hkc, hS7⟩
 dsimp only at hok hc hkc hS7 ⊢
 obtain ⟨q, rfl⟩ : ∃ q, k = q + 1 := by cases k with | zero => cases hc | succ q => exact ⟨q, rfl⟩
 have hc : (if c < X.ls.length then (match runRel (c : Int) X.p rel with | none => none | some y => match runGen (c : Int) gens 100 0 y with | none => none | some z => runC gens rel q (c + 1) z) else some X.p) = some y := hc
 have hXm : X.ls.length = X.m := hok.2.2
 refine Cd.seq ?_
 refine Cd.seq ?_
 refine Cd.region ?_
 refine Ops.mv_int rfl rfl rfl ?_
 refine Ops.fld (hS7.rd 0 rfl) rfl rfl rfl rfl inferInstance ?_
 refine Ops.ldf_s (hS7.rd 0 rfl) rfl rfl rfl rfl rfl ?_
 refine Ops.len rfl rfl ?_
 refine Ops.lss rfl rfl rfl ?_
 refine Ops.mv_bool rfl rfl rfl ?_
 refine Ops.split_p 42 rfl (fun h1 => ?_) (fun h1 => ?_)
 ·rw [if_pos (by omega)] at hc
  split at hc
  case h_1 => cases hc
  rename_i y1 hy1
  split at hc
  case h_1 => cases hc
  rename_i z1 hz1
  refine Ops.rung rfl rfl rfl ?_
  refine Ops.fld (hS7.rd 0 rfl) rfl rfl rfl rfl inferInstance ?_
  refine Ops.rung rfl rfl rfl ?_
  refine Ops.ldf_b (hS7.rd 0 rfl) rfl rfl rfl rfl rfl ?_
  refine Ops.rung rfl rfl rfl ?_
  first | refine Ops.not_p rfl rfl ?_ | refine Ops.not rfl rfl ?_
  refine Ops.pick_t rfl rfl rfl ?_
  refine Ops.nil ?_
  refine thenQ_n ?_
  refine Cd.cond_t rfl ?_
  refine Cd.skip ?_
  refine thenQ_n ?_
  refine Cd.seq ?_
  refine Cd.block ?_
  refine Cd.seq ?_
  refine Cd.seq ?_
  refine Cd.region ?_
  refine Ops.mv_int rfl rfl rfl ?_
  refine Ops.nil ?_
  refine thenQ_n ?_
  refine Cd.block ?_
  refine Cd.loop (α := Nat × LS) (fun s => [(2, .pointer A2), (4, .pointer A4), (5, .pointer A5), (8, .int .i64 (c : Int)), (9, .int .i64 (s.1 : Int))]) (fun s w' => s.2.ok ∧ s.1 ≤ nr ∧ runRel (c : Int) s.2.p (rel.drop s.1) = some y1 ∧ St w w' ([Bx 202 3 A5 s.2.cells, Bx 202 3 A4 [.slice none 0 0, .slice none 0 0, .bool false], Bx 180 2 A2 [.int .i64 (gens : Int), .slice Ar nr cr]] ++ (s.2.cks ++ []))) (fun s => nr - s.1) (0, X) ⟨rfl, rfl, rfl, rfl, rfl, trivial⟩ ⟨hok, Nat.zero_le _, hy1, hS7⟩ ?_
  rintro ⟨i, X⟩ e w8 ⟨hok, hi, hrr, hS8⟩
  dsimp only at hok hi hrr hS8 ⊢
  have hRR := hS8.oldRows hR
  have hXm : X.ls.length = X.m := hok.2.2
  have hRl : RdI w8 X.B X.m X.ls := LS.rdI hS8
  refine Cd.seq ?_
  refine Cd.seq ?_
  refine Cd.region ?_
  refine Ops.mv_int rfl rfl rfl ?_
  refine Ops.fld (hS8.rd 2 rfl) rfl rfl rfl rfl inferInstance ?_
  refine Ops.ldf_s (hS8.rd 2 rfl) rfl rfl rfl rfl rfl ?_
  refine Ops.len rfl rfl ?_
  refine Ops.lss rfl rfl rfl ?_
  refine Ops.mv_bool rfl rfl rfl ?_
  refine Ops.split_p 54 rfl (fun h2 => ?_) (fun h2 => ?_)
  ·have hir : i < rel.length := by omega
   have hdr : rel.drop i = gl rel (i : Int) :: rel.drop (i + 1) := by rw [List.drop_eq_getElem_cons hir, gl_mem hir]
   rw [hdr] at hrr
   have hrr : (if 0 ≤ (c : Int) ∧ (c : Int) < (X.ls.length : Int) then (if gi X.ls c = c then (match closeP X.p c (gl rel (i : Int)) with | none => none | some y => runRel c y (rel.drop (i + 1))) else some X.p) else none) = some y1 := hrr
   split at hrr
   case isFalse => cases hrr
   rename_i hcb
   refine Ops.rung rfl rfl rfl ?_
   refine Ops.fld (hS8.rd 0 rfl) rfl rfl rfl rfl inferInstance ?_
   refine Ops.rung rfl rfl rfl ?_
   refine Ops.ldf_s (hS8.rd 0 rfl) rfl rfl rfl rfl rfl ?_
   refine Ops.rung rfl rfl rfl ?_
   refine Ops.mv_int rfl rfl rfl ?_
   refine Ops.rung rfl rfl rfl ?_
   refine Ops.idx hRl.2 rfl rfl rfl (by omega) (by omega) ?_
   refine Ops.rung rfl rfl rfl ?_
   refine Ops.ld_int hRl rfl (by omega) rfl rfl ?_
   refine Ops.rung rfl rfl rfl ?_
   refine Ops.mv_int rfl rfl rfl ?_
   refine Ops.rung rfl rfl rfl ?_
   refine Ops.eql rfl rfl rfl ?_
   refine Ops.pick_t rfl rfl rfl ?_
   refine Ops.mv_bool rfl rfl rfl ?_
   refine Ops.split_p 63 rfl (fun h3 => ?_) (fun h3 => ?_)
   ·rw [if_pos h3] at hrr
    split at hrr
    case h_1 => cases hrr
    rename_i y2 hcl
    have hrow := hR.at_ (i := (i : Int)) (by omega) (by omega)
    have hrn : (rg rsr (i : Int)).n ≤ 1000000 := by
     rw [← hrow.1, gl_mem hir]; exact hrel _ (List.getElem_mem hir)
    refine Ops.rung rfl rfl rfl ?_
    refine Ops.fld (hS8.rd 0 rfl) rfl rfl rfl rfl inferInstance ?_
    refine Ops.rung rfl rfl rfl ?_
    refine Ops.ldf_b (hS8.rd 0 rfl) rfl rfl rfl rfl rfl ?_
    refine Ops.rung rfl rfl rfl ?_
    first | refine Ops.not_p rfl rfl ?_ | refine Ops.not rfl rfl ?_
    refine Ops.pick_t rfl rfl rfl ?_
    refine Ops.nil ?_
    refine thenQ_n ?_
    refine Cd.cond_t rfl ?_
    refine Cd.skip ?_
    refine thenQ_n ?_
    refine Cd.seq ?_
    refine Cd.block ?_
    refine Cd.drawN [7, 8] [.ex (.agg #[.slice (X.A) (X.n) (X.c), .slice (X.B) (X.m) (X.cB), .bool (false)]), .ex (.int .i64 ((c : Int))), .ex (.pointer (ptrAt (A2) 1)), .ex (.slice (Ar) (nr) (cr)), .ex (.int .i64 ((i : Int))), .ex (.pointer (ptrAt (Ar) ((i : Int)).toNat)), .ex (.slice ((rg (rsr) ((i : Int))).a) ((rg (rsr) ((i : Int))).n) ((rg (rsr) ((i : Int))).c)), .pr (fun v w' => ∃ x' : LS, v = x'.val ∧ LSt w [Bx 202 3 A5 X.cells, Bx 202 3 A4 [.slice none 0 0, .slice none 0 0, .bool false], Bx 180 2 A2 [.int .i64 (gens : Int), .slice Ar nr cr]] [] y2 x' w'), .pr (fun _ w' => ∃ x' : LS, LSt w [Bx 202 3 A5 x'.cells, Bx 202 3 A4 [.slice none 0 0, .slice none 0 0, .bool false], Bx 180 2 A2 [.int .i64 (gens : Int), .slice Ar nr cr]] [] y2 x' w')] (by kernel_rfl) (by kernel_rfl) (List.forall_mem_cons.2 ⟨Yd.lasts_ex _, (List.forall_mem_cons.2 ⟨Yd.lasts_ex _, (List.forall_mem_cons.2 ⟨Yd.lasts_ex _, (List.forall_mem_cons.2 ⟨Yd.lasts_ex _, (List.forall_mem_cons.2 ⟨Yd.lasts_ex _, (List.forall_mem_cons.2 ⟨Yd.lasts_ex _, (List.forall_mem_cons.2 ⟨Yd.lasts_ex _, (List.forall_mem_cons.2 ⟨Yd.lasts_pr (fun v w w' h hb => by obtain ⟨x', hv, h1, h2, h3⟩ := h; exact ⟨x', hv, h1, h2, h3.later hb⟩), (List.forall_mem_cons.2 ⟨Yd.lasts_pr (fun v w w' h hb => by obtain ⟨x', h1, h2, h3⟩ := h; exact ⟨x', h1, h2, h3.later hb⟩), (fun _ h => by cases h)⟩)⟩)⟩)⟩)⟩)⟩)⟩)⟩)⟩) ⟨?_, ?_, ?_, ?_, ?_, ?_, ?_, ?_, ?_, trivial⟩ ?_
    ·intro e1 w1 cc hlo hhi hb0 hp hun hq
     show Ops _ _ _ _ _ _ _
     replace hlo := le_of_lo hlo (b := 0) (by kernel_rfl)
     replace hhi := le_of_hi hhi (b := 0) (by kernel_rfl)
     obtain rfl : cc = 0 := by omega
     have hb := hb0 rfl
     refine Ops.ld_agg 2 ((hS8.rd 0 rfl).below hb) rfl rfl rfl ?_
     refine Ops.nil ?_
     exact AfterN.dn rfl (Below.refl _ _) (by exact rfl)
    ·intro e1 w1 cc hlo hhi hb0 hp hun hq
     show Ops _ _ _ _ _ _ _
     refine Ops.mv_int rfl rfl rfl ?_
     refine Ops.nil ?_
     exact AfterN.dn rfl (Below.refl _ _) (by exact rfl)
    ·intro e1 w1 cc hlo hhi hb0 hp hun hq
     show Ops _ _ _ _ _ _ _
     replace hlo := le_of_lo hlo (b := 0) (by kernel_rfl)
     replace hhi := le_of_hi hhi (b := 0) (by kernel_rfl)
     obtain rfl : cc = 0 := by omega
     have hb := hb0 rfl
     refine Ops.fld ((hS8.rd 2 rfl).below hb) rfl rfl rfl rfl inferInstance ?_
     refine Ops.nil ?_
     exact AfterN.dn rfl (Below.refl _ _) (by exact rfl)
    ·intro e1 w1 cc hlo hhi hb0 hp hun hq
     show Ops _ _ _ _ _ _ _
     replace hlo := le_of_lo hlo (b := 0) (by kernel_rfl)
     replace hhi := le_of_hi hhi (b := 0) (by kernel_rfl)
     obtain rfl : cc = 0 := by omega
     have hb := hb0 rfl
     refine Ops.ldf_s ((hS8.rd 2 rfl).below hb) rfl rfl rfl rfl rfl ?_
     refine Ops.nil ?_
     exact AfterN.dn rfl (Below.refl _ _) (by exact rfl)
    ·intro e1 w1 cc hlo hhi hb0 hp hun hq
     show Ops _ _ _ _ _ _ _
     refine Ops.mv_int rfl rfl rfl ?_
     refine Ops.nil ?_
     exact AfterN.dn rfl (Below.refl _ _) (by exact rfl)
    ·intro e1 w1 cc hlo hhi hb0 hp hun hq
     show Ops _ _ _ _ _ _ _
     replace hlo := le_of_lo hlo (b := 0) (by kernel_rfl)
     replace hhi := le_of_hi hhi (b := 0) (by kernel_rfl)
     obtain rfl : cc = 0 := by omega
     have hb := hb0 rfl
     refine Ops.idx (hRR.top.later hb).2 rfl rfl rfl (by omega) (by omega) ?_
     refine Ops.nil ?_
     exact AfterN.dn rfl (Below.refl _ _) (by exact rfl)
    ·intro e1 w1 cc hlo hhi hb0 hp hun hq
     show Ops _ _ _ _ _ _ _
     replace hlo := le_of_lo hlo (b := 0) (by kernel_rfl)
     replace hhi := le_of_hi hhi (b := 0) (by kernel_rfl)
     obtain rfl : cc = 0 := by omega
     have hb := hb0 rfl
     refine Ops.ld_sl (hRR.top.later hb) rfl (by omega) rfl rfl ?_
     refine Ops.nil ?_
     exact AfterN.dn rfl (Below.refl _ _) (by exact rfl)
    ·intro e1 w1 cc hlo hhi hb0 hp hun hq
     show Ops _ _ _ _ _ _ _
     replace hlo := le_of_lo hlo (b := 0) (by kernel_rfl)
     replace hhi := le_of_hi hhi (b := 0) (by kernel_rfl)
     obtain rfl : cc = 0 := by omega
     have hb := hb0 rfl
     refine Ops.call (l11Close_c X (c : Int) _ _ (rg rsr (i : Int)).c (gl rel (i : Int)) y2 hok ((hS8.later (hb0 rfl)).toBack (pre := [_, _, _])) (fun w' h => h.oldI hrow) hrn hcl) rfl rfl rfl ?_
     rintro _ w4 ⟨x', hok', hp', rfl, hT⟩
     refine Ops.nil ?_
     exact AfterT.dn rfl ⟨x', rfl, hok', hp', hT.toBack⟩
    ·intro e1 w1 cc hlo hhi hb0 hp hun hq
     show Ops _ _ _ _ _ _ _
     replace hlo := le_of_lo hlo (b := 1) (by kernel_rfl)
     replace hhi := le_of_hi hhi (b := 1) (by kernel_rfl)
     obtain rfl : cc = 1 := by omega
     have hph := hp 7 _ _ (by kernel_rfl) rfl rfl (by kernel_rfl)
     obtain ⟨x', hv, h1, h2, h3⟩ := (hp 7 _ _ (by kernel_rfl) rfl rfl (by kernel_rfl))
     refine Ops.st_agg 3 0 h3 rfl rfl (by exact hv) rfl rfl rfl rfl ?_
     intro w11 hT11
     refine Ops.nil ?_
     exact AfterT.st rfl ⟨x', h1, h2, hT11⟩
    intro u w9 _ hu
    obtain ⟨x', hok', hp', hT⟩ := hu 8 _ rfl (by kernel_rfl)
    refine blockQ_n ?_
    refine thenQ_n ?_
    refine Cd.region ?_
    refine Ops.mv_int rfl rfl rfl ?_
    refine Ops.add rfl rfl rfl (by omega) ?_
    refine Ops.mv_int rfl rfl rfl ?_
    refine Ops.nil ?_
    refine thenQ_n ?_
    exact ⟨(i + 1, x'), by show nr - (i + 1) < nr - i; omega, ⟨rfl, rfl, rfl, rfl, rfl, trivial⟩, hok', by show i + 1 ≤ nr; omega, by rw [hp']; exact hrr, hT⟩
   ·rw [if_neg h3] at hrr
    have hrr := Option.some.inj hrr
    refine Ops.skipg rfl rfl rfl rfl rfl ?_
    refine Ops.skipg rfl rfl rfl rfl rfl ?_
    refine Ops.skipg rfl rfl rfl rfl rfl ?_
    refine Ops.pick_f rfl rfl rfl ?_
    refine Ops.nil ?_
    refine thenQ_n ?_
    refine Cd.cond_f rfl ?_
    refine Cd.exit ?_
    refine thenQ_x ?_
    refine thenQ_x ?_
    refine blockQ_x ?_
    refine thenQ_n ?_
    refine Cd.seq ?_
    refine Cd.region ?_
    refine Ops.mv_int rfl rfl rfl ?_
    refine Ops.nil ?_
    refine thenQ_n ?_
    refine Cd.block ?_
    refine Cd.loop (α := Nat × Nat × LS) (fun s => [(2, .pointer A2), (4, .pointer A4), (5, .pointer A5), (8, .int .i64 (c : Int)), (10, .int .i64 (s.2.1 : Int))]) (fun s w' => s.2.2.ok ∧ runGen (c : Int) gens s.1 s.2.1 s.2.2.p = some z1 ∧ s.1 + s.2.1 = 100 ∧ St w w' ([Bx 202 3 A5 s.2.2.cells, Bx 202 3 A4 [.slice none 0 0, .slice none 0 0, .bool false], Bx 180 2 A2 [.int .i64 (gens : Int), .slice Ar nr cr]] ++ (s.2.2.cks ++ []))) (fun s => s.1) (100, 0, X) ⟨rfl, rfl, rfl, rfl, rfl, trivial⟩ ⟨hok, by rw [hrr]; exact hz1, rfl, hS8⟩ ?_
    rintro ⟨k, g, X⟩ e w9 ⟨hok, hgg, hkg, hS9⟩
    dsimp only at hok hgg hkg hS9 ⊢
    obtain ⟨r, rfl⟩ : ∃ q, k = q + 1 := by cases k with | zero => cases hgg | succ q => exact ⟨q, rfl⟩
    have hgg : (if g < gens then (if 0 ≤ (c : Int) ∧ (c : Int) < (X.ls.length : Int) then (if gi X.ls c = c then (match nextP X.p c (g : Int) with | none => none | some (y, _) => runGen c gens r (g + 1) y) else some X.p) else none) else some X.p) = some z1 := hgg
    have hXm : X.ls.length = X.m := hok.2.2
    have hRl : RdI w9 X.B X.m X.ls := LS.rdI hS9
    refine Cd.seq ?_
    refine Cd.seq ?_
    refine Cd.region ?_
    refine Ops.mv_int rfl rfl rfl ?_
    refine Ops.fld (hS9.rd 2 rfl) rfl rfl rfl rfl inferInstance ?_
    refine Ops.ldf_i (hS9.rd 2 rfl) rfl rfl rfl rfl rfl ?_
    refine Ops.lss rfl rfl rfl ?_
    refine Ops.mv_bool rfl rfl rfl ?_
    refine Ops.split_p 82 rfl (fun h4 => ?_) (fun h4 => ?_)
    ·rw [if_pos (by omega)] at hgg
     split at hgg
     case isFalse => cases hgg
     rename_i hcb2
     refine Ops.rung rfl rfl rfl ?_
     refine Ops.fld (hS9.rd 0 rfl) rfl rfl rfl rfl inferInstance ?_
     refine Ops.rung rfl rfl rfl ?_
     refine Ops.ldf_s (hS9.rd 0 rfl) rfl rfl rfl rfl rfl ?_
     refine Ops.rung rfl rfl rfl ?_
     refine Ops.mv_int rfl rfl rfl ?_
     refine Ops.rung rfl rfl rfl ?_
     refine Ops.idx hRl.2 rfl rfl rfl (by omega) (by omega) ?_
     refine Ops.rung rfl rfl rfl ?_
     refine Ops.ld_int hRl rfl (by omega) rfl rfl ?_
     refine Ops.rung rfl rfl rfl ?_
     refine Ops.mv_int rfl rfl rfl ?_
     refine Ops.rung rfl rfl rfl ?_
     refine Ops.eql rfl rfl rfl ?_
     refine Ops.pick_t rfl rfl rfl ?_
     refine Ops.mv_bool rfl rfl rfl ?_
     refine Ops.split_p 91 rfl (fun h5 => ?_) (fun h5 => ?_)
     ·rw [if_pos h5] at hgg
      split at hgg
      case h_1 => cases hgg
      rename_i y3 d3 hnx
      refine Ops.rung rfl rfl rfl ?_
      refine Ops.fld (hS9.rd 0 rfl) rfl rfl rfl rfl inferInstance ?_
      refine Ops.rung rfl rfl rfl ?_
      refine Ops.ldf_b (hS9.rd 0 rfl) rfl rfl rfl rfl rfl ?_
      refine Ops.rung rfl rfl rfl ?_
      first | refine Ops.not_p rfl rfl ?_ | refine Ops.not rfl rfl ?_
      refine Ops.pick_t rfl rfl rfl ?_
      refine Ops.nil ?_
      refine thenQ_n ?_
      refine Cd.cond_t rfl ?_
      refine Cd.skip ?_
      refine thenQ_n ?_
      refine Cd.seq ?_
      refine Cd.block ?_
      refine Cd.seq ?_
      refine Cd.region ?_
      refine Ops.ld_agg 2 (hS9.rd 0 rfl) rfl rfl rfl ?_
      refine Ops.mv_int rfl rfl rfl ?_
      refine Ops.mv_int rfl rfl rfl ?_
      refine Ops.call (l11Next_c X (c : Int) (g : Int) y3 d3 hok (hS9.toBack (pre := [_, _, _])) hnx) rfl rfl rfl ?_
      rintro _ w10 ⟨x', hok', hp', rfl, hT⟩
      have hT := hT.toBack
      refine Ops.mv_tup rfl rfl rfl ?_
      refine Ops.extract rfl rfl rfl ?_
      refine Ops.extract rfl rfl rfl ?_
      refine Ops.new3 hT rfl ?_
      intro A11 w11 hT11
      skip
      refine Ops.st_agg 3 0 hT11 rfl rfl rfl rfl rfl rfl rfl ?_
      intro w12 hT12
      refine Ops.mv_int rfl rfl rfl ?_
      refine Ops.nil ?_
      refine thenQ_n ?_
      refine Cd.region ?_
      refine Ops.ld_agg 2 (hT12.rd 0 rfl) rfl rfl rfl ?_
      skip
      refine Ops.st_agg 3 1 hT12 rfl rfl rfl rfl rfl rfl rfl ?_
      intro w13 hT13
      refine Ops.nil ?_
      refine blockQ_n ?_
      refine thenQ_n ?_
      refine Cd.region ?_
      refine Ops.mv_int rfl rfl rfl ?_
      refine Ops.add rfl rfl rfl (by omega) ?_
      refine Ops.mv_int rfl rfl rfl ?_
      refine Ops.nil ?_
      refine thenQ_n ?_
      exact ⟨(r, g + 1, x'), Nat.lt_succ_self r, ⟨rfl, rfl, rfl, rfl, rfl, trivial⟩, hok', by rw [hp']; exact hgg, by show r + (g + 1) = 100; omega, hT13.tail⟩
     ·rw [if_neg h5] at hgg
      have hgg := Option.some.inj hgg
      refine Ops.skipg rfl rfl rfl rfl rfl ?_
      refine Ops.skipg rfl rfl rfl rfl rfl ?_
      refine Ops.skipg rfl rfl rfl rfl rfl ?_
      refine Ops.pick_f rfl rfl rfl ?_
      refine Ops.nil ?_
      refine thenQ_n ?_
      refine Cd.cond_f rfl ?_
      refine Cd.exit ?_
      refine thenQ_x ?_
      refine thenQ_x ?_
      refine blockQ_x ?_
      refine blockQ_n ?_
      refine thenQ_n ?_
      refine Cd.region ?_
      refine Ops.mv_int rfl rfl rfl ?_
      refine Ops.add rfl rfl rfl (by omega) ?_
      refine Ops.mv_int rfl rfl rfl ?_
      refine Ops.nil ?_
      refine thenQ_n ?_
      exact ⟨(q, c + 1, X), Nat.lt_succ_self q, ⟨rfl, rfl, rfl, rfl, trivial⟩, hok, by rw [hgg]; exact hc, by show q + (c + 1) = 3000; omega, hS9⟩
    ·rw [if_neg (by omega)] at hgg
     have hgg := Option.some.inj hgg
     refine Ops.skipg rfl rfl rfl rfl rfl ?_
     refine Ops.skipg rfl rfl rfl rfl rfl ?_
     refine Ops.skipg rfl rfl rfl rfl rfl ?_
     refine Ops.skipg rfl rfl rfl rfl rfl ?_
     refine Ops.skipg rfl rfl rfl rfl rfl ?_
     refine Ops.skipg rfl rfl rfl rfl rfl ?_
     refine Ops.skipg rfl rfl rfl rfl rfl ?_
     refine Ops.pick_f rfl rfl rfl ?_
     refine Ops.mv_bool rfl rfl rfl ?_
     refine Ops.skipg rfl rfl rfl rfl rfl ?_
     refine Ops.skipg rfl rfl rfl rfl rfl ?_
     refine Ops.skipg rfl rfl rfl rfl rfl ?_
     refine Ops.pick_f rfl rfl rfl ?_
     refine Ops.nil ?_
     refine thenQ_n ?_
     refine Cd.cond_f rfl ?_
     refine Cd.exit ?_
     refine thenQ_x ?_
     refine thenQ_x ?_
     refine blockQ_x ?_
     refine blockQ_n ?_
     refine thenQ_n ?_
     refine Cd.region ?_
     refine Ops.mv_int rfl rfl rfl ?_
     refine Ops.add rfl rfl rfl (by omega) ?_
     refine Ops.mv_int rfl rfl rfl ?_
     refine Ops.nil ?_
     refine thenQ_n ?_
     exact ⟨(q, c + 1, X), Nat.lt_succ_self q, ⟨rfl, rfl, rfl, rfl, trivial⟩, hok, by rw [hgg]; exact hc, by show q + (c + 1) = 3000; omega, hS9⟩
  ·have hir : rel.drop i = [] := List.drop_eq_nil_of_le (by omega)
   rw [hir] at hrr
   have hrr : some X.p = some y1 := hrr
   have hrr := Option.some.inj hrr
   refine Ops.skipg rfl rfl rfl rfl rfl ?_
   refine Ops.skipg rfl rfl rfl rfl rfl ?_
   refine Ops.skipg rfl rfl rfl rfl rfl ?_
   refine Ops.skipg rfl rfl rfl rfl rfl ?_
   refine Ops.skipg rfl rfl rfl rfl rfl ?_
   refine Ops.skipg rfl rfl rfl rfl rfl ?_
   refine Ops.skipg rfl rfl rfl rfl rfl ?_
   refine Ops.pick_f rfl rfl rfl ?_
   refine Ops.mv_bool rfl rfl rfl ?_
   refine Ops.skipg rfl rfl rfl rfl rfl ?_
   refine Ops.skipg rfl rfl rfl rfl rfl ?_
   refine Ops.skipg rfl rfl rfl rfl rfl ?_
   refine Ops.pick_f rfl rfl rfl ?_
   refine Ops.nil ?_
   refine thenQ_n ?_
   refine Cd.cond_f rfl ?_
   refine Cd.exit ?_
   refine thenQ_x ?_
   refine thenQ_x ?_
   refine blockQ_x ?_
   refine thenQ_n ?_
   refine Cd.seq ?_
   refine Cd.region ?_
   refine Ops.mv_int rfl rfl rfl ?_
   refine Ops.nil ?_
   refine thenQ_n ?_
   refine Cd.block ?_
   refine Cd.loop (α := Nat × Nat × LS) (fun s => [(2, .pointer A2), (4, .pointer A4), (5, .pointer A5), (8, .int .i64 (c : Int)), (10, .int .i64 (s.2.1 : Int))]) (fun s w' => s.2.2.ok ∧ runGen (c : Int) gens s.1 s.2.1 s.2.2.p = some z1 ∧ s.1 + s.2.1 = 100 ∧ St w w' ([Bx 202 3 A5 s.2.2.cells, Bx 202 3 A4 [.slice none 0 0, .slice none 0 0, .bool false], Bx 180 2 A2 [.int .i64 (gens : Int), .slice Ar nr cr]] ++ (s.2.2.cks ++ []))) (fun s => s.1) (100, 0, X) ⟨rfl, rfl, rfl, rfl, rfl, trivial⟩ ⟨hok, by rw [hrr]; exact hz1, rfl, hS8⟩ ?_
   rintro ⟨k, g, X⟩ e w9 ⟨hok, hgg, hkg, hS9⟩
   dsimp only at hok hgg hkg hS9 ⊢
   obtain ⟨r, rfl⟩ : ∃ q, k = q + 1 := by cases k with | zero => cases hgg | succ q => exact ⟨q, rfl⟩
   have hgg : (if g < gens then (if 0 ≤ (c : Int) ∧ (c : Int) < (X.ls.length : Int) then (if gi X.ls c = c then (match nextP X.p c (g : Int) with | none => none | some (y, _) => runGen c gens r (g + 1) y) else some X.p) else none) else some X.p) = some z1 := hgg
   have hXm : X.ls.length = X.m := hok.2.2
   have hRl : RdI w9 X.B X.m X.ls := LS.rdI hS9
   refine Cd.seq ?_
   refine Cd.seq ?_
   refine Cd.region ?_
   refine Ops.mv_int rfl rfl rfl ?_
   refine Ops.fld (hS9.rd 2 rfl) rfl rfl rfl rfl inferInstance ?_
   refine Ops.ldf_i (hS9.rd 2 rfl) rfl rfl rfl rfl rfl ?_
   refine Ops.lss rfl rfl rfl ?_
   refine Ops.mv_bool rfl rfl rfl ?_
   refine Ops.split_p 82 rfl (fun h4 => ?_) (fun h4 => ?_)
   ·rw [if_pos (by omega)] at hgg
    split at hgg
    case isFalse => cases hgg
    rename_i hcb2
    refine Ops.rung rfl rfl rfl ?_
    refine Ops.fld (hS9.rd 0 rfl) rfl rfl rfl rfl inferInstance ?_
    refine Ops.rung rfl rfl rfl ?_
    refine Ops.ldf_s (hS9.rd 0 rfl) rfl rfl rfl rfl rfl ?_
    refine Ops.rung rfl rfl rfl ?_
    refine Ops.mv_int rfl rfl rfl ?_
    refine Ops.rung rfl rfl rfl ?_
    refine Ops.idx hRl.2 rfl rfl rfl (by omega) (by omega) ?_
    refine Ops.rung rfl rfl rfl ?_
    refine Ops.ld_int hRl rfl (by omega) rfl rfl ?_
    refine Ops.rung rfl rfl rfl ?_
    refine Ops.mv_int rfl rfl rfl ?_
    refine Ops.rung rfl rfl rfl ?_
    refine Ops.eql rfl rfl rfl ?_
    refine Ops.pick_t rfl rfl rfl ?_
    refine Ops.mv_bool rfl rfl rfl ?_
    refine Ops.split_p 91 rfl (fun h5 => ?_) (fun h5 => ?_)
    ·rw [if_pos h5] at hgg
     split at hgg
     case h_1 => cases hgg
     rename_i y3 d3 hnx
     refine Ops.rung rfl rfl rfl ?_
     refine Ops.fld (hS9.rd 0 rfl) rfl rfl rfl rfl inferInstance ?_
     refine Ops.rung rfl rfl rfl ?_
     refine Ops.ldf_b (hS9.rd 0 rfl) rfl rfl rfl rfl rfl ?_
     refine Ops.rung rfl rfl rfl ?_
     first | refine Ops.not_p rfl rfl ?_ | refine Ops.not rfl rfl ?_
     refine Ops.pick_t rfl rfl rfl ?_
     refine Ops.nil ?_
     refine thenQ_n ?_
     refine Cd.cond_t rfl ?_
     refine Cd.skip ?_
     refine thenQ_n ?_
     refine Cd.seq ?_
     refine Cd.block ?_
     refine Cd.seq ?_
     refine Cd.region ?_
     refine Ops.ld_agg 2 (hS9.rd 0 rfl) rfl rfl rfl ?_
     refine Ops.mv_int rfl rfl rfl ?_
     refine Ops.mv_int rfl rfl rfl ?_
     refine Ops.call (l11Next_c X (c : Int) (g : Int) y3 d3 hok (hS9.toBack (pre := [_, _, _])) hnx) rfl rfl rfl ?_
     rintro _ w10 ⟨x', hok', hp', rfl, hT⟩
     have hT := hT.toBack
     refine Ops.mv_tup rfl rfl rfl ?_
     refine Ops.extract rfl rfl rfl ?_
     refine Ops.extract rfl rfl rfl ?_
     refine Ops.new3 hT rfl ?_
     intro A11 w11 hT11
     skip
     refine Ops.st_agg 3 0 hT11 rfl rfl rfl rfl rfl rfl rfl ?_
     intro w12 hT12
     refine Ops.mv_int rfl rfl rfl ?_
     refine Ops.nil ?_
     refine thenQ_n ?_
     refine Cd.region ?_
     refine Ops.ld_agg 2 (hT12.rd 0 rfl) rfl rfl rfl ?_
     skip
     refine Ops.st_agg 3 1 hT12 rfl rfl rfl rfl rfl rfl rfl ?_
     intro w13 hT13
     refine Ops.nil ?_
     refine blockQ_n ?_
     refine thenQ_n ?_
     refine Cd.region ?_
     refine Ops.mv_int rfl rfl rfl ?_
     refine Ops.add rfl rfl rfl (by omega) ?_
     refine Ops.mv_int rfl rfl rfl ?_
     refine Ops.nil ?_
     refine thenQ_n ?_
     exact ⟨(r, g + 1, x'), Nat.lt_succ_self r, ⟨rfl, rfl, rfl, rfl, rfl, trivial⟩, hok', by rw [hp']; exact hgg, by show r + (g + 1) = 100; omega, hT13.tail⟩
    ·rw [if_neg h5] at hgg
     have hgg := Option.some.inj hgg
     refine Ops.skipg rfl rfl rfl rfl rfl ?_
     refine Ops.skipg rfl rfl rfl rfl rfl ?_
     refine Ops.skipg rfl rfl rfl rfl rfl ?_
     refine Ops.pick_f rfl rfl rfl ?_
     refine Ops.nil ?_
     refine thenQ_n ?_
     refine Cd.cond_f rfl ?_
     refine Cd.exit ?_
     refine thenQ_x ?_
     refine thenQ_x ?_
     refine blockQ_x ?_
     refine blockQ_n ?_
     refine thenQ_n ?_
     refine Cd.region ?_
     refine Ops.mv_int rfl rfl rfl ?_
     refine Ops.add rfl rfl rfl (by omega) ?_
     refine Ops.mv_int rfl rfl rfl ?_
     refine Ops.nil ?_
     refine thenQ_n ?_
     exact ⟨(q, c + 1, X), Nat.lt_succ_self q, ⟨rfl, rfl, rfl, rfl, trivial⟩, hok, by rw [hgg]; exact hc, by show q + (c + 1) = 3000; omega, hS9⟩
   ·rw [if_neg (by omega)] at hgg
    have hgg := Option.some.inj hgg
    refine Ops.skipg rfl rfl rfl rfl rfl ?_
    refine Ops.skipg rfl rfl rfl rfl rfl ?_
    refine Ops.skipg rfl rfl rfl rfl rfl ?_
    refine Ops.skipg rfl rfl rfl rfl rfl ?_
    refine Ops.skipg rfl rfl rfl rfl rfl ?_
    refine Ops.skipg rfl rfl rfl rfl rfl ?_
    refine Ops.skipg rfl rfl rfl rfl rfl ?_
    refine Ops.pick_f rfl rfl rfl ?_
    refine Ops.mv_bool rfl rfl rfl ?_
    refine Ops.skipg rfl rfl rfl rfl rfl ?_
    refine Ops.skipg rfl rfl rfl rfl rfl ?_
    refine Ops.skipg rfl rfl rfl rfl rfl ?_
    refine Ops.pick_f rfl rfl rfl ?_
    refine Ops.nil ?_
    refine thenQ_n ?_
    refine Cd.cond_f rfl ?_
    refine Cd.exit ?_
    refine thenQ_x ?_
    refine thenQ_x ?_
    refine blockQ_x ?_
    refine blockQ_n ?_
    refine thenQ_n ?_
    refine Cd.region ?_
    refine Ops.mv_int rfl rfl rfl ?_
    refine Ops.add rfl rfl rfl (by omega) ?_
    refine Ops.mv_int rfl rfl rfl ?_
    refine Ops.nil ?_
    refine thenQ_n ?_
    exact ⟨(q, c + 1, X), Nat.lt_succ_self q, ⟨rfl, rfl, rfl, rfl, trivial⟩, hok, by rw [hgg]; exact hc, by show q + (c + 1) = 3000; omega, hS9⟩
 ·rw [if_neg (by omega)] at hc
  have hc := Option.some.inj hc
  refine Ops.skipg rfl rfl rfl rfl rfl ?_
  refine Ops.skipg rfl rfl rfl rfl rfl ?_
  refine Ops.skipg rfl rfl rfl rfl rfl ?_
  refine Ops.pick_f rfl rfl rfl ?_
  refine Ops.nil ?_
  refine thenQ_n ?_
  refine Cd.cond_f rfl ?_
  refine Cd.exit ?_
  refine thenQ_x ?_
  refine thenQ_x ?_
  refine blockQ_x ?_
  refine thenQ_n ?_
  refine Cd.seq ?_
  refine Cd.region ?_
  refine Ops.ld_agg 2 (hS7.rd 0 rfl) rfl rfl rfl ?_
  skip
  refine Ops.st_agg 3 1 hS7 rfl rfl rfl rfl rfl rfl rfl ?_
  intro w8 hS8
  refine Ops.nil ?_
  refine thenQ_n ?_
  refine Cd.ret ?_
  skip
  refine retc_r rfl (hS8.rd 1 rfl) ?_
  refine ⟨X, hok, hc, rfl, ?_⟩
  have h5 := ((hS8.sub ((List.Sublist.refl _).cons _)).sub ((List.Sublist.refl _).cons _)).sub ((List.Sublist.refl _).cons _)
  rwa [List.append_nil] at h5
end Go.Proofs.YtjpkmpihmilgoaaGreat.Vc
/-
 The reference's coset enumeration, walked: the table. Conditions: as each states them.
-/
namespace Go.Proofs.YtjpkmpihmilgoaaGreat.Vc
open Go.RowKit

def initL (n i : Nat) : List Int := (List.range n).map fun j => if 0 < j ∧ j < i then -1 else 0
theorem initL_one (n : Nat) : initL n 1 = List.replicate n 0 := by
 apply List.ext_getElem
 ·simp [initL]
 ·intro j h1 h2
  simp only [initL, List.getElem_map, List.getElem_range, List.getElem_replicate]
  rw [if_neg (by omega)]
theorem initL_set {n i : Nat} (h0 : 0 < i) : (initL n i).set i (-1) = initL n (i + 1) := by
 apply List.ext_getElem
 ·simp [initL]
 ·intro j h1 h2
  rw [List.getElem_set]
  simp only [initL, List.getElem_map, List.getElem_range]
  split
  ·rename_i e; subst e; rw [if_pos (by omega)]
  ·rename_i e
   by_cases hj : 0 < j ∧ j < i
   ·rw [if_pos hj, if_pos (by omega)]
   ·rw [if_neg hj, if_neg (by omega)]
def srchG (y : PS) (c : Int) (gens : Nat) : Nat → Nat → List Int → List Int → Option (List Int × List Int)
 | 0, _, _, _ => none
 | k + 1, g, ord, num => if g < gens then (match imageP y c (g : Int) with
  | none => none
  | some d => if 0 ≤ d ∧ d < (num.length : Int) ∧ ord.length < 1000000 then (if gi num d < 0 then srchG y c gens k (g + 1) (ord ++ [d]) (num.set d.toNat (ord.length : Int)) else srchG y c gens k (g + 1) ord num) else none) else some (ord, num)
def srchI (y : PS) (gens : Nat) : Nat → Nat → List Int → List Int → Option (List Int × List Int)
 | 0, _, _, _ => none
 | k + 1, i, ord, num => if i < ord.length then (match srchG y (gi ord (i : Int)) gens 100 0 ord num with
  | none => none
  | some (o, n) => srchI y gens k (i + 1) o n) else some (ord, num)
def rowP (y : PS) (num : List Int) (g : Nat) : List Int → Option (List Int)
 | [] => some []
 | c :: r => match imageP y c (g : Int) with
  | none => none
  | some d => if 0 ≤ d ∧ d < (num.length : Int) then (match rowP y num g r with | none => none | some l => some (gi num d :: l)) else none
def outP (y : PS) (num ord : List Int) (gens : Nat) : Nat → Nat → Option (List (List Int))
 | 0, _ => none
 | k + 1, g => if g < gens then (match rowP y num g ord with | none => none | some r => match outP y num ord gens k (g + 1) with | none => none | some l => some (r :: l)) else some []
def tableP (gens : Nat) (rel : List (List Int)) : Option (List (List Int)) :=
 match runP gens rel with
 | none => none
 | some y => if y.ls.length ≤ 100000 then (match srchI y gens 100000 0 [0] (initL y.ls.length y.ls.length) with
  | none => none
  | some (ord, num) => if ord.length ≤ 1000000 then outP y num ord gens 100 0 else none) else none

theorem l11Table_c (gens : Nat) (Ar : Option Addr) (nr cr : Nat) (rsr : List SlV) (rel : List (List Int)) (T : List (List Int)) (w : World) (hR : RowsI w Ar nr rsr rel) (hrel : ∀ x ∈ rel, x.length ≤ 1000000) (hnr : nr ≤ 1000000) (hp : tableP gens rel = some T) :
  Ret Tryz.prog 215 [.agg #[.int .i64 (gens : Int), .slice Ar nr cr], .slice none 0 0] w (fun v w' => ∃ A c rs, v = .tuple #[.slice A T.length c, .bool true] ∧ rs.length = T.length ∧ St w w' (mat 34 2 A T.length c rs T)) := by
 unfold tableP at hp
 split at hp
 case h_1 => cases hp
 rename_i y hy
 split at hp
 case isFalse => cases hp
 rename_i hyl
 split at hp
 case h_1 => cases hp
 rename_i ord1 num1 hsr
 split at hp
 case isFalse => cases hp
 rename_i hol
 refine Ret.of_cd Tryz.func215 rfl Tryz.ntmps215 rfl (post2 rfl) ?_
 refine Cd.seq ?_
 refine Cd.region ?_
 refine Ops.box2 (St.refl w) rfl rfl ?_
 intro A2 w1 hS1
 refine Ops.mv_sl rfl rfl rfl ?_
 refine Ops.mv_bool rfl rfl rfl ?_
 refine Ops.nil ?_
 refine thenQ_n ?_
 refine Cd.seq ?_
 refine Cd.region ?_
 refine Ops.ld_agg 1 (hS1.rd 0 rfl) rfl rfl rfl ?_
 refine Ops.mv_sl rfl rfl rfl ?_
 refine Ops.call (l11Run_c gens Ar nr cr rsr rel none 0 y _ (hS1.oldRows hR) hrel hnr hy) rfl rfl rfl ?_
 rintro _ w2 ⟨x, hok, hxp, rfl, hst⟩
 have hS2 := hS1.call hst
 skip
 refine Ops.new3 hS2 rfl ?_
 intro A6 w3 hS3
 skip
 refine Ops.st_agg 3 0 hS3 rfl rfl rfl rfl rfl rfl rfl ?_
 intro w4 hS4
 have hS4 : St w w4 ([Bx 202 3 A6 x.cells] ++ (x.cks ++ [Bx 180 2 A2 [.int .i64 (gens : Int), .slice Ar nr cr]])) := hS4
 have hI : RowsI w4 x.A x.n x.rs x.im := LS.rowsI hok hS4
 have hL : RdI w4 x.B x.m x.ls := LS.rdI hS4
 have hB6 := hS4.rd 0 rfl
 have hB2 : Rd w4 A2 2 (fun j => [Value.int .i64 (gens : Int), .slice Ar nr cr].getD j undef) := (hS4.sub (List.singleton_sublist.2 (by simp : Bx 180 2 A2 [.int .i64 (gens : Int), .slice Ar nr cr] ∈ _))).rd 0 rfl
 subst hxp
 have hxm : x.ls.length = x.m := hok.2.2
 have hyl : x.ls.length ≤ 100000 := hyl
 have hsr : srchI x.p gens 100000 0 [0] (initL x.ls.length x.ls.length) = some (ord1, num1) := hsr
 rw [hxm] at hsr hyl
 refine Ops.nil ?_
 refine thenQ_n ?_
 refine Cd.seq ?_
 refine Cd.seq ?_
 refine Cd.region ?_
 refine Ops.fld hB6 rfl rfl rfl rfl inferInstance ?_
 refine Ops.ldf_b hB6 rfl rfl rfl rfl rfl ?_
 refine Ops.nil ?_
 refine thenQ_n ?_
 refine Cd.cond_f rfl ?_
 refine Cd.skip ?_
 refine thenQ_n ?_
 refine Cd.seq ?_
 refine Cd.region ?_
 refine Ops.bs1I (St.refl w4) rfl rfl rfl ?_
 intro A7 w5 hT5
 have hB65 := Rd.below hB6 hT5.below
 refine Ops.mv_sl rfl rfl rfl ?_
 refine Ops.nil ?_
 refine thenQ_n ?_
 refine Cd.seq ?_
 refine Cd.region ?_
 refine Ops.fld hB65 rfl rfl rfl rfl inferInstance ?_
 refine Ops.ldf_s hB65 rfl rfl rfl rfl rfl ?_
 refine Ops.len rfl rfl ?_
 refine Ops.mkI x.m hT5 rfl rfl (by omega) ?_
 intro A8 w6 hT6
 rw [← initL_one] at hT6
 refine Ops.mv_sl rfl rfl rfl ?_
 refine Ops.nil ?_
 refine thenQ_n ?_
 refine Cd.seq ?_
 refine Cd.seq ?_
 refine Cd.region ?_
 refine Ops.mv_int rfl rfl rfl ?_
 refine Ops.nil ?_
 refine thenQ_n ?_
 refine Cd.block ?_
 refine Cd.loop (α := Nat) (fun i => [(2, .pointer A2), (6, .pointer A6), (7, .slice A7 1 1), (8, .slice A8 x.m x.m), (9, .int .i64 (i : Int))]) (fun i w' => St w4 w' [CkI 2 A8 x.m x.m (initL x.m i), CkI 2 A7 1 1 [0]] ∧ 1 ≤ i ∧ (i ≤ x.m ∨ i = 1)) (fun i => x.m - i) 1 ⟨rfl, rfl, rfl, rfl, rfl, trivial⟩ ⟨hT6, Nat.le_refl _, .inr rfl⟩ ?_
 rintro i e w7 ⟨hT7, hi1, hi2⟩
 refine Cd.seq ?_
 refine Cd.seq ?_
 refine Cd.region ?_
 refine Ops.mv_int rfl rfl rfl ?_
 refine Ops.mv_sl rfl rfl rfl ?_
 refine Ops.len rfl rfl ?_
 refine Ops.lss rfl rfl rfl ?_
 refine Ops.nil ?_
 refine thenQ_n ?_
 refine Cd.cond_p _ rfl (fun h1 => ?_) (fun h1 => ?_)
 ·have hR7 := hT7.rdI 0 rfl
  refine Cd.skip ?_
  refine thenQ_n ?_
  refine Cd.seq ?_
  refine Cd.block ?_
  refine Cd.region ?_
  refine Ops.mv_sl rfl rfl rfl ?_
  refine Ops.mv_int rfl rfl rfl ?_
  refine Ops.idx hR7.2 rfl rfl rfl (by omega) (by omega) ?_
  refine Ops.st_int 0 hT7 rfl rfl rfl (by omega) ?_
  intro w8 hT8
  rw [Int.toNat_natCast, initL_set (by omega)] at hT8
  refine Ops.nil ?_
  refine blockQ_n ?_
  refine thenQ_n ?_
  refine Cd.region ?_
  refine Ops.mv_int rfl rfl rfl ?_
  refine Ops.add rfl rfl rfl (by omega) ?_
  refine Ops.mv_int rfl rfl rfl ?_
  refine Ops.nil ?_
  refine thenQ_n ?_
  exact ⟨i + 1, by omega, ⟨rfl, rfl, rfl, rfl, rfl, trivial⟩, hT8, by omega, by omega⟩
 have hin : initL x.m i = initL x.m x.m := by
  unfold initL
  apply List.map_congr_left
  intro j hj
  have hj := List.mem_range.1 hj
  by_cases h : 0 < j
  ·rw [if_pos (by omega), if_pos (by omega)]
  ·rw [if_neg (by omega), if_neg (by omega)]
 rw [hin] at hT7
 refine Cd.exit ?_
 refine thenQ_x ?_
 refine thenQ_x ?_
 refine blockQ_x ?_
 refine thenQ_n ?_
 refine Cd.seq ?_
 refine Cd.seq ?_
 refine Cd.region ?_
 refine Ops.mv_int rfl rfl rfl ?_
 refine Ops.nil ?_
 refine thenQ_n ?_
 refine Cd.block ?_
 refine Cd.loop (α := Nat × Nat × Option Addr × Nat × List Int × List Int) (fun s => [(2, .pointer A2), (6, .pointer A6), (7, .slice s.2.2.1 s.2.2.2.2.1.length s.2.2.2.1), (8, .slice A8 x.m x.m), (10, .int .i64 (s.2.1 : Int))]) (fun s w' => St w4 w' [CkI 2 A8 x.m x.m s.2.2.2.2.2, CkI 2 s.2.2.1 s.2.2.2.2.1.length s.2.2.2.1 s.2.2.2.2.1] ∧ s.1 + s.2.1 = 100000 ∧ srchI x.p gens s.1 s.2.1 s.2.2.2.2.1 s.2.2.2.2.2 = some (ord1, num1)) (fun s => s.1) (100000, 0, A7, 1, [0], initL x.m x.m) ⟨rfl, rfl, rfl, rfl, rfl, trivial⟩ ⟨hT7, rfl, hsr⟩ ?_
 rintro ⟨k, i, A7, c7, ord, num⟩ e w8 ⟨hT8, hki, hsr⟩
 dsimp only at hT8 hki hsr ⊢
 obtain ⟨q, rfl⟩ : ∃ q, k = q + 1 := by cases k with | zero => cases hsr | succ q => exact ⟨q, rfl⟩
 rw [srchI] at hsr
 refine Cd.seq ?_
 refine Cd.seq ?_
 refine Cd.region ?_
 refine Ops.mv_int rfl rfl rfl ?_
 refine Ops.mv_sl rfl rfl rfl ?_
 refine Ops.len rfl rfl ?_
 refine Ops.lss rfl rfl rfl ?_
 refine Ops.nil ?_
 refine thenQ_n ?_
 refine Cd.cond_p _ rfl (fun h2 => ?_) (fun h2 => ?_)
 ·rw [if_pos (by omega)] at hsr
  split at hsr
  case h_1 => cases hsr
  rename_i o2 n2 hsg
  refine Cd.skip ?_
  refine thenQ_n ?_
  refine Cd.seq ?_
  refine Cd.block ?_
  refine Cd.seq ?_
  refine Cd.region ?_
  refine Ops.mv_int rfl rfl rfl ?_
  refine Ops.nil ?_
  refine thenQ_n ?_
  refine Cd.block ?_
  refine Cd.loop (α := Nat × Nat × Option Addr × Nat × List Int × List Int) (fun s => [(2, .pointer A2), (6, .pointer A6), (7, .slice s.2.2.1 s.2.2.2.2.1.length s.2.2.2.1), (8, .slice A8 x.m x.m), (10, .int .i64 (i : Int)), (11, .int .i64 (s.2.1 : Int))]) (fun s w' => St w4 w' [CkI 2 A8 x.m x.m s.2.2.2.2.2, CkI 2 s.2.2.1 s.2.2.2.2.1.length s.2.2.2.1 s.2.2.2.2.1] ∧ s.1 + s.2.1 = 100 ∧ i < s.2.2.2.2.1.length ∧ gi s.2.2.2.2.1 (i : Int) = gi ord (i : Int) ∧ srchG x.p (gi ord (i : Int)) gens s.1 s.2.1 s.2.2.2.2.1 s.2.2.2.2.2 = some (o2, n2)) (fun s => s.1) (100, 0, A7, c7, ord, num) ⟨rfl, rfl, rfl, rfl, rfl, rfl, trivial⟩ ⟨hT8, rfl, by show i < ord.length; omega, rfl, hsg⟩ ?_
  rintro ⟨kk, g, A7, c7, ord', num⟩ e w9 ⟨hT9, hkg, hio, hgo, hsg⟩
  dsimp only at hT9 hkg hio hgo hsg ⊢
  obtain ⟨r, rfl⟩ : ∃ q, kk = q + 1 := by cases kk with | zero => cases hsg | succ q => exact ⟨q, rfl⟩
  rw [srchG] at hsg
  have hB29 := Rd.below hB2 hT9.below
  have hB69 := Rd.below hB6 hT9.below
  have hI9 := hT9.oldRows hI
  have hL9 := hT9.oldI hL
  have hO9 := hT9.rdI 1 rfl
  have hN9 := hT9.rdI 0 rfl
  have hnl : num.length = x.m := hN9.1
  refine Cd.seq ?_
  refine Cd.seq ?_
  refine Cd.region ?_
  refine Ops.mv_int rfl rfl rfl ?_
  refine Ops.fld hB29 rfl rfl rfl rfl inferInstance ?_
  refine Ops.ldf_i hB29 rfl rfl rfl rfl rfl ?_
  refine Ops.lss rfl rfl rfl ?_
  refine Ops.nil ?_
  refine thenQ_n ?_
  refine Cd.cond_p _ rfl (fun h3 => ?_) (fun h3 => ?_)
  ·rw [if_pos (by omega)] at hsg
   split at hsg
   case h_1 => cases hsg
   rename_i d hd
   split at hsg
   case isFalse => cases hsg
   rename_i hdb
   rw [← hgo] at hd
   refine Cd.skip ?_
   refine thenQ_n ?_
   refine Cd.seq ?_
   refine Cd.block ?_
   refine Cd.seq ?_
   refine Cd.draw [.ex (.agg #[.slice (x.A) (x.n) (x.c), .slice (x.B) (x.m) (x.cB), .bool (false)]), .ex (.slice (A7) (ord'.length) (c7)), .ex (.int .i64 ((i : Int))), .ex (.pointer (ptrAt (A7) ((i : Int)).toNat)), .ex (.int .i64 (gi (ord') ((i : Int)))), .ex (.int .i64 ((g : Int))), .ex (.int .i64 (d)), .ex (.int .i64 (d))] (by kernel_rfl) (by kernel_rfl) rfl (List.forall_mem_cons.2 ⟨Yd.lasts_ex _, (List.forall_mem_cons.2 ⟨Yd.lasts_ex _, (List.forall_mem_cons.2 ⟨Yd.lasts_ex _, (List.forall_mem_cons.2 ⟨Yd.lasts_ex _, (List.forall_mem_cons.2 ⟨Yd.lasts_ex _, (List.forall_mem_cons.2 ⟨Yd.lasts_ex _, (List.forall_mem_cons.2 ⟨Yd.lasts_ex _, (List.forall_mem_cons.2 ⟨Yd.lasts_ex _, (fun _ h => by cases h)⟩)⟩)⟩)⟩)⟩)⟩)⟩)⟩) ⟨?_, ?_, ?_, ?_, ?_, ?_, ?_, ?_, trivial⟩ ?_
   ·intro e1 w1 hb hp hun
    refine Ops.ld_agg 2 (hB69.below hb) rfl rfl rfl ?_
    refine Ops.nil ?_
    exact After.dn (Below.refl _ _) (by exact rfl)
   ·intro e1 w1 hb hp hun
    refine Ops.mv_sl rfl rfl rfl ?_
    refine Ops.nil ?_
    exact After.dn (Below.refl _ _) (by exact rfl)
   ·intro e1 w1 hb hp hun
    refine Ops.mv_int rfl rfl rfl ?_
    refine Ops.nil ?_
    exact After.dn (Below.refl _ _) (by exact rfl)
   ·intro e1 w1 hb hp hun
    refine Ops.idx (hO9.later hb).2 rfl rfl rfl (by omega) (by omega) ?_
    refine Ops.nil ?_
    exact After.dn (Below.refl _ _) (by exact rfl)
   ·intro e1 w1 hb hp hun
    refine Ops.ld_int (hO9.later hb) rfl (by omega) rfl rfl ?_
    refine Ops.nil ?_
    exact After.dn (Below.refl _ _) (by exact rfl)
   ·intro e1 w1 hb hp hun
    refine Ops.mv_int rfl rfl rfl ?_
    refine Ops.nil ?_
    exact After.dn (Below.refl _ _) (by exact rfl)
   ·intro e1 w1 hb hp hun
    refine Ops.call (l11Image_c x.rs x.im x.ls _ (g : Int) d _ (hI9.later hb) (hL9.later hb) hd) rfl rfl rfl ?_
    rintro _ w2 ⟨rfl, hst⟩
    refine Ops.nil ?_
    exact After.dn hst.below (by exact rfl)
   ·intro e1 w1 hb hp hun
    refine Ops.mv_int rfl rfl rfl ?_
    refine Ops.nil ?_
    exact After.dn (Below.refl _ _) (by exact rfl)
   intro u w10 hb10 _
   have hT10 := hT9.later hb10
   have hN10 := hT10.rdI 0 rfl
   refine thenQ_n ?_
   refine Cd.seq ?_
   refine Cd.region ?_
   refine Ops.mv_sl rfl rfl rfl ?_
   refine Ops.mv_int rfl rfl rfl ?_
   refine Ops.idx hN10.2 rfl rfl rfl (by omega) (by omega) ?_
   refine Ops.ld_int hN10 rfl (by omega) rfl rfl ?_
   refine Ops.lss rfl rfl rfl ?_
   refine Ops.nil ?_
   refine thenQ_n ?_
   refine Cd.cond_p _ rfl (fun h4 => ?_) (fun h4 => ?_)
   ·rw [if_pos h4] at hsg
    refine Cd.seq ?_
    refine Cd.region ?_
    refine Ops.mv_sl rfl rfl rfl ?_
    refine Ops.mv_int rfl rfl rfl ?_
    refine Ops.mv_sl rfl rfl rfl ?_
    refine Ops.len rfl rfl ?_
    refine Ops.idx hN10.2 rfl rfl rfl (by omega) (by omega) ?_
    refine Ops.st_int 0 hT10 rfl rfl rfl (by omega) ?_
    intro w11 hT11
    have hT11 : St w4 w11 [CkI 2 A8 x.m x.m (num.set d.toNat (ord'.length : Int)), CkI 2 A7 ord'.length c7 ord'] := hT11
    refine Ops.nil ?_
    refine thenQ_n ?_
    refine Cd.region ?_
    refine Ops.mv_sl rfl rfl rfl ?_
    refine Ops.mv_int rfl rfl rfl ?_
    refine Ops.bs1I hT11 rfl rfl rfl ?_
    intro A12 w12 hT12
    refine Ops.appI 2 hT12 rfl (hT12.rdI 0 rfl) rfl rfl rfl (by omega) (by omega) rfl ?_
    intro A13 c13 w13 hT13
    have hT13 : St w4 w13 [CkI 2 A8 x.m x.m (num.set d.toNat (ord'.length : Int)), CkI 2 A13 (ord'.length + 1) c13 (ord' ++ [d])] := hT13.tail
    refine Ops.mv_sl rfl rfl rfl ?_
    refine Ops.nil ?_
    refine blockQ_n ?_
    refine thenQ_n ?_
    refine Cd.region ?_
    refine Ops.mv_int rfl rfl rfl ?_
    refine Ops.add rfl rfl rfl (by omega) ?_
    refine Ops.mv_int rfl rfl rfl ?_
    refine Ops.nil ?_
    refine thenQ_n ?_
    refine ⟨(r, g + 1, A13, c13, ord' ++ [d], num.set d.toNat (ord'.length : Int)), Nat.lt_succ_self r, ⟨rfl, rfl, by show Value.slice _ _ _ = .slice _ _ _; rw [List.length_append]; rfl, rfl, rfl, rfl, trivial⟩, by dsimp only; rw [List.length_append]; exact hT13, by show r + (g + 1) = 100; omega, by show i < (ord' ++ [d]).length; rw [List.length_append]; omega, ?_, hsg⟩
    show gi (ord' ++ [d]) (i : Int) = _
    rw [← hgo, gi_mem (by rw [List.length_append]; omega), gi_mem hio, List.getElem_append_left hio]
   ·rw [if_neg h4] at hsg
    refine Cd.skip ?_
    refine blockQ_n ?_
    refine thenQ_n ?_
    refine Cd.region ?_
    refine Ops.mv_int rfl rfl rfl ?_
    refine Ops.add rfl rfl rfl (by omega) ?_
    refine Ops.mv_int rfl rfl rfl ?_
    refine Ops.nil ?_
    refine thenQ_n ?_
    exact ⟨(r, g + 1, A7, c7, ord', num), Nat.lt_succ_self r, ⟨rfl, rfl, rfl, rfl, rfl, rfl, trivial⟩, hT10, by show r + (g + 1) = 100; omega, hio, hgo, hsg⟩
  ·rw [if_neg (by omega)] at hsg
   have hsg := Option.some.inj hsg
   simp only [Prod.mk.injEq] at hsg
   obtain ⟨rfl, rfl⟩ := hsg
   refine Cd.exit ?_
   refine thenQ_x ?_
   refine thenQ_x ?_
   refine blockQ_x ?_
   refine blockQ_n ?_
   refine thenQ_n ?_
   refine Cd.region ?_
   refine Ops.mv_int rfl rfl rfl ?_
   refine Ops.add rfl rfl rfl (by omega) ?_
   refine Ops.mv_int rfl rfl rfl ?_
   refine Ops.nil ?_
   refine thenQ_n ?_
   exact ⟨(q, i + 1, A7, c7, ord', num), Nat.lt_succ_self q, ⟨rfl, rfl, rfl, rfl, rfl, trivial⟩, hT9, by show q + (i + 1) = 100000; omega, hsr⟩
 rw [if_neg (by omega)] at hsr
 have hsr := Option.some.inj hsr
 simp only [Prod.mk.injEq] at hsr
 obtain ⟨rfl, rfl⟩ := hsr
 have hN8 := hT8.rdI 0 rfl
 have hnl : num.length = x.m := hN8.1
 refine Cd.exit ?_
 refine thenQ_x ?_
 refine thenQ_x ?_
 refine blockQ_x ?_
 refine thenQ_n ?_
 refine Cd.seq ?_
 refine Cd.region ?_
 refine Ops.bs0 hT8 rfl ?_
 intro A13 w9 hT9
 have hT9 : St w4 w9 (mat 34 2 A13 0 0 [] [] ++ [CkI 2 A8 x.m x.m num, CkI 2 A7 ord.length c7 ord]) := hT9
 have hol2 : ord.length ≤ 1000000 := hol
 refine Ops.mv_sl rfl rfl rfl ?_
 refine Ops.nil ?_
 refine thenQ_n ?_
 refine Cd.seq ?_
 refine Cd.seq ?_
 refine Cd.region ?_
 refine Ops.mv_int rfl rfl rfl ?_
 refine Ops.nil ?_
 refine thenQ_n ?_
 refine Cd.block ?_
 refine Cd.loop (α := Nat × Nat × Option Addr × Nat × List SlV × List (List Int)) (fun s => [(2, .pointer A2), (6, .pointer A6), (7, .slice A7 ord.length c7), (8, .slice A8 x.m x.m), (13, .slice s.2.2.1 s.2.1 s.2.2.2.1), (14, .int .i64 (s.2.1 : Int))]) (fun s w' => St w4 w' (mat 34 2 s.2.2.1 s.2.1 s.2.2.2.1 s.2.2.2.2.1 s.2.2.2.2.2 ++ [CkI 2 A8 x.m x.m num, CkI 2 A7 ord.length c7 ord]) ∧ s.1 + s.2.1 = 100 ∧ s.2.2.2.2.1.length = s.2.1 ∧ s.2.2.2.2.2.length = s.2.1 ∧ ∃ l, outP x.p num ord gens s.1 s.2.1 = some l ∧ s.2.2.2.2.2 ++ l = T) (fun s => s.1) (100, 0, A13, 0, [], []) ⟨rfl, rfl, rfl, rfl, rfl, rfl, trivial⟩ ⟨hT9, rfl, rfl, rfl, T, hp, rfl⟩ ?_
 rintro ⟨k, g, B, cB, rs, xss⟩ e w10 ⟨hT10, hkg, hrl, hxl, l, hout, happ⟩
 dsimp only at hT10 hkg hrl hxl hout happ ⊢
 obtain ⟨q, rfl⟩ : ∃ q, k = q + 1 := by cases k with | zero => cases hout | succ q => exact ⟨q, rfl⟩
 rw [outP] at hout
 have hB210 := Rd.below hB2 hT10.below
 refine Cd.seq ?_
 refine Cd.seq ?_
 refine Cd.region ?_
 refine Ops.mv_int rfl rfl rfl ?_
 refine Ops.fld hB210 rfl rfl rfl rfl inferInstance ?_
 refine Ops.ldf_i hB210 rfl rfl rfl rfl rfl ?_
 refine Ops.lss rfl rfl rfl ?_
 refine Ops.nil ?_
 refine thenQ_n ?_
 refine Cd.cond_p _ rfl (fun h5 => ?_) (fun h5 => ?_)
 ·rw [if_pos (by omega)] at hout
  split at hout
  case h_1 => cases hout
  rename_i row hrow
  split at hout
  case h_1 => cases hout
  rename_i l2 hout2
  obtain rfl := Option.some.inj hout
  refine Cd.skip ?_
  refine thenQ_n ?_
  refine Cd.seq ?_
  refine Cd.block ?_
  refine Cd.seq ?_
  refine Cd.region ?_
  refine Ops.bs0 hT10 rfl ?_
  intro A15 w11 hT11
  refine Ops.mv_sl rfl rfl rfl ?_
  refine Ops.nil ?_
  refine thenQ_n ?_
  refine Cd.seq ?_
  refine Cd.seq ?_
  refine Cd.region ?_
  refine Ops.mv_int rfl rfl rfl ?_
  refine Ops.nil ?_
  refine thenQ_n ?_
  refine Cd.block ?_
  refine Cd.loop (α := Nat × Option Addr × Nat × List Int) (fun s => [(2, .pointer A2), (6, .pointer A6), (7, .slice A7 ord.length c7), (8, .slice A8 x.m x.m), (13, .slice B g cB), (14, .int .i64 (g : Int)), (15, .slice s.2.1 s.1 s.2.2.1), (16, .int .i64 (s.1 : Int))]) (fun s w' => St w4 w' (CkI 2 s.2.1 s.1 s.2.2.1 s.2.2.2 :: (mat 34 2 B g cB rs xss ++ [CkI 2 A8 x.m x.m num, CkI 2 A7 ord.length c7 ord])) ∧ s.1 ≤ ord.length ∧ s.2.2.2.length = s.1 ∧ ∃ l, rowP x.p num g (ord.drop s.1) = some l ∧ s.2.2.2 ++ l = row) (fun s => ord.length - s.1) (0, A15, 0, []) ⟨rfl, rfl, rfl, rfl, rfl, rfl, rfl, rfl, trivial⟩ ⟨hT11, Nat.zero_le _, rfl, row, hrow, rfl⟩ ?_
  rintro ⟨j, A15, c15, acc⟩ e w12 ⟨hT12, hj, hal, l3, hl3, hal3⟩
  dsimp only at hT12 hj hal hl3 hal3 ⊢
  refine Cd.seq ?_
  refine Cd.seq ?_
  refine Cd.region ?_
  refine Ops.mv_int rfl rfl rfl ?_
  refine Ops.mv_sl rfl rfl rfl ?_
  refine Ops.len rfl rfl ?_
  refine Ops.lss rfl rfl rfl ?_
  refine Ops.nil ?_
  refine thenQ_n ?_
  refine Cd.cond_p _ rfl (fun h6 => ?_) (fun h6 => ?_)
  ·have hjo : j < ord.length := by omega
   rw [List.drop_eq_getElem_cons hjo, ← gi_mem hjo] at hl3
   simp only [rowP] at hl3
   split at hl3
   case h_1 => cases hl3
   rename_i d hd
   split at hl3
   case isFalse => cases hl3
   rename_i hdb
   split at hl3
   case h_1 => cases hl3
   rename_i l4 hl4
   obtain rfl := Option.some.inj hl3
   have hB612 := Rd.below hB6 hT12.below
   have hI12 := hT12.oldRows hI
   have hL12 := hT12.oldI hL
   have hS12 : St w4 w12 ([CkI 2 A8 x.m x.m num, CkI 2 A7 ord.length c7 ord] ++ (CkI 2 A15 j c15 acc :: mat 34 2 B g cB rs xss)) := hT12.perm (List.perm_append_comm (l₁ := CkI 2 A15 j c15 acc :: mat 34 2 B g cB rs xss))
   have hO12 := hS12.rdI 1 rfl
   have hN12 := hS12.rdI 0 rfl
   refine Cd.skip ?_
   refine thenQ_n ?_
   refine Cd.seq ?_
   refine Cd.block ?_
   refine Cd.drawN [12] [.ex (.slice (A15) (j) (c15)), .ex (.slice (A8) (x.m) (x.m)), .ex (.agg #[.slice (x.A) (x.n) (x.c), .slice (x.B) (x.m) (x.cB), .bool (false)]), .ex (.slice (A7) (ord.length) (c7)), .ex (.int .i64 ((j : Int))), .ex (.pointer (ptrAt (A7) ((j : Int)).toNat)), .ex (.int .i64 (gi (ord) ((j : Int)))), .ex (.int .i64 ((g : Int))), .ex (.int .i64 (d)), .ex (.pointer (ptrAt (A8) (d).toNat)), .ex (.int .i64 (gi (num) (d))), .pr (fun v w' => ∃ A20, v = .slice A20 1 1 ∧ St w4 w' (CkI 2 A20 1 1 [gi num d] :: CkI 2 A15 j c15 acc :: (mat 34 2 B g cB rs xss ++ [CkI 2 A8 x.m x.m num, CkI 2 A7 ord.length c7 ord]))), .pr (fun v w' => ∃ A21 c21, v = .slice A21 (j + 1) c21 ∧ St w4 w' (CkI 2 A21 (j + 1) c21 (acc ++ [gi num d]) :: (mat 34 2 B g cB rs xss ++ [CkI 2 A8 x.m x.m num, CkI 2 A7 ord.length c7 ord]))), .pr (fun v w' => ∃ A21 c21, v = .slice A21 (j + 1) c21 ∧ St w4 w' (CkI 2 A21 (j + 1) c21 (acc ++ [gi num d]) :: (mat 34 2 B g cB rs xss ++ [CkI 2 A8 x.m x.m num, CkI 2 A7 ord.length c7 ord])))] (by kernel_rfl) (by kernel_rfl) (List.forall_mem_cons.2 ⟨Yd.lasts_ex _, (List.forall_mem_cons.2 ⟨Yd.lasts_ex _, (List.forall_mem_cons.2 ⟨Yd.lasts_ex _, (List.forall_mem_cons.2 ⟨Yd.lasts_ex _, (List.forall_mem_cons.2 ⟨Yd.lasts_ex _, (List.forall_mem_cons.2 ⟨Yd.lasts_ex _, (List.forall_mem_cons.2 ⟨Yd.lasts_ex _, (List.forall_mem_cons.2 ⟨Yd.lasts_ex _, (List.forall_mem_cons.2 ⟨Yd.lasts_ex _, (List.forall_mem_cons.2 ⟨Yd.lasts_ex _, (List.forall_mem_cons.2 ⟨Yd.lasts_ex _, (List.forall_mem_cons.2 ⟨Yd.lasts_pr (fun v w w' h hb => by obtain ⟨A20, hv, h1⟩ := h; exact ⟨A20, hv, h1.later hb⟩), (List.forall_mem_cons.2 ⟨Yd.lasts_pr (fun v w w' h hb => by obtain ⟨A21, c21, hv, h1⟩ := h; exact ⟨A21, c21, hv, h1.later hb⟩), (List.forall_mem_cons.2 ⟨Yd.lasts_pr (fun v w w' h hb => by obtain ⟨A21, c21, hv, h1⟩ := h; exact ⟨A21, c21, hv, h1.later hb⟩), (fun _ h => by cases h)⟩)⟩)⟩)⟩)⟩)⟩)⟩)⟩)⟩)⟩)⟩)⟩)⟩)⟩) ⟨?_, ?_, ?_, ?_, ?_, ?_, ?_, ?_, ?_, ?_, ?_, ?_, ?_, ?_, trivial⟩ ?_
   ·intro e1 w1 cc hlo hhi hb0 hp hun hq
    show Ops _ _ _ _ _ _ _
    replace hlo := le_of_lo hlo (b := 0) (by kernel_rfl)
    replace hhi := le_of_hi hhi (b := 0) (by kernel_rfl)
    obtain rfl : cc = 0 := by omega
    have hb := hb0 rfl
    refine Ops.mv_sl rfl (by exact hun 13 _ rfl (by kernel_rfl)) rfl ?_
    refine Ops.nil ?_
    exact AfterN.dn rfl (Below.refl _ _) (by exact rfl)
   ·intro e1 w1 cc hlo hhi hb0 hp hun hq
    show Ops _ _ _ _ _ _ _
    refine Ops.mv_sl rfl rfl rfl ?_
    refine Ops.nil ?_
    exact AfterN.dn rfl (Below.refl _ _) (by exact rfl)
   ·intro e1 w1 cc hlo hhi hb0 hp hun hq
    show Ops _ _ _ _ _ _ _
    replace hlo := le_of_lo hlo (b := 0) (by kernel_rfl)
    replace hhi := le_of_hi hhi (b := 0) (by kernel_rfl)
    obtain rfl : cc = 0 := by omega
    have hb := hb0 rfl
    refine Ops.ld_agg 2 (hB612.below hb) rfl rfl rfl ?_
    refine Ops.nil ?_
    exact AfterN.dn rfl (Below.refl _ _) (by exact rfl)
   ·intro e1 w1 cc hlo hhi hb0 hp hun hq
    show Ops _ _ _ _ _ _ _
    refine Ops.mv_sl rfl rfl rfl ?_
    refine Ops.nil ?_
    exact AfterN.dn rfl (Below.refl _ _) (by exact rfl)
   ·intro e1 w1 cc hlo hhi hb0 hp hun hq
    show Ops _ _ _ _ _ _ _
    refine Ops.mv_int rfl rfl rfl ?_
    refine Ops.nil ?_
    exact AfterN.dn rfl (Below.refl _ _) (by exact rfl)
   ·intro e1 w1 cc hlo hhi hb0 hp hun hq
    show Ops _ _ _ _ _ _ _
    replace hlo := le_of_lo hlo (b := 0) (by kernel_rfl)
    replace hhi := le_of_hi hhi (b := 0) (by kernel_rfl)
    obtain rfl : cc = 0 := by omega
    have hb := hb0 rfl
    refine Ops.idx (hO12.later hb).2 rfl rfl rfl (by omega) (by omega) ?_
    refine Ops.nil ?_
    exact AfterN.dn rfl (Below.refl _ _) (by exact rfl)
   ·intro e1 w1 cc hlo hhi hb0 hp hun hq
    show Ops _ _ _ _ _ _ _
    replace hlo := le_of_lo hlo (b := 0) (by kernel_rfl)
    replace hhi := le_of_hi hhi (b := 0) (by kernel_rfl)
    obtain rfl : cc = 0 := by omega
    have hb := hb0 rfl
    refine Ops.ld_int (hO12.later hb) rfl (by omega) rfl rfl ?_
    refine Ops.nil ?_
    exact AfterN.dn rfl (Below.refl _ _) (by exact rfl)
   ·intro e1 w1 cc hlo hhi hb0 hp hun hq
    show Ops _ _ _ _ _ _ _
    refine Ops.mv_int rfl rfl rfl ?_
    refine Ops.nil ?_
    exact AfterN.dn rfl (Below.refl _ _) (by exact rfl)
   ·intro e1 w1 cc hlo hhi hb0 hp hun hq
    show Ops _ _ _ _ _ _ _
    replace hlo := le_of_lo hlo (b := 0) (by kernel_rfl)
    replace hhi := le_of_hi hhi (b := 0) (by kernel_rfl)
    obtain rfl : cc = 0 := by omega
    have hb := hb0 rfl
    refine Ops.call (l11Image_c x.rs x.im x.ls _ (g : Int) d _ (hI12.later hb) (hL12.later hb) hd) rfl rfl rfl ?_
    rintro _ w2 ⟨rfl, hst⟩
    refine Ops.nil ?_
    exact AfterN.dn rfl hst.below (by exact rfl)
   ·intro e1 w1 cc hlo hhi hb0 hp hun hq
    show Ops _ _ _ _ _ _ _
    replace hlo := le_of_lo hlo (b := 0) (by kernel_rfl)
    replace hhi := le_of_hi hhi (b := 0) (by kernel_rfl)
    obtain rfl : cc = 0 := by omega
    have hb := hb0 rfl
    refine Ops.idx (hN12.later hb).2 rfl rfl rfl (by omega) (by omega) ?_
    refine Ops.nil ?_
    exact AfterN.dn rfl (Below.refl _ _) (by exact rfl)
   ·intro e1 w1 cc hlo hhi hb0 hp hun hq
    show Ops _ _ _ _ _ _ _
    replace hlo := le_of_lo hlo (b := 0) (by kernel_rfl)
    replace hhi := le_of_hi hhi (b := 0) (by kernel_rfl)
    obtain rfl : cc = 0 := by omega
    have hb := hb0 rfl
    refine Ops.ld_int (hN12.later hb) rfl (by omega) rfl rfl ?_
    refine Ops.nil ?_
    exact AfterN.dn rfl (Below.refl _ _) (by exact rfl)
   ·intro e1 w1 cc hlo hhi hb0 hp hun hq
    show Ops _ _ _ _ _ _ _
    replace hlo := le_of_lo hlo (b := 0) (by kernel_rfl)
    replace hhi := le_of_hi hhi (b := 0) (by kernel_rfl)
    obtain rfl : cc = 0 := by omega
    have hb := hb0 rfl
    refine Ops.bs1I (St.refl _) rfl rfl rfl ?_
    intro A20 w20 hst20
    refine Ops.nil ?_
    exact AfterN.dn rfl hst20.below ⟨A20, rfl, (hT12.later hb).call hst20⟩
   ·intro e1 w1 cc hlo hhi hb0 hp hun hq
    show Ops _ _ _ _ _ _ _
    replace hlo := le_of_lo hlo (b := 0) (by kernel_rfl)
    replace hhi := le_of_hi hhi (b := 0) (by kernel_rfl)
    obtain rfl : cc = 0 := by omega
    have hb := hb0 rfl
    obtain ⟨A20, hv, h1⟩ := (hp 11 _ _ (by kernel_rfl) rfl rfl (by kernel_rfl))
    refine Ops.appI 1 h1 rfl (h1.rdI 0 rfl) rfl (by exact hv) rfl (by omega) (by omega) rfl ?_
    intro A21 c21 w21 hT21
    refine Ops.nil ?_
    exact AfterT.dn rfl ⟨A21, c21, rfl, hT21.tail⟩
   ·intro e1 w1 cc hlo hhi hb0 hp hun hq
    show Ops _ _ _ _ _ _ _
    replace hlo := le_of_lo hlo (b := 1) (by kernel_rfl)
    replace hhi := le_of_hi hhi (b := 1) (by kernel_rfl)
    obtain rfl : cc = 1 := by omega
    have hph := hp 12 _ _ (by kernel_rfl) rfl rfl (by kernel_rfl)
    obtain ⟨A21, c21, hv, h1⟩ := (hp 12 _ _ (by kernel_rfl) rfl rfl (by kernel_rfl))
    refine Ops.mv_sl rfl (by exact hv) rfl ?_
    refine Ops.nil ?_
    exact AfterN.dn rfl (Below.refl _ _) ⟨A21, c21, rfl, h1⟩
   intro u w13 _ hu
   obtain ⟨A21, c21, hv, hT13⟩ := hu 13 _ rfl (by kernel_rfl)
   refine blockQ_n ?_
   refine thenQ_n ?_
   refine Cd.region ?_
   refine Ops.mv_int rfl rfl rfl ?_
   refine Ops.add rfl rfl rfl (by omega) ?_
   refine Ops.mv_int rfl rfl rfl ?_
   refine Ops.nil ?_
   refine thenQ_n ?_
   exact ⟨(j + 1, A21, c21, acc ++ [gi num d]), by omega, ⟨rfl, rfl, rfl, rfl, rfl, rfl, hv, rfl, trivial⟩, hT13, by show j + 1 ≤ ord.length; omega, by show (acc ++ [gi num d]).length = j + 1; rw [List.length_append, hal]; rfl, l4, hl4, by show (acc ++ [gi num d]) ++ l4 = row; rw [← hal3, List.append_assoc]; rfl⟩
  ·have hjl : j = ord.length := by omega
   rw [List.drop_eq_nil_of_le (by omega)] at hl3
   obtain rfl := Option.some.inj hl3
   rw [List.append_nil] at hal3
   subst hal3
   refine Cd.exit ?_
   refine thenQ_x ?_
   refine thenQ_x ?_
   refine blockQ_x ?_
   refine thenQ_n ?_
   refine Cd.region ?_
   refine Ops.mv_sl rfl rfl rfl ?_
   refine Ops.mv_sl rfl rfl rfl ?_
   refine Ops.bs1R hT12 rfl rfl rfl ?_
   intro A22 w13 hT13
   refine Ops.appR 2 hT13 rfl (hT13.rdR 0 rfl) rfl rfl rfl (by omega) (by omega) rfl ?_
   intro A23 c23 w14 hT14
   have hT14 : St w4 w14 (CkI 2 A15 j c15 acc :: CkR 34 A23 (g + 1) c23 (rs ++ [⟨A15, j, c15⟩]) :: (rowsCk 2 rs xss ++ [CkI 2 A8 x.m x.m num, CkI 2 A7 ord.length c7 ord])) := hT14.tail
   refine Ops.mv_sl rfl rfl rfl ?_
   refine Ops.nil ?_
   refine blockQ_n ?_
   refine thenQ_n ?_
   refine Cd.region ?_
   refine Ops.mv_int rfl rfl rfl ?_
   refine Ops.add rfl rfl rfl (by omega) ?_
   refine Ops.mv_int rfl rfl rfl ?_
   refine Ops.nil ?_
   refine thenQ_n ?_
   refine ⟨(q, g + 1, A23, c23, rs ++ [⟨A15, j, c15⟩], xss ++ [acc]), Nat.lt_succ_self q, ⟨rfl, rfl, rfl, rfl, rfl, rfl, trivial⟩, ?_, by show q + (g + 1) = 100; omega, by simp [hrl], by simp [hxl], l2, hout2, by show (xss ++ [acc]) ++ l2 = T; rw [← happ, List.append_assoc]; rfl⟩
   show St w4 w14 (CkR 34 A23 (g + 1) c23 (rs ++ [⟨A15, j, c15⟩]) :: (rowsCk 2 (rs ++ [⟨A15, j, c15⟩]) (xss ++ [acc]) ++ [CkI 2 A8 x.m x.m num, CkI 2 A7 ord.length c7 ord]))
   rw [rowsCk_append (by omega), List.append_assoc]
   refine hT14.perm ?_
   refine (List.Perm.swap _ _ _).trans (List.Perm.cons _ ?_)
   exact List.perm_middle.symm
 ·rw [if_neg (by omega)] at hout
  obtain rfl := Option.some.inj hout
  rw [List.append_nil] at happ
  subst happ
  refine Cd.exit ?_
  refine thenQ_x ?_
  refine thenQ_x ?_
  refine blockQ_x ?_
  refine thenQ_n ?_
  refine Cd.seq ?_
  refine Cd.region ?_
  refine Ops.mv_sl rfl rfl rfl ?_
  refine Ops.mv_sl rfl rfl rfl ?_
  refine Ops.mv_bool rfl rfl rfl ?_
  refine Ops.nil ?_
  refine thenQ_n ?_
  refine Cd.ret ?_
  refine ret2_sb rfl rfl ?_
  refine ⟨B, cB, rs, by rw [hxl], by omega, ?_⟩
  have h9 : St w4 w10 (mat 34 2 B g cB rs xss) := hT10.sub (List.sublist_append_left _ _)
  have h10 := hS4.call h9
  rw [hxl]
  exact h10.sub (List.sublist_append_left _ _)
end Go.Proofs.YtjpkmpihmilgoaaGreat.Vc
/-
 The reference's presentation of a string diagram, walked; tests that hold. Conditions: as each states them.
-/
namespace Go.Proofs.YtjpkmpihmilgoaaGreat.Vc
open Go.RowKit

def relOf (labels : List Int) (i k : Nat) : List (List Int) :=
 if 0 < (if k = i + 1 then gi labels (i : Int) else 2) then [pow [(i : Int), (k : Int)] (if k = i + 1 then gi labels (i : Int) else 2).toNat] else []
def presK (labels : List Int) (gens i : Nat) : Nat → Nat → List (List Int)
 | 0, _ => []
 | f + 1, k => if k < gens then relOf labels i k ++ presK labels gens i f (k + 1) else []
def presI (labels : List Int) (gens : Nat) : Nat → Nat → List (List Int)
 | 0, _ => []
 | f + 1, i => if i < gens then presK labels gens i f (i + 1) ++ presI labels gens f (i + 1) else []
def presP (labels : List Int) : List (List Int) := presI labels (labels.length + 1) 20 0

theorem l12Rank_c (A : Option Addr) (n c : Nat) (w : World) (hn : n ≤ 1000) : Ret Tryz.prog 214 [.slice A n c] w (fun v w' => v = .int .i64 ((n : Int) + 1) ∧ w' = w) := by
 refine Ret.of_cd Tryz.func214 rfl Tryz.ntmps214 rfl (post1 rfl) ?_
 refine Cd.seq ?_
 refine Cd.region ?_
 refine Ops.mv_int rfl rfl rfl ?_
 refine Ops.nil ?_
 refine thenQ_n ?_
 refine Cd.seq ?_
 refine Cd.region ?_
 refine Ops.mv_sl rfl rfl rfl ?_
 refine Ops.len rfl rfl ?_
 refine Ops.add rfl rfl rfl (by omega) ?_
 refine Ops.mv_int rfl rfl rfl ?_
 refine Ops.nil ?_
 refine thenQ_n ?_
 refine Cd.ret ?_
 refine ret1_i rfl ?_
 exact ⟨rfl, rfl⟩

section
variable {P : Program} {N : Nat} {ops : Array Oper} {K : Env → World → Prop} {rest : List Oper} {e : Env} {w0 w w' : World} {ks : List Ck} {d : Nat} {ty : TypeId} {pos : String} {af : Array Edge}
theorem Ops.bld0of2 {t : TypeId} {f0 f1 : Field} {z0 z1 y0 y1 : Value} {b b0 b1 : Nat} [Und P t (.struct #[f0, f1])] [Inf P t (.agg #[z0, z1]) 2 b] {x0 : Operand} {v0 : Value} (hI0 : Inf P f0.type y0 1 b0) (hI1 : Inf P f1.type y1 1 b1) (ho : f0.offset = 0) (ho1 : f1.offset = 1) (h0 : ev e x0 = v0) (c0 : v0.oneCell' = true) (hb : Nat.blt d N = true)
    (hK : Ops P N ops K rest (upd e d (.agg #[v0, z1])) w) : Ops P N ops K (⟨some d, .build t #[(0, x0)], ty, pos, af, none⟩ :: rest) e w := by
  obtain ⟨inf, hi, hz0, hs, hby⟩ := Inf.get P t
  obtain ⟨inf0, hi0, _, hs0, _⟩ := hI0.get P f0.type
  obtain ⟨inf1, hi1, _, hs1, _⟩ := hI1.get P f1.type
  have e0 : v0.cells = #[v0] := by cases v0 <;> simp [Value.oneCell'] at c0 <;> rfl
  have ez : (Value.agg #[z0, z1]).cells = #[z0, z1] := rfl
  refine .val (w' := w) ?_ hb hK
  simp [execOp, Instr.build, run_underlying (Und.out (P := P) (t := t)), sizeOf, typeInfo, zeroValue, hi, hz0, hi0, hs0, hi1, hs1, ho, ho1, h0, e0, ez, Instr.fill]
end

structure PrS where
 f : Nat
 k : Nat
 B : Option Addr
 n : Nat
 c : Nat
 rs : List SlV
 xss : List (List Int)
theorem l12Presentation_c (Al : Option Addr) (nl cl : Nat) (labels : List Int) (w : World) (hR : RdI w Al nl labels) (hnl : nl ≤ 10) (hl : ∀ x ∈ labels, 0 ≤ x ∧ x ≤ 32) :
  Ret Tryz.prog 198 [.slice Al nl cl] w (fun v w' => ∃ B c rs, v = .agg #[.int .i64 ((nl : Int) + 1), .slice B (presP labels).length c] ∧ rs.length = (presP labels).length ∧ St w w' (mat 34 2 B (presP labels).length c rs (presP labels))) := by
 have hll := hR.1
 refine Ret.of_cd Tryz.func198 rfl Tryz.ntmps198 rfl (postc rfl rfl) ?_
 refine Cd.seq ?_
 refine Cd.region ?_
 refine Ops.new2 (St.refl w) rfl ?_
 intro A2 w1 hS1
 refine Ops.nil ?_
 refine thenQ_n ?_
 refine Cd.seq ?_
 refine Cd.region ?_
 refine Ops.mv_sl rfl rfl rfl ?_
 refine Ops.call (l12Rank_c Al nl cl _ (by omega)) rfl rfl rfl ?_
 rintro _ w2 ⟨rfl, rfl⟩
 skip
 refine Ops.bld0of2 (by exact inferInstance) (by exact inferInstance) rfl rfl rfl rfl rfl ?_
 refine Ops.new2 hS1 rfl ?_
 intro A3 w2 hS2
 skip
 refine Ops.st_agg 2 0 hS2 rfl rfl rfl rfl rfl rfl rfl ?_
 intro w3 hS3
 have hS3 : St w w3 ([Bx 180 2 A3 [.int .i64 ((nl : Int) + 1), .slice none 0 0], Bx 180 2 A2 [.int .i64 0, .slice none 0 0]]) := hS3
 have hS4 : St w w3 (CkR 34 none 0 0 [] :: [Bx 180 2 A3 [.int .i64 ((nl : Int) + 1), .slice none 0 0], Bx 180 2 A2 [.int .i64 0, .slice none 0 0]]) := hS3.nil _
 have hS5 : St w w3 ([Bx 180 2 A3 [.int .i64 ((nl : Int) + 1), .slice none 0 0], Bx 180 2 A2 [.int .i64 0, .slice none 0 0]] ++ mat 34 2 none 0 0 [] []) := hS4.perm (List.perm_append_comm (l₁ := [_]) (l₂ := [_, _]))
 refine Ops.nil ?_
 refine thenQ_n ?_
 refine Cd.seq ?_
 refine Cd.seq ?_
 refine Cd.region ?_
 refine Ops.mv_int rfl rfl rfl ?_
 refine Ops.nil ?_
 refine thenQ_n ?_
 refine Cd.block ?_
 refine Cd.loop (α := PrS) (fun s => [(0, .slice Al nl cl), (2, .pointer A2), (3, .pointer A3), (4, .int .i64 (s.k : Int))]) (fun s w' => St w w' ([Bx 180 2 A3 [.int .i64 ((nl : Int) + 1), .slice s.B s.n s.c], Bx 180 2 A2 [.int .i64 0, .slice none 0 0]] ++ mat 34 2 s.B s.n s.c s.rs s.xss) ∧ s.rs.length = s.n ∧ s.xss.length = s.n ∧ s.n ≤ 20 * s.k ∧ s.k + s.f = 20 ∧ s.xss ++ presI labels (nl + 1) s.f s.k = presP labels) (fun s => s.f) ⟨20, 0, none, 0, 0, [], []⟩ ⟨rfl, rfl, rfl, rfl, trivial⟩ ⟨hS5, rfl, rfl, Nat.zero_le _, rfl, by unfold presP; rw [hll]; rfl⟩ ?_
 rintro ⟨f, i, B, n, cB, rs, xss⟩ e w4 ⟨hS4, hrl, hxl, hnk, hkf, hpre⟩
 dsimp only at hS4 hrl hxl hnk hkf hpre ⊢
 refine Cd.seq ?_
 refine Cd.seq ?_
 refine Cd.region ?_
 refine Ops.mv_int rfl rfl rfl ?_
 refine Ops.fld (hS4.rd 0 rfl) rfl rfl rfl rfl inferInstance ?_
 refine Ops.ldf_i (hS4.rd 0 rfl) rfl rfl rfl rfl rfl ?_
 refine Ops.lss rfl rfl rfl ?_
 refine Ops.nil ?_
 refine thenQ_n ?_
 refine Cd.cond_p _ rfl (fun h1 => ?_) (fun h1 => ?_)
 ·obtain ⟨f, rfl⟩ : ∃ q, f = q + 1 := ⟨f - 1, by omega⟩
  rw [presI, if_pos (by omega)] at hpre
  refine Cd.skip ?_
  refine thenQ_n ?_
  refine Cd.seq ?_
  refine Cd.block ?_
  refine Cd.seq ?_
  refine Cd.region ?_
  refine Ops.mv_int rfl rfl rfl ?_
  refine Ops.add rfl rfl rfl (by omega) ?_
  refine Ops.mv_int rfl rfl rfl ?_
  refine Ops.nil ?_
  refine thenQ_n ?_
  refine Cd.block ?_
  refine Cd.loop (α := PrS) (fun s => [(0, .slice Al nl cl), (2, .pointer A2), (3, .pointer A3), (4, .int .i64 (i : Int)), (5, .int .i64 (s.k : Int))]) (fun s w' => St w w' ([Bx 180 2 A3 [.int .i64 ((nl : Int) + 1), .slice s.B s.n s.c], Bx 180 2 A2 [.int .i64 0, .slice none 0 0]] ++ mat 34 2 s.B s.n s.c s.rs s.xss) ∧ s.rs.length = s.n ∧ s.xss.length = s.n ∧ i + 1 ≤ s.k ∧ s.n + i + 1 ≤ 20 * i + s.k ∧ s.k + s.f = 20 ∧ s.xss ++ (presK labels (nl + 1) i s.f s.k ++ presI labels (nl + 1) f (i + 1)) = presP labels) (fun s => s.f) ⟨f, i + 1, B, n, cB, rs, xss⟩ ⟨rfl, rfl, rfl, rfl, rfl, trivial⟩ ⟨hS4, hrl, hxl, Nat.le_refl _, by show n + i + 1 ≤ 20 * i + (i + 1); omega, by show i + 1 + f = 20; omega, hpre⟩ ?_
  rintro ⟨g, k, B, n, cB, rs, xss⟩ e w5 ⟨hS5, hrl, hxl, hik, hnk2, hkg, hpre⟩
  dsimp only at hS5 hrl hxl hik hnk2 hkg hpre ⊢
  refine Cd.seq ?_
  refine Cd.seq ?_
  refine Cd.region ?_
  refine Ops.mv_int rfl rfl rfl ?_
  refine Ops.fld (hS5.rd 0 rfl) rfl rfl rfl rfl inferInstance ?_
  refine Ops.ldf_i (hS5.rd 0 rfl) rfl rfl rfl rfl rfl ?_
  refine Ops.lss rfl rfl rfl ?_
  refine Ops.nil ?_
  refine thenQ_n ?_
  refine Cd.cond_p _ rfl (fun h2 => ?_) (fun h2 => ?_)
  ·obtain ⟨g, rfl⟩ : ∃ q, g = q + 1 := ⟨g - 1, by omega⟩
   rw [presK, if_pos (by omega)] at hpre
   have hLb : ∃ L : Int, L = (if k = i + 1 then gi labels (i : Int) else 2) ∧ 0 ≤ L ∧ L ≤ 32 := by
    refine ⟨_, rfl, ?_⟩
    split
    ·have := hl (gi labels (i : Int)) (by rw [gi_mem (by omega)]; exact List.getElem_mem _)
     exact this
    ·omega
   obtain ⟨L, hL, hL0, hL32⟩ := hLb
   refine Cd.skip ?_
   refine thenQ_n ?_
   refine Cd.seq ?_
   refine Cd.block ?_
   refine Cd.seq ?_
   refine Cd.region ?_
   refine Ops.mv_int rfl rfl rfl ?_
   refine Ops.nil ?_
   refine thenQ_n ?_
   refine Cd.join (α := Unit) (fun _ => [(0, .slice Al nl cl), (2, .pointer A2), (3, .pointer A3), (4, .int .i64 (i : Int)), (5, .int .i64 (k : Int)), (6, .int .i64 L)]) (fun _ w' => w' = w5) ?_ ?_
   ·refine Cd.seq ?_
    refine Cd.region ?_
    refine Ops.mv_int rfl rfl rfl ?_
    refine Ops.mv_int rfl rfl rfl ?_
    refine Ops.add rfl rfl rfl (by omega) ?_
    refine Ops.eql rfl rfl rfl ?_
    refine Ops.nil ?_
    refine thenQ_n ?_
    refine Cd.cond_p _ rfl (fun h3 => ?_) (fun h3 => ?_)
    ·have hRl := hS5.oldI hR
     refine Cd.region ?_
     refine Ops.mv_sl rfl rfl rfl ?_
     refine Ops.mv_int rfl rfl rfl ?_
     refine Ops.idx hRl.2 rfl rfl rfl (by omega) (by omega) ?_
     refine Ops.ld_int hRl rfl (by omega) rfl rfl ?_
     refine Ops.mv_int rfl rfl rfl ?_
     refine Ops.nil ?_
     refine thenQ_n ?_
     exact ⟨(), ⟨rfl, rfl, rfl, rfl, rfl, by rw [hL, if_pos (by omega)]; rfl, trivial⟩, rfl⟩
    ·refine Cd.skip ?_
     refine thenQ_n ?_
     exact ⟨(), ⟨rfl, rfl, rfl, rfl, rfl, by rw [hL, if_neg (by omega)]; rfl, trivial⟩, rfl⟩
   ·rintro ⟨⟩ e w6 rfl
    refine Cd.seq ?_
    refine Cd.region ?_
    refine Ops.mv_int rfl rfl rfl ?_
    refine Ops.gtr rfl rfl rfl ?_
    refine Ops.nil ?_
    refine thenQ_n ?_
    refine Cd.cond_p _ rfl (fun h4 => ?_) (fun h4 => ?_)
    ·have hrel : relOf labels i k = [pow [(i : Int), (k : Int)] L.toNat] := by
      unfold relOf
      rw [← hL, if_pos h4]
     rw [hrel] at hpre
     skip
     refine Cd.drawN [8, 10] [.ex (.pointer (ptrAt (A3) 1)), .ex (.slice (B) (n) (cB)), .ex (.int .i64 ((i : Int))), .ex (.int .i64 ((k : Int))), .pr (fun v w' => ∃ A38, v = .slice A38 2 2 ∧ St w w' (CkI 2 A38 2 2 [(i : Int), (k : Int)] :: Bx 180 2 A3 [.int .i64 ((nl : Int) + 1), .slice B n cB] :: Bx 180 2 A2 [.int .i64 0, .slice none 0 0] :: mat 34 2 B n cB rs xss)), .ex (.int .i64 (L)), .pr (fun v w' => ∃ A40 c40, v = .slice A40 (2 * L.toNat) c40 ∧ St w w' (CkI 2 A40 (2 * L.toNat) c40 (pow [(i : Int), (k : Int)] L.toNat) :: Bx 180 2 A3 [.int .i64 ((nl : Int) + 1), .slice B n cB] :: Bx 180 2 A2 [.int .i64 0, .slice none 0 0] :: mat 34 2 B n cB rs xss)), .pr (fun v w' => ∃ A40 c40 A41, v = .slice A41 1 1 ∧ St w w' (CkR 34 A41 1 1 [⟨A40, 2 * L.toNat, c40⟩] :: CkI 2 A40 (2 * L.toNat) c40 (pow [(i : Int), (k : Int)] L.toNat) :: Bx 180 2 A3 [.int .i64 ((nl : Int) + 1), .slice B n cB] :: Bx 180 2 A2 [.int .i64 0, .slice none 0 0] :: mat 34 2 B n cB rs xss)), .pr (fun v w' => ∃ A40 c40 A42 c42, v = .slice A42 (n + 1) c42 ∧ St w w' (CkI 2 A40 (2 * L.toNat) c40 (pow [(i : Int), (k : Int)] L.toNat) :: Bx 180 2 A3 [.int .i64 ((nl : Int) + 1), .slice B n cB] :: Bx 180 2 A2 [.int .i64 0, .slice none 0 0] :: CkR 34 A42 (n + 1) c42 (rs ++ [⟨A40, 2 * L.toNat, c40⟩]) :: rowsCk 2 rs xss)), .ex (.pointer (ptrAt (A3) 1)), .pr (fun _ w' => ∃ A40 c40 A42 c42, St w w' (CkI 2 A40 (2 * L.toNat) c40 (pow [(i : Int), (k : Int)] L.toNat) :: Bx 180 2 A3 [.int .i64 ((nl : Int) + 1), .slice A42 (n + 1) c42] :: Bx 180 2 A2 [.int .i64 0, .slice none 0 0] :: CkR 34 A42 (n + 1) c42 (rs ++ [⟨A40, 2 * L.toNat, c40⟩]) :: rowsCk 2 rs xss))] (by kernel_rfl) (by kernel_rfl) (List.forall_mem_cons.2 ⟨Yd.lasts_ex _, (List.forall_mem_cons.2 ⟨Yd.lasts_ex _, (List.forall_mem_cons.2 ⟨Yd.lasts_ex _, (List.forall_mem_cons.2 ⟨Yd.lasts_ex _, (List.forall_mem_cons.2 ⟨Yd.lasts_pr (fun v w w' h hb => by obtain ⟨A38, hv, h1⟩ := h; exact ⟨A38, hv, h1.later hb⟩), (List.forall_mem_cons.2 ⟨Yd.lasts_ex _, (List.forall_mem_cons.2 ⟨Yd.lasts_pr (fun v w w' h hb => by obtain ⟨A40, c40, hv, h1⟩ := h; exact ⟨A40, c40, hv, h1.later hb⟩), (List.forall_mem_cons.2 ⟨Yd.lasts_pr (fun v w w' h hb => by obtain ⟨A40, c40, A41, hv, h1⟩ := h; exact ⟨A40, c40, A41, hv, h1.later hb⟩), (List.forall_mem_cons.2 ⟨Yd.lasts_pr (fun v w w' h hb => by obtain ⟨A40, c40, A42, c42, hv, h1⟩ := h; exact ⟨A40, c40, A42, c42, hv, h1.later hb⟩), (List.forall_mem_cons.2 ⟨Yd.lasts_ex _, (List.forall_mem_cons.2 ⟨Yd.lasts_pr (fun v w w' h hb => by obtain ⟨A40, c40, A42, c42, h1⟩ := h; exact ⟨A40, c40, A42, c42, h1.later hb⟩), (fun _ h => by cases h)⟩)⟩)⟩)⟩)⟩)⟩)⟩)⟩)⟩)⟩)⟩) ⟨?_, ?_, ?_, ?_, ?_, ?_, ?_, ?_, ?_, ?_, ?_, trivial⟩ ?_
     ·intro e1 w1 cc hlo hhi hb0 hp hun hq
      show Ops _ _ _ _ _ _ _
      replace hlo := le_of_lo hlo (b := 0) (by kernel_rfl)
      replace hhi := le_of_hi hhi (b := 0) (by kernel_rfl)
      obtain rfl : cc = 0 := by omega
      have hb := hb0 rfl
      refine Ops.fld ((hS5.rd 0 rfl).below hb) rfl rfl rfl rfl inferInstance ?_
      refine Ops.nil ?_
      exact AfterN.dn rfl (Below.refl _ _) (by exact rfl)
     ·intro e1 w1 cc hlo hhi hb0 hp hun hq
      show Ops _ _ _ _ _ _ _
      replace hlo := le_of_lo hlo (b := 0) (by kernel_rfl)
      replace hhi := le_of_hi hhi (b := 0) (by kernel_rfl)
      obtain rfl : cc = 0 := by omega
      have hb := hb0 rfl
      refine Ops.ldf_s ((hS5.rd 0 rfl).below hb) rfl rfl rfl rfl rfl ?_
      refine Ops.nil ?_
      exact AfterN.dn rfl (Below.refl _ _) (by exact rfl)
     ·intro e1 w1 cc hlo hhi hb0 hp hun hq
      show Ops _ _ _ _ _ _ _
      refine Ops.mv_int rfl rfl rfl ?_
      refine Ops.nil ?_
      exact AfterN.dn rfl (Below.refl _ _) (by exact rfl)
     ·intro e1 w1 cc hlo hhi hb0 hp hun hq
      show Ops _ _ _ _ _ _ _
      refine Ops.mv_int rfl rfl rfl ?_
      refine Ops.nil ?_
      exact AfterN.dn rfl (Below.refl _ _) (by exact rfl)
     ·intro e1 w1 cc hlo hhi hb0 hp hun hq
      show Ops _ _ _ _ _ _ _
      replace hlo := le_of_lo hlo (b := 0) (by kernel_rfl)
      replace hhi := le_of_hi hhi (b := 0) (by kernel_rfl)
      obtain rfl : cc = 0 := by omega
      have hb := hb0 rfl
      refine Ops.bsL [(i : Int), (k : Int)] (St.refl _) rfl rfl (by decide) (by decide) rfl rfl ?_
      intro A38 w20 hst20
      refine Ops.nil ?_
      exact AfterN.dn rfl hst20.below ⟨A38, rfl, (hS5.later hb).call hst20⟩
     ·intro e1 w1 cc hlo hhi hb0 hp hun hq
      show Ops _ _ _ _ _ _ _
      refine Ops.mv_int rfl rfl rfl ?_
      refine Ops.nil ?_
      exact AfterN.dn rfl (Below.refl _ _) (by exact rfl)
     ·intro e1 w1 cc hlo hhi hb0 hp hun hq
      show Ops _ _ _ _ _ _ _
      replace hlo := le_of_lo hlo (b := 0) (by kernel_rfl)
      replace hhi := le_of_hi hhi (b := 0) (by kernel_rfl)
      obtain rfl : cc = 0 := by omega
      have hb := hb0 rfl
      obtain ⟨A38, hv, h1⟩ := (hp 4 _ _ (by kernel_rfl) rfl rfl (by kernel_rfl))
      have hb := hb0 rfl
      refine Ops.call (l11Power_c A38 2 2 [(i : Int), (k : Int)] L.toNat _ (h1.rdI 0 rfl) (by decide) (by omega)) rfl (by rw [Int.toNat_of_nonneg hL0]; exact congrArg (fun v => [v, Value.int .i64 L]) hv) rfl ?_
      rintro _ w21 ⟨A40, c40, rfl, hst21⟩
      refine Ops.nil ?_
      exact AfterN.dn rfl hst21.below ⟨A40, c40, rfl, (h1.tail).call hst21⟩
     ·intro e1 w1 cc hlo hhi hb0 hp hun hq
      show Ops _ _ _ _ _ _ _
      replace hlo := le_of_lo hlo (b := 0) (by kernel_rfl)
      replace hhi := le_of_hi hhi (b := 0) (by kernel_rfl)
      obtain rfl : cc = 0 := by omega
      have hb := hb0 rfl
      obtain ⟨A40, c40, hv, h1⟩ := (hp 6 _ _ (by kernel_rfl) rfl rfl (by kernel_rfl))
      have hb := hb0 rfl
      refine Ops.bs1R (St.refl _) (by exact hv) rfl rfl ?_
      intro A41 w22 hst22
      refine Ops.nil ?_
      exact AfterN.dn rfl hst22.below ⟨A40, c40, A41, rfl, h1.call hst22⟩
     ·intro e1 w1 cc hlo hhi hb0 hp hun hq
      show Ops _ _ _ _ _ _ _
      replace hlo := le_of_lo hlo (b := 0) (by kernel_rfl)
      replace hhi := le_of_hi hhi (b := 0) (by kernel_rfl)
      obtain rfl : cc = 0 := by omega
      have hb := hb0 rfl
      obtain ⟨A40, c40, A41, hv, h1⟩ := (hp 7 _ _ (by kernel_rfl) rfl rfl (by kernel_rfl))
      refine Ops.appR 4 h1 rfl (h1.rdR 0 rfl) rfl (by exact hv) rfl (by omega) (by omega) rfl ?_
      intro A42 c42 w23 hT23
      refine Ops.nil ?_
      exact AfterT.dn rfl ⟨A40, c40, A42, c42, rfl, hT23.tail⟩
     ·intro e1 w1 cc hlo hhi hb0 hp hun hq
      show Ops _ _ _ _ _ _ _
      replace hlo := le_of_lo hlo (b := 1) (by kernel_rfl)
      replace hhi := le_of_hi hhi (b := 1) (by kernel_rfl)
      obtain rfl : cc = 1 := by omega
      have hph := hp 8 _ _ (by kernel_rfl) rfl rfl (by kernel_rfl)
      obtain ⟨A40, c40, A42, c42, h42, hT⟩ := hph
      refine Ops.fld ((hT.rd 1 rfl)) rfl rfl rfl rfl inferInstance ?_
      refine Ops.nil ?_
      exact AfterN.dn rfl (Below.refl _ _) (by exact rfl)
     ·intro e1 w1 cc hlo hhi hb0 hp hun hq
      show Ops _ _ _ _ _ _ _
      replace hlo := le_of_lo hlo (b := 1) (by kernel_rfl)
      replace hhi := le_of_hi hhi (b := 1) (by kernel_rfl)
      obtain rfl : cc = 1 := by omega
      have hph := hp 8 _ _ (by kernel_rfl) rfl rfl (by kernel_rfl)
      obtain ⟨A40, c40, A42, c42, h42, hT⟩ := hph
      refine Ops.stf 1 hT rfl rfl (by exact h42) rfl rfl ?_
      intro w24 hT24
      refine Ops.nil ?_
      exact AfterT.st rfl ⟨A40, c40, A42, c42, hT24⟩
     intro u w7 _ hu
     obtain ⟨A40, c40, A42, c42, hT⟩ := hu 10 _ rfl (by kernel_rfl)
     refine blockQ_n ?_
     refine thenQ_n ?_
     refine Cd.region ?_
     refine Ops.mv_int rfl rfl rfl ?_
     refine Ops.add rfl rfl rfl (by omega) ?_
     refine Ops.mv_int rfl rfl rfl ?_
     refine Ops.nil ?_
     refine thenQ_n ?_
     refine ⟨⟨g, k + 1, A42, n + 1, c42, rs ++ [⟨A40, 2 * L.toNat, c40⟩], xss ++ [pow [(i : Int), (k : Int)] L.toNat]⟩, Nat.lt_succ_self g, ⟨rfl, rfl, rfl, rfl, rfl, trivial⟩, ?_, by simp [hrl], by simp [hxl], by show i + 1 ≤ k + 1; omega, by show n + 1 + i + 1 ≤ 20 * i + (k + 1); omega, by show k + 1 + g = 20; omega, by rw [← hpre]; simp⟩
     show St w w7 ([Bx 180 2 A3 [.int .i64 ((nl : Int) + 1), .slice A42 (n + 1) c42], Bx 180 2 A2 [.int .i64 0, .slice none 0 0]] ++ CkR 34 A42 (n + 1) c42 (rs ++ [⟨A40, 2 * L.toNat, c40⟩]) :: rowsCk 2 (rs ++ [⟨A40, 2 * L.toNat, c40⟩]) (xss ++ [pow [(i : Int), (k : Int)] L.toNat]))
     rw [rowsCk_append (by omega)]
     refine hT.perm ?_
     exact List.perm_append_comm (l₁ := [_]) (l₂ := Bx 180 2 A3 [.int .i64 ((nl : Int) + 1), .slice A42 (n + 1) c42] :: Bx 180 2 A2 [.int .i64 0, .slice none 0 0] :: CkR 34 A42 (n + 1) c42 (rs ++ [⟨A40, 2 * L.toNat, c40⟩]) :: rowsCk 2 rs xss)
    ·have hrel : relOf labels i k = [] := by
      unfold relOf
      rw [← hL, if_neg h4]
     rw [hrel] at hpre
     refine Cd.skip ?_
     refine blockQ_n ?_
     refine thenQ_n ?_
     refine Cd.region ?_
     refine Ops.mv_int rfl rfl rfl ?_
     refine Ops.add rfl rfl rfl (by omega) ?_
     refine Ops.mv_int rfl rfl rfl ?_
     refine Ops.nil ?_
     refine thenQ_n ?_
     exact ⟨⟨g, k + 1, B, n, cB, rs, xss⟩, Nat.lt_succ_self g, ⟨rfl, rfl, rfl, rfl, rfl, trivial⟩, hS5, hrl, hxl, by show i + 1 ≤ k + 1; omega, by show n + i + 1 ≤ 20 * i + (k + 1); omega, by show k + 1 + g = 20; omega, hpre⟩
  ·have hkk : presK labels (nl + 1) i g k = [] := by
    cases g with
    | zero => rfl
    | succ g => rw [presK, if_neg (by omega)]
   rw [hkk] at hpre
   refine Cd.exit ?_
   refine thenQ_x ?_
   refine thenQ_x ?_
   refine blockQ_x ?_
   refine blockQ_n ?_
   refine thenQ_n ?_
   refine Cd.region ?_
   refine Ops.mv_int rfl rfl rfl ?_
   refine Ops.add rfl rfl rfl (by omega) ?_
   refine Ops.mv_int rfl rfl rfl ?_
   refine Ops.nil ?_
   refine thenQ_n ?_
   exact ⟨⟨f, i + 1, B, n, cB, rs, xss⟩, Nat.lt_succ_self f, ⟨rfl, rfl, rfl, rfl, trivial⟩, hS5, hrl, hxl, by show n ≤ 20 * (i + 1); omega, by show i + 1 + f = 20; omega, hpre⟩
 ·have hii : presI labels (nl + 1) f i = [] := by
   cases f with
   | zero => rfl
   | succ f => rw [presI, if_neg (by omega)]
  rw [hii, List.append_nil] at hpre
  subst hpre
  refine Cd.exit ?_
  refine thenQ_x ?_
  refine thenQ_x ?_
  refine blockQ_x ?_
  refine thenQ_n ?_
  refine Cd.seq ?_
  refine Cd.region ?_
  refine Ops.ld_agg 1 (hS4.rd 0 rfl) rfl rfl rfl ?_
  skip
  refine Ops.st_agg 2 1 hS4 rfl rfl rfl rfl rfl rfl rfl ?_
  intro w5 hS5
  refine Ops.nil ?_
  refine thenQ_n ?_
  refine Cd.ret ?_
  skip
  refine retc_r rfl (hS5.rd 1 rfl) ?_
  refine ⟨B, cB, rs, by rw [hxl]; rfl, by omega, ?_⟩
  rw [hxl]
  exact (hS5.sub ((List.Sublist.refl _).cons _)).sub ((List.Sublist.refl _).cons _)
end Go.Proofs.YtjpkmpihmilgoaaGreat.Vc
/-
 The draws of maniplexes, walked: two beside each other. Conditions: as each states them.
-/
namespace Go.Proofs.YtjpkmpihmilgoaaGreat.Vc
open Go.RowKit

theorem beside_lt {N M v r : Int} (hv : 0 ≤ v ∧ v < N) (hr : 0 ≤ r ∧ r < M) (hb : N * M ≤ 1000000) : 0 ≤ v * M ∧ v * M ≤ 1000000 ∧ 0 ≤ v * M + r ∧ v * M + r < N * M := by
 have h1 : (v + 1) * M ≤ N * M := Int.mul_le_mul_of_nonneg_right (by omega) (by omega)
 have h2 : 0 ≤ v * M := Int.mul_nonneg hv.1 (by omega)
 rw [Int.add_mul, Int.one_mul] at h1
 omega
theorem GM.first {N : Nat} {xss : List (List Int)} (h : GM N xss) (hn : 0 < xss.length) : (gl xss 0).length = N := by
 have e : gl xss (0 : Nat) = xss[0] := gl_mem hn
 have e : gl xss 0 = xss[0] := e
 rw [e]
 exact (h _ (List.getElem_mem hn)).1
theorem GM.at_ {N : Nat} {xss : List (List Int)} (h : GM N xss) {i : Nat} (hi : i < xss.length) : Rg N (gl xss (i : Int)) := by
 rw [gl_mem hi]; exact h _ (List.getElem_mem hi)

theorem l02Beside_c (A : Option Addr) (n c : Nat) (rs : List SlV) (xss : List (List Int)) (N : Nat) (B : Option Addr) (m cB : Nat) (rs' : List SlV) (yss : List (List Int)) (M : Nat) (w : World) (hX : RowsI w A n rs xss) (hY : RowsI w B m rs' yss) (hn : 1 ≤ n ∧ n ≤ 100) (hm : 1 ≤ m ∧ m ≤ 100) (hx : GM N xss) (hy : GM M yss) (hN : 1 ≤ N) (hM : 1 ≤ M) (hNM : N * M ≤ 1000000) :
  Ret Tryz.prog 207 [.agg #[.slice A n c], .agg #[.slice B m cB]] w (AnsG (n + m) (N * M) w) := by
 have hxl := hX.len
 have hyl := hY.len
 have hxN := hx.first (by omega)
 have hyM := hy.first (by omega)
 have hNMi : (N : Int) * (M : Int) ≤ 1000000 := by
  rw [← Int.natCast_mul]
  exact Int.ofNat_le.2 hNM
 refine Ret.of_cd Tryz.func207 rfl Tryz.ntmps207 rfl (postc rfl rfl) ?_
 refine Cd.seq ?_
 refine Cd.region ?_
 refine Ops.box1 (St.refl w) rfl rfl ?_
 intro A2 w1 hS1
 skip
 refine Ops.box1 hS1 rfl rfl ?_
 intro A3 w2 hS2
 skip
 refine Ops.new1 hS2 rfl ?_
 intro A4 w3 hS3
 refine Ops.nil ?_
 refine thenQ_n ?_
 refine Cd.seq ?_
 refine Cd.draw [.ex (.agg #[.slice (A) (n) (c)]), .ex (.int .i64 ((gl xss 0).length : Int)), .ex (.agg #[.slice (B) (m) (cB)]), .ex (.int .i64 ((gl yss 0).length : Int)), .ex (.int .i64 ((gl xss 0).length : Int)), .ex (.int .i64 ((gl yss 0).length : Int))] (by kernel_rfl) (by kernel_rfl) rfl (List.forall_mem_cons.2 ⟨Yd.lasts_ex _, (List.forall_mem_cons.2 ⟨Yd.lasts_ex _, (List.forall_mem_cons.2 ⟨Yd.lasts_ex _, (List.forall_mem_cons.2 ⟨Yd.lasts_ex _, (List.forall_mem_cons.2 ⟨Yd.lasts_ex _, (List.forall_mem_cons.2 ⟨Yd.lasts_ex _, (fun _ h => by cases h)⟩)⟩)⟩)⟩)⟩)⟩) ⟨?_, ?_, ?_, ?_, ?_, ?_, trivial⟩ ?_
 ·intro e1 w1 hb hp hun
  refine Ops.ld_agg 0 ((hS3.rd 2 rfl).below hb) rfl rfl rfl ?_
  refine Ops.nil ?_
  exact After.dn (Below.refl _ _) (by exact rfl)
 ·intro e1 w1 hb hp hun
  refine Ops.call (l02Flags_c A n c rs xss _ ((hS3.later hb).oldRows hX) (by omega)) rfl rfl rfl ?_
  rintro _ w2 ⟨rfl, hst⟩
  refine Ops.nil ?_
  exact After.dn hst.below (by exact rfl)
 ·intro e1 w1 hb hp hun
  refine Ops.ld_agg 0 ((hS3.rd 1 rfl).below hb) rfl rfl rfl ?_
  refine Ops.nil ?_
  exact After.dn (Below.refl _ _) (by exact rfl)
 ·intro e1 w1 hb hp hun
  refine Ops.call (l02Flags_c B m cB rs' yss _ ((hS3.later hb).oldRows hY) (by omega)) rfl rfl rfl ?_
  rintro _ w2 ⟨rfl, hst⟩
  refine Ops.nil ?_
  exact After.dn hst.below (by exact rfl)
 ·intro e1 w1 hb hp hun
  refine Ops.mv_int rfl rfl rfl ?_
  refine Ops.nil ?_
  exact After.dn (Below.refl _ _) (by exact rfl)
 ·intro e1 w1 hb hp hun
  refine Ops.mv_int rfl rfl rfl ?_
  refine Ops.nil ?_
  exact After.dn (Below.refl _ _) (by exact rfl)
 intro u w4 hb4 _
 have hS4 := hS3.later hb4
 rw [hxN, hyM]
 refine thenQ_n ?_
 refine Cd.seq ?_
 refine Cd.region ?_
 refine Ops.bld0 (by exact inferInstance) rfl ?_
 refine Ops.new1 hS4 rfl ?_
 intro A7 w5 hS5
 skip
 refine Ops.st_agg 1 0 hS5 rfl rfl rfl rfl rfl rfl rfl ?_
 intro w6 hS6
 have hS6 : St w w6 ([Bx 32 1 A7 [.slice none 0 0], Bx 32 1 A4 [.slice none 0 0], Bx 32 1 A3 [.slice B m cB], Bx 32 1 A2 [.slice A n c]] ++ mat 34 2 none 0 0 [] []) := (hS6.nil _).perm (List.perm_append_comm (l₁ := [_]) (l₂ := [_, _, _, _]))
 refine Ops.nil ?_
 refine thenQ_n ?_
 refine Cd.seq ?_
 refine Cd.seq ?_
 refine Cd.region ?_
 refine Ops.mv_int rfl rfl rfl ?_
 refine Ops.nil ?_
 refine thenQ_n ?_
 refine Cd.block ?_
 refine Cd.loop (α := PrS) (fun s => [(2, .pointer A2), (3, .pointer A3), (4, .pointer A4), (5, .int .i64 (N : Int)), (6, .int .i64 (M : Int)), (7, .pointer A7), (8, .int .i64 (s.n : Int))]) (fun s w' => St w w' ([Bx 32 1 A7 [.slice s.B s.n s.c], Bx 32 1 A4 [.slice none 0 0], Bx 32 1 A3 [.slice B m cB], Bx 32 1 A2 [.slice A n c]] ++ mat 34 2 s.B s.n s.c s.rs s.xss) ∧ s.n ≤ n + m ∧ s.rs.length = s.n ∧ s.xss.length = s.n ∧ GM (N * M) s.xss) (fun s => n + m - s.n) ⟨0, 0, none, 0, 0, [], []⟩ ⟨rfl, rfl, rfl, rfl, rfl, rfl, rfl, trivial⟩ ⟨hS6, Nat.zero_le _, rfl, rfl, fun p hp => (nomatch hp)⟩ ?_
 rintro ⟨_, _, C, i, cC, rsC, zss⟩ e w7 ⟨hS7, hi, hrl, hzl, hz⟩
 dsimp only at hS7 hi hrl hzl hz ⊢
 refine Cd.seq ?_
 refine Cd.seq ?_
 refine Cd.region ?_
 refine Ops.mv_int rfl rfl rfl ?_
 refine Ops.fld (hS7.rd 3 rfl) rfl rfl rfl rfl inferInstance ?_
 refine Ops.ldf_s (hS7.rd 3 rfl) rfl rfl rfl rfl rfl ?_
 refine Ops.len rfl rfl ?_
 refine Ops.fld (hS7.rd 2 rfl) rfl rfl rfl rfl inferInstance ?_
 refine Ops.ldf_s (hS7.rd 2 rfl) rfl rfl rfl rfl rfl ?_
 refine Ops.len rfl rfl ?_
 refine Ops.add rfl rfl rfl (by omega) ?_
 refine Ops.lss rfl rfl rfl ?_
 refine Ops.nil ?_
 refine thenQ_n ?_
 refine Cd.cond_p _ rfl (fun h1 => ?_) (fun h1 => ?_)
 ·refine Cd.skip ?_
  refine thenQ_n ?_
  refine Cd.seq ?_
  refine Cd.block ?_
  refine Cd.seq ?_
  refine Cd.region ?_
  refine Ops.bs0 hS7 rfl ?_
  intro A9 w8 hS8
  refine Ops.mv_sl rfl rfl rfl ?_
  refine Ops.nil ?_
  refine thenQ_n ?_
  refine Cd.seq ?_
  refine Cd.seq ?_
  refine Cd.region ?_
  refine Ops.mv_int rfl rfl rfl ?_
  refine Ops.nil ?_
  refine thenQ_n ?_
  refine Cd.block ?_
  refine Cd.loop (α := Nat × Option Addr × Nat × List Int) (fun s => [(2, .pointer A2), (3, .pointer A3), (4, .pointer A4), (5, .int .i64 (N : Int)), (6, .int .i64 (M : Int)), (7, .pointer A7), (8, .int .i64 (i : Int)), (9, .slice s.2.1 s.1 s.2.2.1), (10, .int .i64 (s.1 : Int))]) (fun s w' => St w w' (CkI 2 s.2.1 s.1 s.2.2.1 s.2.2.2 :: ([Bx 32 1 A7 [.slice C i cC], Bx 32 1 A4 [.slice none 0 0], Bx 32 1 A3 [.slice B m cB], Bx 32 1 A2 [.slice A n c]] ++ mat 34 2 C i cC rsC zss)) ∧ s.1 ≤ N * M ∧ s.2.2.2.length = s.1 ∧ ∀ x ∈ s.2.2.2, 0 ≤ x ∧ x < ((N * M : Nat) : Int)) (fun s => N * M - s.1) (0, A9, 0, []) ⟨rfl, rfl, rfl, rfl, rfl, rfl, rfl, rfl, rfl, trivial⟩ ⟨hS8, Nat.zero_le _, rfl, fun x hx => (nomatch hx)⟩ ?_
  rintro ⟨f, A9, c9, acc⟩ e w9 ⟨hS9, hf, hal, hacc⟩
  dsimp only at hS9 hf hal hacc ⊢
  have hNMe : (N : Int) * (M : Int) = ((N * M : Nat) : Int) := (Int.natCast_mul N M).symm
  refine Cd.seq ?_
  refine Cd.seq ?_
  refine Cd.region ?_
  refine Ops.mv_int rfl rfl rfl ?_
  refine Ops.mv_int rfl rfl rfl ?_
  refine Ops.mv_int rfl rfl rfl ?_
  refine Ops.mul rfl rfl rfl (by omega) ?_
  rw [hNMe]
  refine Ops.lss rfl rfl rfl ?_
  refine Ops.nil ?_
  refine thenQ_n ?_
  refine Cd.cond_p _ rfl (fun h2 => ?_) (fun h2 => ?_)
  ·have hq0 : 0 ≤ (f : Int) / (M : Int) := Int.ediv_nonneg (by omega) (by omega)
   have hq1 : (f : Int) / (M : Int) < (N : Int) := Int.ediv_lt_of_lt_mul (by omega) (by omega)
   have hr0 := Int.emod_nonneg (f : Int) (b := (M : Int)) (by omega)
   have hr1 := Int.emod_lt_of_pos (f : Int) (b := (M : Int)) (by omega)
   have hX9 := hS9.oldRows hX
   have hY9 := hS9.oldRows hY
   refine Cd.skip ?_
   refine thenQ_n ?_
   refine Cd.seq ?_
   refine Cd.block ?_
   refine Cd.seq ?_
   refine Cd.region ?_
   refine Ops.mv_int rfl rfl rfl ?_
   refine Ops.fld (hS9.rd 4 rfl) rfl rfl rfl rfl inferInstance ?_
   refine Ops.ldf_s (hS9.rd 4 rfl) rfl rfl rfl rfl rfl ?_
   refine Ops.len rfl rfl ?_
   refine Ops.lss rfl rfl rfl ?_
   refine Ops.nil ?_
   refine thenQ_n ?_
   refine Cd.cond_p _ rfl (fun h3 => ?_) (fun h3 => ?_)
   ·have hrow := hX9.at_ (i := (i : Int)) (by omega) (by omega)
    have hrg := hx.at_ (i := i) (by omega)
    have hrn : (rg rs (i : Int)).n = N := by rw [← hrow.1, hrg.1]
    have hv := hrg.gi hq0 hq1
    have hbd := beside_lt (N := (N : Int)) (M := (M : Int)) hv ⟨hr0, hr1⟩ hNMi
    generalize hV : gi (gl xss (i : Int)) ((f : Int) / (M : Int)) = v at hv hbd
    skip
    refine Cd.drawN [18] [.ex (.slice (A9) (f) (c9)), .ex (.pointer (ptrAt (A2) 0)), .ex (.slice (A) (n) (c)), .ex (.int .i64 ((i : Int))), .ex (.pointer (ptrAt (A) ((i : Int)).toNat)), .ex (.slice ((rg (rs) ((i : Int))).a) ((rg (rs) ((i : Int))).n) ((rg (rs) ((i : Int))).c)), .ex (.int .i64 ((f : Int))), .ex (.int .i64 ((M : Int))), .ex (.int .i64 ((f : Int) / (M : Int))), .ex (.pointer (ptrAt ((rg (rs) ((i : Int))).a) ((f : Int) / (M : Int)).toNat)), .ex (.int .i64 (v)), .ex (.int .i64 ((M : Int))), .ex (.int .i64 (v * (M : Int))), .ex (.int .i64 ((f : Int))), .ex (.int .i64 ((M : Int))), .ex (.int .i64 ((f : Int) % (M : Int))), .ex (.int .i64 ((v * (M : Int)) + ((f : Int) % (M : Int)))), .pr (fun v' w' => ∃ A57, v' = .slice A57 1 1 ∧ St w w' (CkI 2 A57 1 1 [v * (M : Int) + (f : Int) % (M : Int)] :: CkI 2 A9 f c9 acc :: ([Bx 32 1 A7 [.slice C i cC], Bx 32 1 A4 [.slice none 0 0], Bx 32 1 A3 [.slice B m cB], Bx 32 1 A2 [.slice A n c]] ++ mat 34 2 C i cC rsC zss))), .pr (fun v' w' => ∃ A21 c21, v' = .slice A21 (f + 1) c21 ∧ St w w' (CkI 2 A21 (f + 1) c21 (acc ++ [v * (M : Int) + (f : Int) % (M : Int)]) :: ([Bx 32 1 A7 [.slice C i cC], Bx 32 1 A4 [.slice none 0 0], Bx 32 1 A3 [.slice B m cB], Bx 32 1 A2 [.slice A n c]] ++ mat 34 2 C i cC rsC zss))), .pr (fun v' w' => ∃ A21 c21, v' = .slice A21 (f + 1) c21 ∧ St w w' (CkI 2 A21 (f + 1) c21 (acc ++ [v * (M : Int) + (f : Int) % (M : Int)]) :: ([Bx 32 1 A7 [.slice C i cC], Bx 32 1 A4 [.slice none 0 0], Bx 32 1 A3 [.slice B m cB], Bx 32 1 A2 [.slice A n c]] ++ mat 34 2 C i cC rsC zss)))] (by kernel_rfl) (by kernel_rfl) (List.forall_mem_cons.2 ⟨Yd.lasts_ex _, (List.forall_mem_cons.2 ⟨Yd.lasts_ex _, (List.forall_mem_cons.2 ⟨Yd.lasts_ex _, (List.forall_mem_cons.2 ⟨Yd.lasts_ex _, (List.forall_mem_cons.2 ⟨Yd.lasts_ex _, (List.forall_mem_cons.2 ⟨Yd.lasts_ex _, (List.forall_mem_cons.2 ⟨Yd.lasts_ex _, (List.forall_mem_cons.2 ⟨Yd.lasts_ex _, (List.forall_mem_cons.2 ⟨Yd.lasts_ex _, (List.forall_mem_cons.2 ⟨Yd.lasts_ex _, (List.forall_mem_cons.2 ⟨Yd.lasts_ex _, (List.forall_mem_cons.2 ⟨Yd.lasts_ex _, (List.forall_mem_cons.2 ⟨Yd.lasts_ex _, (List.forall_mem_cons.2 ⟨Yd.lasts_ex _, (List.forall_mem_cons.2 ⟨Yd.lasts_ex _, (List.forall_mem_cons.2 ⟨Yd.lasts_ex _, (List.forall_mem_cons.2 ⟨Yd.lasts_ex _, (List.forall_mem_cons.2 ⟨Yd.lasts_pr (fun v w w' h hb => by obtain ⟨A20, hv, h1⟩ := h; exact ⟨A20, hv, h1.later hb⟩), (List.forall_mem_cons.2 ⟨Yd.lasts_pr (fun v w w' h hb => by obtain ⟨A21, c21, hv, h1⟩ := h; exact ⟨A21, c21, hv, h1.later hb⟩), (List.forall_mem_cons.2 ⟨Yd.lasts_pr (fun v w w' h hb => by obtain ⟨A21, c21, hv, h1⟩ := h; exact ⟨A21, c21, hv, h1.later hb⟩), (fun _ h => by cases h)⟩)⟩)⟩)⟩)⟩)⟩)⟩)⟩)⟩)⟩)⟩)⟩)⟩)⟩)⟩)⟩)⟩)⟩)⟩)⟩) ⟨?_, ?_, ?_, ?_, ?_, ?_, ?_, ?_, ?_, ?_, ?_, ?_, ?_, ?_, ?_, ?_, ?_, ?_, ?_, ?_, trivial⟩ ?_
    ·intro e1 w1 cc hlo hhi hb0 hp hun hq
     show Ops _ _ _ _ _ _ _
     replace hlo := le_of_lo hlo (b := 0) (by kernel_rfl)
     replace hhi := le_of_hi hhi (b := 0) (by kernel_rfl)
     obtain rfl : cc = 0 := by omega
     have hb := hb0 rfl
     refine Ops.mv_sl rfl (by exact hun 19 _ rfl (by kernel_rfl)) rfl ?_
     refine Ops.nil ?_
     exact AfterN.dn rfl (Below.refl _ _) (by exact rfl)
    ·intro e1 w1 cc hlo hhi hb0 hp hun hq
     show Ops _ _ _ _ _ _ _
     replace hlo := le_of_lo hlo (b := 0) (by kernel_rfl)
     replace hhi := le_of_hi hhi (b := 0) (by kernel_rfl)
     obtain rfl : cc = 0 := by omega
     have hb := hb0 rfl
     refine Ops.fld ((hS9.rd 4 rfl).below hb) rfl rfl rfl rfl inferInstance ?_
     refine Ops.nil ?_
     exact AfterN.dn rfl (Below.refl _ _) (by exact rfl)
    ·intro e1 w1 cc hlo hhi hb0 hp hun hq
     show Ops _ _ _ _ _ _ _
     replace hlo := le_of_lo hlo (b := 0) (by kernel_rfl)
     replace hhi := le_of_hi hhi (b := 0) (by kernel_rfl)
     obtain rfl : cc = 0 := by omega
     have hb := hb0 rfl
     refine Ops.ldf_s ((hS9.rd 4 rfl).below hb) rfl rfl rfl rfl rfl ?_
     refine Ops.nil ?_
     exact AfterN.dn rfl (Below.refl _ _) (by exact rfl)
    ·intro e1 w1 cc hlo hhi hb0 hp hun hq
     show Ops _ _ _ _ _ _ _
     refine Ops.mv_int rfl rfl rfl ?_
     refine Ops.nil ?_
     exact AfterN.dn rfl (Below.refl _ _) (by exact rfl)
    ·intro e1 w1 cc hlo hhi hb0 hp hun hq
     show Ops _ _ _ _ _ _ _
     replace hlo := le_of_lo hlo (b := 0) (by kernel_rfl)
     replace hhi := le_of_hi hhi (b := 0) (by kernel_rfl)
     obtain rfl : cc = 0 := by omega
     have hb := hb0 rfl
     refine Ops.idx (hX9.top.later hb).2 rfl rfl rfl (by omega) (by omega) ?_
     refine Ops.nil ?_
     exact AfterN.dn rfl (Below.refl _ _) (by exact rfl)
    ·intro e1 w1 cc hlo hhi hb0 hp hun hq
     show Ops _ _ _ _ _ _ _
     replace hlo := le_of_lo hlo (b := 0) (by kernel_rfl)
     replace hhi := le_of_hi hhi (b := 0) (by kernel_rfl)
     obtain rfl : cc = 0 := by omega
     have hb := hb0 rfl
     refine Ops.ld_sl (hX9.top.later hb) rfl (by omega) rfl rfl ?_
     refine Ops.nil ?_
     exact AfterN.dn rfl (Below.refl _ _) (by exact rfl)
    ·intro e1 w1 cc hlo hhi hb0 hp hun hq
     show Ops _ _ _ _ _ _ _
     refine Ops.mv_int rfl rfl rfl ?_
     refine Ops.nil ?_
     exact AfterN.dn rfl (Below.refl _ _) (by exact rfl)
    ·intro e1 w1 cc hlo hhi hb0 hp hun hq
     show Ops _ _ _ _ _ _ _
     refine Ops.mv_int rfl rfl rfl ?_
     refine Ops.nil ?_
     exact AfterN.dn rfl (Below.refl _ _) (by exact rfl)
    ·intro e1 w1 cc hlo hhi hb0 hp hun hq
     show Ops _ _ _ _ _ _ _
     refine Ops.quo rfl rfl rfl (by omega) ?_
     refine Ops.nil ?_
     exact AfterN.dn rfl (Below.refl _ _) (by exact rfl)
    ·intro e1 w1 cc hlo hhi hb0 hp hun hq
     show Ops _ _ _ _ _ _ _
     replace hlo := le_of_lo hlo (b := 0) (by kernel_rfl)
     replace hhi := le_of_hi hhi (b := 0) (by kernel_rfl)
     obtain rfl : cc = 0 := by omega
     have hb := hb0 rfl
     refine Ops.idx (hrow.later hb).2 rfl rfl rfl (by omega) (by omega) ?_
     refine Ops.nil ?_
     exact AfterN.dn rfl (Below.refl _ _) (by exact rfl)
    ·intro e1 w1 cc hlo hhi hb0 hp hun hq
     show Ops _ _ _ _ _ _ _
     replace hlo := le_of_lo hlo (b := 0) (by kernel_rfl)
     replace hhi := le_of_hi hhi (b := 0) (by kernel_rfl)
     obtain rfl : cc = 0 := by omega
     have hb := hb0 rfl
     refine Ops.ld_int (hrow.later (hb0 rfl)) rfl (by omega) rfl rfl ?_
     refine Ops.nil ?_
     exact AfterN.dn rfl (Below.refl _ _) (by exact congrArg (Value.int .i64) hV)
    ·intro e1 w1 cc hlo hhi hb0 hp hun hq
     show Ops _ _ _ _ _ _ _
     refine Ops.mv_int rfl rfl rfl ?_
     refine Ops.nil ?_
     exact AfterN.dn rfl (Below.refl _ _) (by exact rfl)
    ·intro e1 w1 cc hlo hhi hb0 hp hun hq
     show Ops _ _ _ _ _ _ _
     refine Ops.mul rfl rfl rfl (by omega) ?_
     refine Ops.nil ?_
     exact AfterN.dn rfl (Below.refl _ _) (by exact rfl)
    ·intro e1 w1 cc hlo hhi hb0 hp hun hq
     show Ops _ _ _ _ _ _ _
     refine Ops.mv_int rfl rfl rfl ?_
     refine Ops.nil ?_
     exact AfterN.dn rfl (Below.refl _ _) (by exact rfl)
    ·intro e1 w1 cc hlo hhi hb0 hp hun hq
     show Ops _ _ _ _ _ _ _
     refine Ops.mv_int rfl rfl rfl ?_
     refine Ops.nil ?_
     exact AfterN.dn rfl (Below.refl _ _) (by exact rfl)
    ·intro e1 w1 cc hlo hhi hb0 hp hun hq
     show Ops _ _ _ _ _ _ _
     refine Ops.rem rfl rfl rfl (by omega) ?_
     refine Ops.nil ?_
     exact AfterN.dn rfl (Below.refl _ _) (by exact rfl)
    ·intro e1 w1 cc hlo hhi hb0 hp hun hq
     show Ops _ _ _ _ _ _ _
     refine Ops.add rfl rfl rfl (by omega) ?_
     refine Ops.nil ?_
     exact AfterN.dn rfl (Below.refl _ _) (by exact rfl)
    ·intro e1 w1 cc hlo hhi hb0 hp hun hq
     show Ops _ _ _ _ _ _ _
     replace hlo := le_of_lo hlo (b := 0) (by kernel_rfl)
     replace hhi := le_of_hi hhi (b := 0) (by kernel_rfl)
     obtain rfl : cc = 0 := by omega
     have hb := hb0 rfl
     refine Ops.bs1I (St.refl _) rfl rfl rfl ?_
     intro A20 w20 hst20
     refine Ops.nil ?_
     exact AfterN.dn rfl hst20.below ⟨A20, rfl, (hS9.later hb).call hst20⟩
    ·intro e1 w1 cc hlo hhi hb0 hp hun hq
     show Ops _ _ _ _ _ _ _
     replace hlo := le_of_lo hlo (b := 0) (by kernel_rfl)
     replace hhi := le_of_hi hhi (b := 0) (by kernel_rfl)
     obtain rfl : cc = 0 := by omega
     have hb := hb0 rfl
     obtain ⟨A20, hv', h1⟩ := (hp 17 _ _ (by kernel_rfl) rfl rfl (by kernel_rfl))
     refine Ops.appI 1 h1 rfl (h1.rdI 0 rfl) rfl (by exact hv') rfl (by omega) (by omega) rfl ?_
     intro A21 c21 w21 hT21
     refine Ops.nil ?_
     exact AfterT.dn rfl ⟨A21, c21, rfl, hT21.tail⟩
    ·intro e1 w1 cc hlo hhi hb0 hp hun hq
     show Ops _ _ _ _ _ _ _
     replace hlo := le_of_lo hlo (b := 1) (by kernel_rfl)
     replace hhi := le_of_hi hhi (b := 1) (by kernel_rfl)
     obtain rfl : cc = 1 := by omega
     have hph := hp 18 _ _ (by kernel_rfl) rfl rfl (by kernel_rfl)
     obtain ⟨A21, c21, hv', h1⟩ := (hp 18 _ _ (by kernel_rfl) rfl rfl (by kernel_rfl))
     refine Ops.mv_sl rfl (by exact hv') rfl ?_
     refine Ops.nil ?_
     exact AfterN.dn rfl (Below.refl _ _) ⟨A21, c21, rfl, h1⟩
    intro u w10 _ hu
    obtain ⟨A21, c21, hv9, hT⟩ := hu 19 _ rfl (by kernel_rfl)
    refine blockQ_n ?_
    refine thenQ_n ?_
    refine Cd.region ?_
    refine Ops.mv_int rfl rfl rfl ?_
    refine Ops.add rfl rfl rfl (by omega) ?_
    refine Ops.mv_int rfl rfl rfl ?_
    refine Ops.nil ?_
    refine thenQ_n ?_
    refine ⟨(f + 1, A21, c21, acc ++ [v * (M : Int) + (f : Int) % (M : Int)]), by show N * M - (f + 1) < N * M - f; omega, ⟨rfl, rfl, rfl, rfl, rfl, rfl, rfl, hv9, rfl, trivial⟩, hT, by show f + 1 ≤ N * M; omega, by simp [hal], fun x hx' => ?_⟩
    rcases List.mem_append.1 hx' with h | h
    ·exact hacc x h
    ·rw [List.mem_singleton] at h; subst h; omega
   ·have hrow := hY9.at_ (i := (i : Int) - (n : Int)) (by omega) (by omega)
    obtain ⟨j, hj⟩ : ∃ j : Nat, (i : Int) - (n : Int) = j := ⟨i - n, by omega⟩
    have hrg := hy.at_ (i := j) (by omega)
    rw [← hj] at hrg
    have hrn : (rg rs' ((i : Int) - (n : Int))).n = M := by rw [← hrow.1, hrg.1]
    have hv := hrg.gi hr0 hr1
    have hbd := beside_lt (N := (N : Int)) (M := (M : Int)) (v := (f : Int) / (M : Int)) ⟨hq0, hq1⟩ hv hNMi
    generalize hV : gi (gl yss ((i : Int) - (n : Int))) ((f : Int) % (M : Int)) = v at hv hbd
    skip
    refine Cd.drawN [22] [.ex (.slice (A9) (f) (c9)), .ex (.int .i64 ((f : Int))), .ex (.int .i64 ((M : Int))), .ex (.int .i64 ((f : Int) / (M : Int))), .ex (.int .i64 ((M : Int))), .ex (.int .i64 ((f : Int) / (M : Int) * (M : Int))), .ex (.pointer (ptrAt (A3) 0)), .ex (.slice (B) (m) (cB)), .ex (.int .i64 ((i : Int))), .ex (.pointer (ptrAt (A2) 0)), .ex (.slice (A) (n) (c)), .ex (.int .i64 (((n : Nat) : Int))), .ex (.int .i64 (((i : Int)) - (((n : Nat) : Int)))), .ex (.pointer (ptrAt (B) (((i : Int)) - (((n : Nat) : Int))).toNat)), .ex (.slice ((rg (rs') (((i : Int)) - (((n : Nat) : Int)))).a) ((rg (rs') (((i : Int)) - (((n : Nat) : Int)))).n) ((rg (rs') (((i : Int)) - (((n : Nat) : Int)))).c)), .ex (.int .i64 ((f : Int))), .ex (.int .i64 ((M : Int))), .ex (.int .i64 ((f : Int) % (M : Int))), .ex (.pointer (ptrAt ((rg (rs') (((i : Int)) - (((n : Nat) : Int)))).a) ((f : Int) % (M : Int)).toNat)), .ex (.int .i64 (v)), .ex (.int .i64 (((f : Int) / (M : Int) * (M : Int)) + (v))), .pr (fun v' w' => ∃ A57, v' = .slice A57 1 1 ∧ St w w' (CkI 2 A57 1 1 [(f : Int) / (M : Int) * (M : Int) + v] :: CkI 2 A9 f c9 acc :: ([Bx 32 1 A7 [.slice C i cC], Bx 32 1 A4 [.slice none 0 0], Bx 32 1 A3 [.slice B m cB], Bx 32 1 A2 [.slice A n c]] ++ mat 34 2 C i cC rsC zss))), .pr (fun v' w' => ∃ A21 c21, v' = .slice A21 (f + 1) c21 ∧ St w w' (CkI 2 A21 (f + 1) c21 (acc ++ [(f : Int) / (M : Int) * (M : Int) + v]) :: ([Bx 32 1 A7 [.slice C i cC], Bx 32 1 A4 [.slice none 0 0], Bx 32 1 A3 [.slice B m cB], Bx 32 1 A2 [.slice A n c]] ++ mat 34 2 C i cC rsC zss))), .pr (fun v' w' => ∃ A21 c21, v' = .slice A21 (f + 1) c21 ∧ St w w' (CkI 2 A21 (f + 1) c21 (acc ++ [(f : Int) / (M : Int) * (M : Int) + v]) :: ([Bx 32 1 A7 [.slice C i cC], Bx 32 1 A4 [.slice none 0 0], Bx 32 1 A3 [.slice B m cB], Bx 32 1 A2 [.slice A n c]] ++ mat 34 2 C i cC rsC zss)))] (by kernel_rfl) (by kernel_rfl) (List.forall_mem_cons.2 ⟨Yd.lasts_ex _, (List.forall_mem_cons.2 ⟨Yd.lasts_ex _, (List.forall_mem_cons.2 ⟨Yd.lasts_ex _, (List.forall_mem_cons.2 ⟨Yd.lasts_ex _, (List.forall_mem_cons.2 ⟨Yd.lasts_ex _, (List.forall_mem_cons.2 ⟨Yd.lasts_ex _, (List.forall_mem_cons.2 ⟨Yd.lasts_ex _, (List.forall_mem_cons.2 ⟨Yd.lasts_ex _, (List.forall_mem_cons.2 ⟨Yd.lasts_ex _, (List.forall_mem_cons.2 ⟨Yd.lasts_ex _, (List.forall_mem_cons.2 ⟨Yd.lasts_ex _, (List.forall_mem_cons.2 ⟨Yd.lasts_ex _, (List.forall_mem_cons.2 ⟨Yd.lasts_ex _, (List.forall_mem_cons.2 ⟨Yd.lasts_ex _, (List.forall_mem_cons.2 ⟨Yd.lasts_ex _, (List.forall_mem_cons.2 ⟨Yd.lasts_ex _, (List.forall_mem_cons.2 ⟨Yd.lasts_ex _, (List.forall_mem_cons.2 ⟨Yd.lasts_ex _, (List.forall_mem_cons.2 ⟨Yd.lasts_ex _, (List.forall_mem_cons.2 ⟨Yd.lasts_ex _, (List.forall_mem_cons.2 ⟨Yd.lasts_ex _, (List.forall_mem_cons.2 ⟨Yd.lasts_pr (fun v w w' h hb => by obtain ⟨A20, hv, h1⟩ := h; exact ⟨A20, hv, h1.later hb⟩), (List.forall_mem_cons.2 ⟨Yd.lasts_pr (fun v w w' h hb => by obtain ⟨A21, c21, hv, h1⟩ := h; exact ⟨A21, c21, hv, h1.later hb⟩), (List.forall_mem_cons.2 ⟨Yd.lasts_pr (fun v w w' h hb => by obtain ⟨A21, c21, hv, h1⟩ := h; exact ⟨A21, c21, hv, h1.later hb⟩), (fun _ h => by cases h)⟩)⟩)⟩)⟩)⟩)⟩)⟩)⟩)⟩)⟩)⟩)⟩)⟩)⟩)⟩)⟩)⟩)⟩)⟩)⟩)⟩)⟩)⟩)⟩) ⟨?_, ?_, ?_, ?_, ?_, ?_, ?_, ?_, ?_, ?_, ?_, ?_, ?_, ?_, ?_, ?_, ?_, ?_, ?_, ?_, ?_, ?_, ?_, ?_, trivial⟩ ?_
    ·intro e1 w1 cc hlo hhi hb0 hp hun hq
     show Ops _ _ _ _ _ _ _
     replace hlo := le_of_lo hlo (b := 0) (by kernel_rfl)
     replace hhi := le_of_hi hhi (b := 0) (by kernel_rfl)
     obtain rfl : cc = 0 := by omega
     have hb := hb0 rfl
     refine Ops.mv_sl rfl (by exact hun 23 _ rfl (by kernel_rfl)) rfl ?_
     refine Ops.nil ?_
     exact AfterN.dn rfl (Below.refl _ _) (by exact rfl)
    ·intro e1 w1 cc hlo hhi hb0 hp hun hq
     show Ops _ _ _ _ _ _ _
     refine Ops.mv_int rfl rfl rfl ?_
     refine Ops.nil ?_
     exact AfterN.dn rfl (Below.refl _ _) (by exact rfl)
    ·intro e1 w1 cc hlo hhi hb0 hp hun hq
     show Ops _ _ _ _ _ _ _
     refine Ops.mv_int rfl rfl rfl ?_
     refine Ops.nil ?_
     exact AfterN.dn rfl (Below.refl _ _) (by exact rfl)
    ·intro e1 w1 cc hlo hhi hb0 hp hun hq
     show Ops _ _ _ _ _ _ _
     refine Ops.quo rfl rfl rfl (by omega) ?_
     refine Ops.nil ?_
     exact AfterN.dn rfl (Below.refl _ _) (by exact rfl)
    ·intro e1 w1 cc hlo hhi hb0 hp hun hq
     show Ops _ _ _ _ _ _ _
     refine Ops.mv_int rfl rfl rfl ?_
     refine Ops.nil ?_
     exact AfterN.dn rfl (Below.refl _ _) (by exact rfl)
    ·intro e1 w1 cc hlo hhi hb0 hp hun hq
     show Ops _ _ _ _ _ _ _
     refine Ops.mul rfl rfl rfl (by omega) ?_
     refine Ops.nil ?_
     exact AfterN.dn rfl (Below.refl _ _) (by exact rfl)
    ·intro e1 w1 cc hlo hhi hb0 hp hun hq
     show Ops _ _ _ _ _ _ _
     replace hlo := le_of_lo hlo (b := 0) (by kernel_rfl)
     replace hhi := le_of_hi hhi (b := 0) (by kernel_rfl)
     obtain rfl : cc = 0 := by omega
     have hb := hb0 rfl
     refine Ops.fld ((hS9.rd 3 rfl).below hb) rfl rfl rfl rfl inferInstance ?_
     refine Ops.nil ?_
     exact AfterN.dn rfl (Below.refl _ _) (by exact rfl)
    ·intro e1 w1 cc hlo hhi hb0 hp hun hq
     show Ops _ _ _ _ _ _ _
     replace hlo := le_of_lo hlo (b := 0) (by kernel_rfl)
     replace hhi := le_of_hi hhi (b := 0) (by kernel_rfl)
     obtain rfl : cc = 0 := by omega
     have hb := hb0 rfl
     refine Ops.ldf_s ((hS9.rd 3 rfl).below hb) rfl rfl rfl rfl rfl ?_
     refine Ops.nil ?_
     exact AfterN.dn rfl (Below.refl _ _) (by exact rfl)
    ·intro e1 w1 cc hlo hhi hb0 hp hun hq
     show Ops _ _ _ _ _ _ _
     refine Ops.mv_int rfl rfl rfl ?_
     refine Ops.nil ?_
     exact AfterN.dn rfl (Below.refl _ _) (by exact rfl)
    ·intro e1 w1 cc hlo hhi hb0 hp hun hq
     show Ops _ _ _ _ _ _ _
     replace hlo := le_of_lo hlo (b := 0) (by kernel_rfl)
     replace hhi := le_of_hi hhi (b := 0) (by kernel_rfl)
     obtain rfl : cc = 0 := by omega
     have hb := hb0 rfl
     refine Ops.fld ((hS9.rd 4 rfl).below hb) rfl rfl rfl rfl inferInstance ?_
     refine Ops.nil ?_
     exact AfterN.dn rfl (Below.refl _ _) (by exact rfl)
    ·intro e1 w1 cc hlo hhi hb0 hp hun hq
     show Ops _ _ _ _ _ _ _
     replace hlo := le_of_lo hlo (b := 0) (by kernel_rfl)
     replace hhi := le_of_hi hhi (b := 0) (by kernel_rfl)
     obtain rfl : cc = 0 := by omega
     have hb := hb0 rfl
     refine Ops.ldf_s ((hS9.rd 4 rfl).below hb) rfl rfl rfl rfl rfl ?_
     refine Ops.nil ?_
     exact AfterN.dn rfl (Below.refl _ _) (by exact rfl)
    ·intro e1 w1 cc hlo hhi hb0 hp hun hq
     show Ops _ _ _ _ _ _ _
     refine Ops.len rfl rfl ?_
     refine Ops.nil ?_
     exact AfterN.dn rfl (Below.refl _ _) (by exact rfl)
    ·intro e1 w1 cc hlo hhi hb0 hp hun hq
     show Ops _ _ _ _ _ _ _
     refine Ops.sub rfl rfl rfl (by omega) ?_
     refine Ops.nil ?_
     exact AfterN.dn rfl (Below.refl _ _) (by exact rfl)
    ·intro e1 w1 cc hlo hhi hb0 hp hun hq
     show Ops _ _ _ _ _ _ _
     replace hlo := le_of_lo hlo (b := 0) (by kernel_rfl)
     replace hhi := le_of_hi hhi (b := 0) (by kernel_rfl)
     obtain rfl : cc = 0 := by omega
     have hb := hb0 rfl
     refine Ops.idx (hY9.top.later hb).2 rfl rfl rfl (by omega) (by omega) ?_
     refine Ops.nil ?_
     exact AfterN.dn rfl (Below.refl _ _) (by exact rfl)
    ·intro e1 w1 cc hlo hhi hb0 hp hun hq
     show Ops _ _ _ _ _ _ _
     replace hlo := le_of_lo hlo (b := 0) (by kernel_rfl)
     replace hhi := le_of_hi hhi (b := 0) (by kernel_rfl)
     obtain rfl : cc = 0 := by omega
     have hb := hb0 rfl
     refine Ops.ld_sl (hY9.top.later hb) rfl (by omega) rfl rfl ?_
     refine Ops.nil ?_
     exact AfterN.dn rfl (Below.refl _ _) (by exact rfl)
    ·intro e1 w1 cc hlo hhi hb0 hp hun hq
     show Ops _ _ _ _ _ _ _
     refine Ops.mv_int rfl rfl rfl ?_
     refine Ops.nil ?_
     exact AfterN.dn rfl (Below.refl _ _) (by exact rfl)
    ·intro e1 w1 cc hlo hhi hb0 hp hun hq
     show Ops _ _ _ _ _ _ _
     refine Ops.mv_int rfl rfl rfl ?_
     refine Ops.nil ?_
     exact AfterN.dn rfl (Below.refl _ _) (by exact rfl)
    ·intro e1 w1 cc hlo hhi hb0 hp hun hq
     show Ops _ _ _ _ _ _ _
     refine Ops.rem rfl rfl rfl (by omega) ?_
     refine Ops.nil ?_
     exact AfterN.dn rfl (Below.refl _ _) (by exact rfl)
    ·intro e1 w1 cc hlo hhi hb0 hp hun hq
     show Ops _ _ _ _ _ _ _
     replace hlo := le_of_lo hlo (b := 0) (by kernel_rfl)
     replace hhi := le_of_hi hhi (b := 0) (by kernel_rfl)
     obtain rfl : cc = 0 := by omega
     have hb := hb0 rfl
     refine Ops.idx (hrow.later hb).2 rfl rfl rfl (by omega) (by omega) ?_
     refine Ops.nil ?_
     exact AfterN.dn rfl (Below.refl _ _) (by exact rfl)
    ·intro e1 w1 cc hlo hhi hb0 hp hun hq
     show Ops _ _ _ _ _ _ _
     replace hlo := le_of_lo hlo (b := 0) (by kernel_rfl)
     replace hhi := le_of_hi hhi (b := 0) (by kernel_rfl)
     obtain rfl : cc = 0 := by omega
     have hb := hb0 rfl
     refine Ops.ld_int (hrow.later (hb0 rfl)) rfl (by omega) rfl rfl ?_
     refine Ops.nil ?_
     exact AfterN.dn rfl (Below.refl _ _) (by exact congrArg (Value.int .i64) hV)
    ·intro e1 w1 cc hlo hhi hb0 hp hun hq
     show Ops _ _ _ _ _ _ _
     refine Ops.add rfl rfl rfl (by omega) ?_
     refine Ops.nil ?_
     exact AfterN.dn rfl (Below.refl _ _) (by exact rfl)
    ·intro e1 w1 cc hlo hhi hb0 hp hun hq
     show Ops _ _ _ _ _ _ _
     replace hlo := le_of_lo hlo (b := 0) (by kernel_rfl)
     replace hhi := le_of_hi hhi (b := 0) (by kernel_rfl)
     obtain rfl : cc = 0 := by omega
     have hb := hb0 rfl
     refine Ops.bs1I (St.refl _) rfl rfl rfl ?_
     intro A20 w20 hst20
     refine Ops.nil ?_
     exact AfterN.dn rfl hst20.below ⟨A20, rfl, (hS9.later hb).call hst20⟩
    ·intro e1 w1 cc hlo hhi hb0 hp hun hq
     show Ops _ _ _ _ _ _ _
     replace hlo := le_of_lo hlo (b := 0) (by kernel_rfl)
     replace hhi := le_of_hi hhi (b := 0) (by kernel_rfl)
     obtain rfl : cc = 0 := by omega
     have hb := hb0 rfl
     obtain ⟨A20, hv', h1⟩ := (hp 21 _ _ (by kernel_rfl) rfl rfl (by kernel_rfl))
     refine Ops.appI 1 h1 rfl (h1.rdI 0 rfl) rfl (by exact hv') rfl (by omega) (by omega) rfl ?_
     intro A21 c21 w21 hT21
     refine Ops.nil ?_
     exact AfterT.dn rfl ⟨A21, c21, rfl, hT21.tail⟩
    ·intro e1 w1 cc hlo hhi hb0 hp hun hq
     show Ops _ _ _ _ _ _ _
     replace hlo := le_of_lo hlo (b := 1) (by kernel_rfl)
     replace hhi := le_of_hi hhi (b := 1) (by kernel_rfl)
     obtain rfl : cc = 1 := by omega
     have hph := hp 22 _ _ (by kernel_rfl) rfl rfl (by kernel_rfl)
     obtain ⟨A21, c21, hv', h1⟩ := (hp 22 _ _ (by kernel_rfl) rfl rfl (by kernel_rfl))
     refine Ops.mv_sl rfl (by exact hv') rfl ?_
     refine Ops.nil ?_
     exact AfterN.dn rfl (Below.refl _ _) ⟨A21, c21, rfl, h1⟩
    intro u w10 _ hu
    obtain ⟨A21, c21, hv9, hT⟩ := hu 23 _ rfl (by kernel_rfl)
    refine blockQ_n ?_
    refine thenQ_n ?_
    refine Cd.region ?_
    refine Ops.mv_int rfl rfl rfl ?_
    refine Ops.add rfl rfl rfl (by omega) ?_
    refine Ops.mv_int rfl rfl rfl ?_
    refine Ops.nil ?_
    refine thenQ_n ?_
    refine ⟨(f + 1, A21, c21, acc ++ [(f : Int) / (M : Int) * (M : Int) + v]), by show N * M - (f + 1) < N * M - f; omega, ⟨rfl, rfl, rfl, rfl, rfl, rfl, rfl, hv9, rfl, trivial⟩, hT, by show f + 1 ≤ N * M; omega, by simp [hal], fun x hx' => ?_⟩
    rcases List.mem_append.1 hx' with h | h
    ·exact hacc x h
    ·rw [List.mem_singleton] at h; subst h; omega
  ·have hfe : f = N * M := by omega
   refine Cd.exit ?_
   refine thenQ_x ?_
   refine thenQ_x ?_
   refine blockQ_x ?_
   refine thenQ_n ?_
   refine Cd.region ?_
   refine Ops.fld (hS9.rd 1 rfl) rfl rfl rfl rfl inferInstance ?_
   refine Ops.ldf_s (hS9.rd 1 rfl) rfl rfl rfl rfl rfl ?_
   refine Ops.mv_sl rfl rfl rfl ?_
   refine Ops.bs1R hS9 rfl rfl rfl ?_
   intro A85 w10 hS10
   refine Ops.appR 6 hS10 rfl (hS10.rdR 0 rfl) rfl rfl rfl (by omega) (by omega) rfl ?_
   intro A86 c86 w11 hS11
   have hS11 : St w w11 (CkI 2 A9 f c9 acc :: Bx 32 1 A7 [.slice C i cC] :: Bx 32 1 A4 [.slice none 0 0] :: Bx 32 1 A3 [.slice B m cB] :: Bx 32 1 A2 [.slice A n c] :: CkR 34 A86 (i + 1) c86 (rsC ++ [⟨A9, f, c9⟩]) :: rowsCk 2 rsC zss) := hS11.tail
   skip
   refine Ops.fld (hS11.rd 1 rfl) rfl rfl rfl rfl inferInstance ?_
   refine Ops.stf 1 hS11 rfl rfl rfl rfl rfl ?_
   intro w12 hS12
   have hS12 : St w w12 (CkI 2 A9 f c9 acc :: Bx 32 1 A7 [.slice A86 (i + 1) c86] :: Bx 32 1 A4 [.slice none 0 0] :: Bx 32 1 A3 [.slice B m cB] :: Bx 32 1 A2 [.slice A n c] :: CkR 34 A86 (i + 1) c86 (rsC ++ [⟨A9, f, c9⟩]) :: rowsCk 2 rsC zss) := hS12
   refine Ops.nil ?_
   refine blockQ_n ?_
   refine thenQ_n ?_
   refine Cd.region ?_
   refine Ops.mv_int rfl rfl rfl ?_
   refine Ops.add rfl rfl rfl (by omega) ?_
   refine Ops.mv_int rfl rfl rfl ?_
   refine Ops.nil ?_
   refine thenQ_n ?_
   refine ⟨⟨0, 0, A86, i + 1, c86, rsC ++ [⟨A9, f, c9⟩], zss ++ [acc]⟩, by show n + m - (i + 1) < n + m - i; omega, ⟨rfl, rfl, rfl, rfl, rfl, rfl, rfl, trivial⟩, ?_, by show i + 1 ≤ n + m; omega, by simp [hrl], by simp [hzl], fun p hp => ?_⟩
   ·show St w w12 ([_, _, _, _] ++ CkR 34 A86 (i + 1) c86 (rsC ++ [⟨A9, f, c9⟩]) :: rowsCk 2 (rsC ++ [⟨A9, f, c9⟩]) (zss ++ [acc]))
    rw [rowsCk_append (by omega)]
    refine hS12.perm ?_
    exact List.perm_append_comm (l₁ := [_]) (l₂ := _ :: _ :: _ :: _ :: CkR 34 A86 (i + 1) c86 (rsC ++ [⟨A9, f, c9⟩]) :: rowsCk 2 rsC zss)
   ·rcases List.mem_append.1 hp with h | h
    ·exact hz p h
    ·rw [List.mem_singleton] at h; subst h; exact ⟨by omega, hacc⟩
 ·have hie : i = n + m := by omega
  subst hie
  refine Cd.exit ?_
  refine thenQ_x ?_
  refine thenQ_x ?_
  refine blockQ_x ?_
  refine thenQ_n ?_
  refine Cd.seq ?_
  refine Cd.region ?_
  refine Ops.ld_agg 0 (hS7.rd 0 rfl) rfl rfl rfl ?_
  refine Ops.st_agg 1 1 hS7 rfl rfl rfl rfl rfl rfl rfl ?_
  intro w8 hS8
  refine Ops.nil ?_
  refine thenQ_n ?_
  refine Cd.ret ?_
  skip
  refine retc_r rfl (hS8.rd 1 rfl) ?_
  exact ⟨C, cC, rsC, zss, rfl, hrl, hzl, hz, (((hS8.sub ((List.Sublist.refl _).cons _)).sub ((List.Sublist.refl _).cons _)).sub ((List.Sublist.refl _).cons _)).sub ((List.Sublist.refl _).cons _)⟩
end Go.Proofs.YtjpkmpihmilgoaaGreat.Vc
/-
 The draws of maniplexes, walked: maps. Conditions: as each states them.
-/
namespace Go.Proofs.YtjpkmpihmilgoaaGreat.Vc
open Go.RowKit

theorem bits_xor_lt {q e c : Nat} (h : q < 4 * e) (hc : c < 4) (he : e ≤ 1000000) : 0 ≤ bits .xor .i64 (q : Int) (c : Int) ∧ bits .xor .i64 (q : Int) (c : Int) < ((4 * e : Nat) : Int) := by
 have h1 : (q ^^^ c) / 4 = q / 4 := by
  have h2 : (q ^^^ c) / 2 ^ 2 = q / 2 ^ 2 ^^^ c / 2 ^ 2 := Nat.xor_div_two_pow
  have h3 : c / 2 ^ 2 = 0 := Nat.div_eq_of_lt (by simpa using hc)
  rw [h3, Nat.xor_zero] at h2
  exact h2
 have h4 : q ^^^ c < 4 * e := by omega
 have e1 : bits .xor .i64 (q : Int) (c : Int) = IntKind.i64.wrap ((BitVec.ofInt 64 (q : Int) ^^^ BitVec.ofInt 64 (c : Int)).toNat : Int) := rfl
 have e2 : (BitVec.ofInt 64 (q : Int) ^^^ BitVec.ofInt 64 (c : Int)).toNat = q ^^^ c := by
  rw [BitVec.toNat_xor, BitVec.ofInt_natCast, BitVec.ofInt_natCast, BitVec.toNat_ofNat, BitVec.toNat_ofNat, Nat.mod_eq_of_lt (by omega), Nat.mod_eq_of_lt (by omega)]
 rw [e1, e2, IntWalk.i64_in _ (by omega)]
 omega
section
variable {P : Program} {N : Nat} {ops : Array Oper} {K : Env → World → Prop} {rest : List Oper} {e : Env} {w0 w w' : World} {ks : List Ck} {d : Nat} {ty : TypeId} {pos : String} {af : Array Edge} {x y : Operand} {xt yt : TypeId} {i j : Int}
theorem Ops.xorI (hx : ev e x = .int .i64 i) (hy : ev e y = .int .i64 j) (hb : Nat.blt d N = true) (hK : Ops P N ops K rest (upd e d (.int .i64 (bits .xor .i64 i j))) w) :
  Ops P N ops K (⟨some d, .binOp .xor xt x y yt, ty, pos, af, none⟩ :: rest) e w :=
 .val (by simp only [execOp, hx, hy, eqGuard, binOp, intBits_xor]; simp) hb hK
theorem Ops.bs3R {t el : TypeId} {b : Nat} [Und P t (.slice el)] [Inf P el (.slice none 0 0) 1 b] {x0 x1 x2 : Operand} {s0 s1 s2 : SlV} (hS : St w0 w ks) (h0 : ev e x0 = s0.v) (h1 : ev e x1 = s1.v) (h2 : ev e x2 = s2.v) (hb : Nat.blt d N = true)
    (hK : ∀ A w', St w0 w' (CkR el A 3 3 [s0, s1, s2] :: ks) → Ops P N ops K rest (upd e d (.slice A 3 3)) w') : Ops P N ops K (⟨some d, .buildSlice t 3 #[(0, x0), (1, x1), (2, x2)], ty, pos, af, none⟩ :: rest) e w := by
  obtain ⟨inf, hi, hz0, hs, hby⟩ := Inf.get P el
  have e0 : (s0.v).cells = #[s0.v] := rfl
  have e1 : (s1.v).cells = #[s1.v] := rfl
  have e2 : (s2.v).cells = #[s2.v] := rfl
  have hz : (Value.slice none 0 0).cells = #[Value.slice none 0 0] := rfl
  refine .val (w' := w.alloc (.cells #[s0.v, s1.v, s2.v] el)) ?_ hb (hK _ _ (hS.alloc [s0.v, s1.v, s2.v] el (by simp [maxLen]) rfl))
  simp [execOp, Instr.buildSlice, run_underlying (Und.out (P := P) (t := t)), sizeOf, typeInfo, zeroValue, hi, hs, hz0, hz, Instr.fill, newRow, h0, e0, h1, e1, h2, e2, arr_range, List.range_succ]
end

theorem l02Map_c {w0 w : World} {ks : List Ck} (ix : Nat) {As : Option Addr} {k : Ck} (ed : Nat) (hS : St w0 w ks) (hk : ks[ix]? = some k) (hK : srcK w0 As k) (he : 1 ≤ ed ∧ ed ≤ 100000) :
  Ret Tryz.prog 208 [.pointer As, .int .i64 (ed : Int)] w (fun v w' => ∃ A c rs xss N k', v = .agg #[.slice A 3 c] ∧ rs.length = 3 ∧ xss.length = 3 ∧ GM N xss ∧ (1 ≤ N ∧ N ≤ 4 * ed) ∧ srcK w0 As k' ∧ St w0 w' (mat 34 2 A 3 c rs xss ++ ks.set ix k')) := by
 refine Ret.of_cd Tryz.func208 rfl Tryz.ntmps208 rfl (postc rfl rfl) ?_
 refine Cd.seq ?_
 refine Cd.region ?_
 refine Ops.new1 hS rfl ?_
 intro A4 w1 hS1
 refine Ops.nil ?_
 refine thenQ_n ?_
 refine Cd.seq ?_
 refine Cd.region ?_
 refine Ops.mv_int rfl rfl rfl ?_
 refine Ops.mul rfl rfl rfl (by omega) ?_
 refine Ops.mv_int rfl rfl rfl ?_
 refine Ops.nil ?_
 refine thenQ_n ?_
 refine Cd.seq ?_
 refine Cd.region ?_
 refine Ops.bs0 hS1 rfl ?_
 intro A20 w2 hS2
 skip
 refine Ops.bs0 hS2 rfl ?_
 intro A21 w3 hS3
 have hn : (4 : Int) * (ed : Int) = ((4 * ed : Nat) : Int) := by omega
 rw [hn]
 have hS3 : St w0 w3 (CkI 2 A21 0 0 [] :: CkI 2 A20 0 0 [] :: Bx 32 1 A4 [.slice none 0 0] :: ks) := hS3
 refine Ops.mv_ptr rfl rfl rfl ?_
 refine Ops.mv_int rfl rfl rfl ?_
 refine Ops.call (l01Matching_c (ix + 3) (4 * ed) hS3 (by exact hk) hK (by omega)) rfl rfl rfl ?_
 rintro _ w4 ⟨Am, cm, ps, k', rfl, hps, hK', hS4⟩
 have hS4 : St w0 w4 (CkI 2 Am (4 * ed) cm ps :: CkI 2 A21 0 0 [] :: CkI 2 A20 0 0 [] :: Bx 32 1 A4 [.slice none 0 0] :: ks.set ix k') := hS4
 generalize hN : 4 * ed = n at *
 refine Ops.mv_sl rfl rfl rfl ?_
 refine Ops.mv_sl rfl rfl rfl ?_
 refine Ops.mv_sl rfl rfl rfl ?_
 refine Ops.nil ?_
 refine thenQ_n ?_
 refine Cd.seq ?_
 refine Cd.seq ?_
 refine Cd.region ?_
 refine Ops.mv_int rfl rfl rfl ?_
 refine Ops.nil ?_
 refine thenQ_n ?_
 refine Cd.block ?_
 refine Cd.loop (α := Nat × Option Addr × Nat × List Int × Option Addr × Nat × List Int) (fun s => [(4, .pointer A4), (5, .int .i64 (n : Int)), (6, .slice s.2.1 s.1 s.2.2.1), (7, .slice s.2.2.2.2.1 s.1 s.2.2.2.2.2.1), (8, .slice Am n cm), (9, .int .i64 (s.1 : Int))]) (fun s w' => St w0 w' (CkI 2 Am n cm ps :: CkI 2 s.2.2.2.2.1 s.1 s.2.2.2.2.2.1 s.2.2.2.2.2.2 :: CkI 2 s.2.1 s.1 s.2.2.1 s.2.2.2.1 :: Bx 32 1 A4 [.slice none 0 0] :: ks.set ix k') ∧ s.1 ≤ n ∧ s.2.2.2.1.length = s.1 ∧ s.2.2.2.2.2.2.length = s.1 ∧ (∀ x ∈ s.2.2.2.1, 0 ≤ x ∧ x < (n : Int)) ∧ (∀ x ∈ s.2.2.2.2.2.2, 0 ≤ x ∧ x < (n : Int))) (fun s => n - s.1) (0, A20, 0, [], A21, 0, []) ⟨rfl, rfl, rfl, rfl, rfl, rfl, trivial⟩ ⟨hS4, Nat.zero_le _, rfl, rfl, fun x hx => (nomatch hx), fun x hx => (nomatch hx)⟩ ?_
 rintro ⟨f, A6, c6, zs, A7, c7, ts⟩ e w5 ⟨hS5, hf, hzl, htl, hz, ht⟩
 dsimp only at hS5 hf hzl htl hz ht ⊢
 refine Cd.seq ?_
 refine Cd.seq ?_
 refine Cd.region ?_
 refine Ops.mv_int rfl rfl rfl ?_
 refine Ops.mv_int rfl rfl rfl ?_
 refine Ops.lss rfl rfl rfl ?_
 refine Ops.nil ?_
 refine thenQ_n ?_
 refine Cd.cond_p _ rfl (fun h1 => ?_) (fun h1 => ?_)
 ·have hx1 := bits_xor_lt (q := f) (e := ed) (c := 1) (by omega) (by decide) (by omega)
  have hx2 := bits_xor_lt (q := f) (e := ed) (c := 2) (by omega) (by decide) (by omega)
  rw [hN] at hx1 hx2
  refine Cd.skip ?_
  refine thenQ_n ?_
  refine Cd.seq ?_
  refine Cd.block ?_
  refine Cd.seq ?_
  refine Cd.region ?_
  refine Ops.mv_sl rfl rfl rfl ?_
  refine Ops.mv_int rfl rfl rfl ?_
  refine Ops.xorI (j := ((1 : Nat) : Int)) rfl rfl rfl ?_
  generalize bits .xor .i64 (f : Int) ((1 : Nat) : Int) = b1 at hx1 ⊢
  skip
  refine Ops.bs1I hS5 rfl rfl rfl ?_
  intro A33 w6 hS6
  refine Ops.appI 3 hS6 rfl (hS6.rdI 0 rfl) rfl rfl rfl (by omega) (by omega) rfl ?_
  intro A34 c34 w7 hS7
  have hS7 : St w0 w7 (CkI 2 Am n cm ps :: CkI 2 A7 f c7 ts :: CkI 2 A34 (f + 1) c34 (zs ++ [b1]) :: Bx 32 1 A4 [.slice none 0 0] :: ks.set ix k') := hS7.tail
  refine Ops.mv_sl rfl rfl rfl ?_
  refine Ops.nil ?_
  refine thenQ_n ?_
  refine Cd.region ?_
  refine Ops.mv_sl rfl rfl rfl ?_
  refine Ops.mv_int rfl rfl rfl ?_
  refine Ops.xorI (j := ((2 : Nat) : Int)) rfl rfl rfl ?_
  generalize bits .xor .i64 (f : Int) ((2 : Nat) : Int) = b2 at hx2 ⊢
  skip
  refine Ops.bs1I hS7 rfl rfl rfl ?_
  intro A38 w8 hS8
  refine Ops.appI 2 hS8 rfl (hS8.rdI 0 rfl) rfl rfl rfl (by omega) (by omega) rfl ?_
  intro A39 c39 w9 hS9
  refine Ops.mv_sl rfl rfl rfl ?_
  refine Ops.nil ?_
  refine blockQ_n ?_
  refine thenQ_n ?_
  refine Cd.region ?_
  refine Ops.mv_int rfl rfl rfl ?_
  refine Ops.add rfl rfl rfl (by omega) ?_
  refine Ops.mv_int rfl rfl rfl ?_
  refine Ops.nil ?_
  refine thenQ_n ?_
  refine ⟨(f + 1, A34, c34, zs ++ [b1], A39, c39, ts ++ [b2]), by show n - (f + 1) < n - f; omega, ⟨rfl, rfl, rfl, rfl, rfl, rfl, trivial⟩, hS9.tail, by show f + 1 ≤ n; omega, by simp [hzl], by simp [htl], fun x hx => ?_, fun x hx => ?_⟩
  ·rcases List.mem_append.1 hx with h | h
   ·exact hz x h
   ·rw [List.mem_singleton] at h; subst h; exact hx1
  ·rcases List.mem_append.1 hx with h | h
   ·exact ht x h
   ·rw [List.mem_singleton] at h; subst h; exact hx2
 have hfn : f = n := by omega
 subst hfn
 refine Cd.exit ?_
 refine thenQ_x ?_
 refine thenQ_x ?_
 refine blockQ_x ?_
 refine thenQ_n ?_
 refine Cd.seq ?_
 refine Cd.region ?_
 refine Ops.mv_sl rfl rfl rfl ?_
 refine Ops.mv_sl rfl rfl rfl ?_
 refine Ops.mv_sl rfl rfl rfl ?_
 refine Ops.bs3R (s0 := ⟨A6, f, c6⟩) (s1 := ⟨Am, f, cm⟩) (s2 := ⟨A7, f, c7⟩) hS5 rfl rfl rfl rfl ?_
 intro A10 w6 hS6
 have hS6 : St w0 w6 (mat 34 2 A10 3 3 [⟨A6, f, c6⟩, ⟨Am, f, cm⟩, ⟨A7, f, c7⟩] [zs, ps, ts] ++ (Bx 32 1 A4 [.slice none 0 0] :: ks.set ix k')) := hS6.perm (List.Perm.cons _ (((List.Perm.cons _ (List.Perm.swap _ _ _)).trans (List.Perm.swap _ _ _)).trans (List.Perm.cons _ (List.Perm.refl _))))
 have hG : GM f [zs, ps, ts] := fun q hq => by
  rcases List.mem_cons.1 hq with rfl | hq
  ·exact ⟨hzl, hz⟩
  ·rcases List.mem_cons.1 hq with rfl | hq
   ·exact hps
   ·rw [List.mem_singleton] at hq; subst hq; exact ⟨htl, ht⟩
 have hM6 : RowsI w6 A10 3 [⟨A6, f, c6⟩, ⟨Am, f, cm⟩, ⟨A7, f, c7⟩] [zs, ps, ts] := St.rowsI hS6 rfl
 obtain ⟨o1, o2, _⟩ := orbit_spec (N := f) (xss := [zs, ps, ts]) (pt := 0) hG.sys (Int.le_refl _) (by omega)
 have hol := o1.len
 have hol1 : 1 ≤ (orbit f [zs, ps, ts] 0).length := by
  have := o2.length_le
  simpa using this
 have horg := o1.range
 refine Ops.mv_sl rfl rfl rfl ?_
 refine Ops.nil ?_
 refine thenQ_n ?_
 refine Cd.seq ?_
 refine Cd.region ?_
 refine Ops.mv_sl rfl rfl rfl ?_
 refine Ops.call (l01Orbit_c A10 3 3 _ _ f 0 _ hM6 (by decide) hG.sys (by omega) (Int.le_refl _) (by omega)) rfl rfl rfl ?_
 rintro _ w7 ⟨A11, c11, rfl, hst7⟩
 have hS7 := hS6.call hst7
 generalize hO : orbit f [zs, ps, ts] 0 = ord at *
 have hS7 : St w0 w7 (CkI 2 A11 ord.length c11 ord :: (mat 34 2 A10 3 3 [⟨A6, f, c6⟩, ⟨Am, f, cm⟩, ⟨A7, f, c7⟩] [zs, ps, ts] ++ (Bx 32 1 A4 [.slice none 0 0] :: ks.set ix k'))) := hS7
 refine Ops.mv_sl rfl rfl rfl ?_
 refine Ops.nil ?_
 refine thenQ_n ?_
 refine Cd.seq ?_
 refine Cd.region ?_
 refine Ops.mv_int rfl rfl rfl ?_
 refine Ops.mkI f hS7 rfl rfl (by omega) ?_
 intro A12 w8 hS8
 refine Ops.mv_sl rfl rfl rfl ?_
 refine Ops.nil ?_
 refine thenQ_n ?_
 refine Cd.seq ?_
 refine Cd.seq ?_
 refine Cd.region ?_
 refine Ops.mv_int rfl rfl rfl ?_
 refine Ops.nil ?_
 refine thenQ_n ?_
 refine Cd.block ?_
 refine Cd.loop (α := Nat × List Int) (fun s => [(4, .pointer A4), (5, .int .i64 (f : Int)), (10, .slice A10 3 3), (11, .slice A11 ord.length c11), (12, .slice A12 f f), (13, .int .i64 (s.1 : Int))]) (fun s w' => St w0 w' (CkI 2 A12 f f s.2 :: CkI 2 A11 ord.length c11 ord :: (mat 34 2 A10 3 3 [⟨A6, f, c6⟩, ⟨Am, f, cm⟩, ⟨A7, f, c7⟩] [zs, ps, ts] ++ (Bx 32 1 A4 [.slice none 0 0] :: ks.set ix k'))) ∧ s.1 ≤ ord.length ∧ s.2.length = f ∧ ∀ x ∈ s.2, 0 ≤ x ∧ x < (ord.length : Int)) (fun s => ord.length - s.1) (0, List.replicate f 0) ⟨rfl, rfl, rfl, rfl, rfl, rfl, trivial⟩ ⟨hS8, Nat.zero_le _, by simp, fun x hx => by obtain ⟨h0, rfl⟩ := List.mem_replicate.1 hx; omega⟩ ?_
 rintro ⟨i, num⟩ e w9 ⟨hS9, hi, hnl, hnr⟩
 dsimp only at hS9 hi hnl hnr ⊢
 refine Cd.seq ?_
 refine Cd.seq ?_
 refine Cd.region ?_
 refine Ops.mv_int rfl rfl rfl ?_
 refine Ops.mv_sl rfl rfl rfl ?_
 refine Ops.len rfl rfl ?_
 refine Ops.lss rfl rfl rfl ?_
 refine Ops.nil ?_
 refine thenQ_n ?_
 refine Cd.cond_p _ rfl (fun h2 => ?_) (fun h2 => ?_)
 ·have hR11 := hS9.rdI 1 rfl
  have hR12 := hS9.rdI 0 rfl
  have hor := horg (gi ord (i : Int)) (by rw [gi_mem (by omega)]; exact List.getElem_mem _)
  refine Cd.skip ?_
  refine thenQ_n ?_
  refine Cd.seq ?_
  refine Cd.block ?_
  refine Cd.region ?_
  refine Ops.mv_sl rfl rfl rfl ?_
  refine Ops.mv_sl rfl rfl rfl ?_
  refine Ops.mv_int rfl rfl rfl ?_
  refine Ops.idx hR11.2 rfl rfl rfl (by omega) (by omega) ?_
  refine Ops.ld_int hR11 rfl (by omega) rfl rfl ?_
  refine Ops.mv_int rfl rfl rfl ?_
  refine Ops.idx hR12.2 rfl rfl rfl (by omega) (by omega) ?_
  refine Ops.st_int 0 hS9 rfl rfl rfl (by omega) ?_
  intro w10 hS10
  refine Ops.nil ?_
  refine blockQ_n ?_
  refine thenQ_n ?_
  refine Cd.region ?_
  refine Ops.mv_int rfl rfl rfl ?_
  refine Ops.add rfl rfl rfl (by omega) ?_
  refine Ops.mv_int rfl rfl rfl ?_
  refine Ops.nil ?_
  refine thenQ_n ?_
  refine ⟨(i + 1, num.set (gi ord (i : Int)).toNat (i : Int)), by show ord.length - (i + 1) < ord.length - i; omega, ⟨rfl, rfl, rfl, rfl, rfl, rfl, trivial⟩, hS10, by show i + 1 ≤ ord.length; omega, by rw [List.length_set]; exact hnl, fun x hx => ?_⟩
  rcases List.mem_or_eq_of_mem_set hx with hx | rfl
  ·exact hnr x hx
  ·omega
 have hR11 := hS9.rdI 1 rfl
 have hR12 := hS9.rdI 0 rfl
 have hM9 : RowsI w9 A10 3 [⟨A6, f, c6⟩, ⟨Am, f, cm⟩, ⟨A7, f, c7⟩] [zs, ps, ts] := St.rowsI hS9.tail.tail rfl
 have hnum : ∀ x : Int, 0 ≤ x → x < f → 0 ≤ gi num x ∧ gi num x < (ord.length : Int) := fun x h0 h1 => by
  obtain ⟨q, rfl⟩ : ∃ q : Nat, x = q := ⟨x.toNat, by omega⟩
  rw [gi_mem (by omega)]
  exact hnr _ (List.getElem_mem _)
 refine Cd.exit ?_
 refine thenQ_x ?_
 refine thenQ_x ?_
 refine blockQ_x ?_
 refine thenQ_n ?_
 refine Cd.seq ?_
 refine Cd.region ?_
 refine Ops.bld0 (by exact inferInstance) rfl ?_
 refine Ops.new1 (St.refl w9) rfl ?_
 intro A14 w10 hT10
 skip
 refine Ops.st_agg 1 0 hT10 rfl rfl rfl rfl rfl rfl rfl ?_
 intro w11 hT11
 have hT11 : St w9 w11 ([Bx 32 1 A14 [.slice none 0 0]] ++ mat 34 2 none 0 0 [] []) := (hT11.nil _).perm (List.perm_append_comm (l₁ := [_]) (l₂ := [_]))
 refine Ops.nil ?_
 refine thenQ_n ?_
 refine Cd.seq ?_
 refine Cd.seq ?_
 refine Cd.region ?_
 refine Ops.mv_int rfl rfl rfl ?_
 refine Ops.nil ?_
 refine thenQ_n ?_
 refine Cd.block ?_
 refine Cd.loop (α := PrS) (fun s => [(4, .pointer A4), (5, .int .i64 (f : Int)), (10, .slice A10 3 3), (11, .slice A11 ord.length c11), (12, .slice A12 f f), (14, .pointer A14), (15, .int .i64 (s.n : Int))]) (fun s w' => St w9 w' ([Bx 32 1 A14 [.slice s.B s.n s.c]] ++ mat 34 2 s.B s.n s.c s.rs s.xss) ∧ s.n ≤ 3 ∧ s.rs.length = s.n ∧ s.xss.length = s.n ∧ GM ord.length s.xss) (fun s => 3 - s.n) ⟨0, 0, none, 0, 0, [], []⟩ ⟨rfl, rfl, rfl, rfl, rfl, rfl, rfl, trivial⟩ ⟨hT11, Nat.zero_le _, rfl, rfl, fun p hp => (nomatch hp)⟩ ?_
 rintro ⟨_, _, C, q, cC, rsC, zss⟩ e w12 ⟨hT12, hq, hrl, hzl2, hzz⟩
 dsimp only at hT12 hq hrl hzl2 hzz ⊢
 refine Cd.seq ?_
 refine Cd.seq ?_
 refine Cd.region ?_
 refine Ops.mv_int rfl rfl rfl ?_
 refine Ops.lss rfl rfl rfl ?_
 refine Ops.nil ?_
 refine thenQ_n ?_
 refine Cd.cond_p _ rfl (fun h3 => ?_) (fun h3 => ?_)
 ·refine Cd.skip ?_
  refine thenQ_n ?_
  refine Cd.seq ?_
  refine Cd.block ?_
  refine Cd.seq ?_
  refine Cd.region ?_
  refine Ops.bs0 hT12 rfl ?_
  intro A16 w13 hT13
  refine Ops.mv_sl rfl rfl rfl ?_
  refine Ops.nil ?_
  refine thenQ_n ?_
  refine Cd.seq ?_
  refine Cd.seq ?_
  refine Cd.region ?_
  refine Ops.mv_int rfl rfl rfl ?_
  refine Ops.nil ?_
  refine thenQ_n ?_
  refine Cd.block ?_
  refine Cd.loop (α := Nat × Option Addr × Nat × List Int) (fun s => [(4, .pointer A4), (5, .int .i64 (f : Int)), (10, .slice A10 3 3), (11, .slice A11 ord.length c11), (12, .slice A12 f f), (14, .pointer A14), (15, .int .i64 (q : Int)), (16, .slice s.2.1 s.1 s.2.2.1), (17, .int .i64 (s.1 : Int))]) (fun s w' => St w9 w' (CkI 2 s.2.1 s.1 s.2.2.1 s.2.2.2 :: ([Bx 32 1 A14 [.slice C q cC]] ++ mat 34 2 C q cC rsC zss)) ∧ s.1 ≤ ord.length ∧ s.2.2.2.length = s.1 ∧ ∀ x ∈ s.2.2.2, 0 ≤ x ∧ x < (ord.length : Int)) (fun s => ord.length - s.1) (0, A16, 0, []) ⟨rfl, rfl, rfl, rfl, rfl, rfl, rfl, rfl, rfl, trivial⟩ ⟨hT13, Nat.zero_le _, rfl, fun x hx => (nomatch hx)⟩ ?_
  rintro ⟨j, A16, c16, acc⟩ e w14 ⟨hT14, hj, hal, hacc⟩
  dsimp only at hT14 hj hal hacc ⊢
  refine Cd.seq ?_
  refine Cd.seq ?_
  refine Cd.region ?_
  refine Ops.mv_int rfl rfl rfl ?_
  refine Ops.mv_sl rfl rfl rfl ?_
  refine Ops.len rfl rfl ?_
  refine Ops.lss rfl rfl rfl ?_
  refine Ops.nil ?_
  refine thenQ_n ?_
  refine Cd.cond_p _ rfl (fun h4 => ?_) (fun h4 => ?_)
  ·have hO14 := hT14.oldI hR11
   have hN14 := hT14.oldI hR12
   have hM14 := hT14.oldRows hM9
   have hrow := hM14.at_ (i := (q : Int)) (by omega) (by omega)
   have hrg := hG.at_ (i := q) (by show q < 3; omega)
   have hrn : (rg [⟨A6, f, c6⟩, ⟨Am, f, cm⟩, ⟨A7, f, c7⟩] (q : Int)).n = f := by rw [← hrow.1, hrg.1]
   have hor := horg (gi ord (j : Int)) (by rw [gi_mem (by omega)]; exact List.getElem_mem _)
   have hmv := hrg.gi hor.1 hor.2
   have hnv := hnum _ hmv.1 hmv.2
   generalize hV : gi (gl [zs, ps, ts] (q : Int)) (gi ord (j : Int)) = mv at hmv hnv
   refine Cd.skip ?_
   refine thenQ_n ?_
   refine Cd.seq ?_
   refine Cd.block ?_
   refine Cd.drawN [15] [.ex (.slice (A16) (j) (c16)), .ex (.slice (A12) (f) (f)), .ex (.slice (A10) (3) (3)), .ex (.int .i64 ((q : Int))), .ex (.pointer (ptrAt (A10) ((q : Int)).toNat)), .ex (.slice ((rg ([⟨A6, f, c6⟩, ⟨Am, f, cm⟩, ⟨A7, f, c7⟩]) ((q : Int))).a) ((rg ([⟨A6, f, c6⟩, ⟨Am, f, cm⟩, ⟨A7, f, c7⟩]) ((q : Int))).n) ((rg ([⟨A6, f, c6⟩, ⟨Am, f, cm⟩, ⟨A7, f, c7⟩]) ((q : Int))).c)), .ex (.slice (A11) (ord.length) (c11)), .ex (.int .i64 ((j : Int))), .ex (.pointer (ptrAt (A11) ((j : Int)).toNat)), .ex (.int .i64 (gi (ord) ((j : Int)))), .ex (.pointer (ptrAt (rg [⟨A6, f, c6⟩, ⟨Am, f, cm⟩, ⟨A7, f, c7⟩] (q : Int)).a (gi ord (j : Int)).toNat)), .ex (.int .i64 (mv)), .ex (.pointer (ptrAt (A12) (mv).toNat)), .ex (.int .i64 (gi (num) (mv))), .pr (fun v' w' => ∃ A57, v' = .slice A57 1 1 ∧ St w9 w' (CkI 2 A57 1 1 [gi num mv] :: CkI 2 A16 j c16 acc :: ([Bx 32 1 A14 [.slice C q cC]] ++ mat 34 2 C q cC rsC zss))), .pr (fun v' w' => ∃ A21 c21, v' = .slice A21 (j + 1) c21 ∧ St w9 w' (CkI 2 A21 (j + 1) c21 (acc ++ [gi num mv]) :: ([Bx 32 1 A14 [.slice C q cC]] ++ mat 34 2 C q cC rsC zss))), .pr (fun v' w' => ∃ A21 c21, v' = .slice A21 (j + 1) c21 ∧ St w9 w' (CkI 2 A21 (j + 1) c21 (acc ++ [gi num mv]) :: ([Bx 32 1 A14 [.slice C q cC]] ++ mat 34 2 C q cC rsC zss)))] (by kernel_rfl) (by kernel_rfl) (List.forall_mem_cons.2 ⟨Yd.lasts_ex _, (List.forall_mem_cons.2 ⟨Yd.lasts_ex _, (List.forall_mem_cons.2 ⟨Yd.lasts_ex _, (List.forall_mem_cons.2 ⟨Yd.lasts_ex _, (List.forall_mem_cons.2 ⟨Yd.lasts_ex _, (List.forall_mem_cons.2 ⟨Yd.lasts_ex _, (List.forall_mem_cons.2 ⟨Yd.lasts_ex _, (List.forall_mem_cons.2 ⟨Yd.lasts_ex _, (List.forall_mem_cons.2 ⟨Yd.lasts_ex _, (List.forall_mem_cons.2 ⟨Yd.lasts_ex _, (List.forall_mem_cons.2 ⟨Yd.lasts_ex _, (List.forall_mem_cons.2 ⟨Yd.lasts_ex _, (List.forall_mem_cons.2 ⟨Yd.lasts_ex _, (List.forall_mem_cons.2 ⟨Yd.lasts_ex _, (List.forall_mem_cons.2 ⟨Yd.lasts_pr (fun v w w' h hb => by obtain ⟨A20, hv, h1⟩ := h; exact ⟨A20, hv, h1.later hb⟩), (List.forall_mem_cons.2 ⟨Yd.lasts_pr (fun v w w' h hb => by obtain ⟨A21, c21, hv, h1⟩ := h; exact ⟨A21, c21, hv, h1.later hb⟩), (List.forall_mem_cons.2 ⟨Yd.lasts_pr (fun v w w' h hb => by obtain ⟨A21, c21, hv, h1⟩ := h; exact ⟨A21, c21, hv, h1.later hb⟩), (fun _ h => by cases h)⟩)⟩)⟩)⟩)⟩)⟩)⟩)⟩)⟩)⟩)⟩)⟩)⟩)⟩)⟩)⟩)⟩) ⟨?_, ?_, ?_, ?_, ?_, ?_, ?_, ?_, ?_, ?_, ?_, ?_, ?_, ?_, ?_, ?_, ?_, trivial⟩ ?_
   ·intro e1 w1 cc hlo hhi hb0 hp hun hq
    show Ops _ _ _ _ _ _ _
    replace hlo := le_of_lo hlo (b := 0) (by kernel_rfl)
    replace hhi := le_of_hi hhi (b := 0) (by kernel_rfl)
    obtain rfl : cc = 0 := by omega
    have hb := hb0 rfl
    refine Ops.mv_sl rfl (by exact hun 16 _ rfl (by kernel_rfl)) rfl ?_
    refine Ops.nil ?_
    exact AfterN.dn rfl (Below.refl _ _) (by exact rfl)
   ·intro e1 w1 cc hlo hhi hb0 hp hun hq
    show Ops _ _ _ _ _ _ _
    refine Ops.mv_sl rfl rfl rfl ?_
    refine Ops.nil ?_
    exact AfterN.dn rfl (Below.refl _ _) (by exact rfl)
   ·intro e1 w1 cc hlo hhi hb0 hp hun hq
    show Ops _ _ _ _ _ _ _
    refine Ops.mv_sl rfl rfl rfl ?_
    refine Ops.nil ?_
    exact AfterN.dn rfl (Below.refl _ _) (by exact rfl)
   ·intro e1 w1 cc hlo hhi hb0 hp hun hq
    show Ops _ _ _ _ _ _ _
    refine Ops.mv_int rfl rfl rfl ?_
    refine Ops.nil ?_
    exact AfterN.dn rfl (Below.refl _ _) (by exact rfl)
   ·intro e1 w1 cc hlo hhi hb0 hp hun hq
    show Ops _ _ _ _ _ _ _
    replace hlo := le_of_lo hlo (b := 0) (by kernel_rfl)
    replace hhi := le_of_hi hhi (b := 0) (by kernel_rfl)
    obtain rfl : cc = 0 := by omega
    have hb := hb0 rfl
    refine Ops.idx (hM14.top.later hb).2 rfl rfl rfl (by omega) (by omega) ?_
    refine Ops.nil ?_
    exact AfterN.dn rfl (Below.refl _ _) (by exact rfl)
   ·intro e1 w1 cc hlo hhi hb0 hp hun hq
    show Ops _ _ _ _ _ _ _
    replace hlo := le_of_lo hlo (b := 0) (by kernel_rfl)
    replace hhi := le_of_hi hhi (b := 0) (by kernel_rfl)
    obtain rfl : cc = 0 := by omega
    have hb := hb0 rfl
    refine Ops.ld_sl (hM14.top.later hb) rfl (by omega) rfl rfl ?_
    refine Ops.nil ?_
    exact AfterN.dn rfl (Below.refl _ _) (by exact rfl)
   ·intro e1 w1 cc hlo hhi hb0 hp hun hq
    show Ops _ _ _ _ _ _ _
    refine Ops.mv_sl rfl rfl rfl ?_
    refine Ops.nil ?_
    exact AfterN.dn rfl (Below.refl _ _) (by exact rfl)
   ·intro e1 w1 cc hlo hhi hb0 hp hun hq
    show Ops _ _ _ _ _ _ _
    refine Ops.mv_int rfl rfl rfl ?_
    refine Ops.nil ?_
    exact AfterN.dn rfl (Below.refl _ _) (by exact rfl)
   ·intro e1 w1 cc hlo hhi hb0 hp hun hq
    show Ops _ _ _ _ _ _ _
    replace hlo := le_of_lo hlo (b := 0) (by kernel_rfl)
    replace hhi := le_of_hi hhi (b := 0) (by kernel_rfl)
    obtain rfl : cc = 0 := by omega
    have hb := hb0 rfl
    refine Ops.idx (hO14.later hb).2 rfl rfl rfl (by omega) (by omega) ?_
    refine Ops.nil ?_
    exact AfterN.dn rfl (Below.refl _ _) (by exact rfl)
   ·intro e1 w1 cc hlo hhi hb0 hp hun hq
    show Ops _ _ _ _ _ _ _
    replace hlo := le_of_lo hlo (b := 0) (by kernel_rfl)
    replace hhi := le_of_hi hhi (b := 0) (by kernel_rfl)
    obtain rfl : cc = 0 := by omega
    have hb := hb0 rfl
    refine Ops.ld_int (hO14.later hb) rfl (by omega) rfl rfl ?_
    refine Ops.nil ?_
    exact AfterN.dn rfl (Below.refl _ _) (by exact rfl)
   ·intro e1 w1 cc hlo hhi hb0 hp hun hq
    show Ops _ _ _ _ _ _ _
    replace hlo := le_of_lo hlo (b := 0) (by kernel_rfl)
    replace hhi := le_of_hi hhi (b := 0) (by kernel_rfl)
    obtain rfl : cc = 0 := by omega
    have hb := hb0 rfl
    refine Ops.idx (hrow.later (hb0 rfl)).2 rfl rfl rfl (by omega) (by omega) ?_
    refine Ops.nil ?_
    exact AfterN.dn rfl (Below.refl _ _) (by exact rfl)
   ·intro e1 w1 cc hlo hhi hb0 hp hun hq
    show Ops _ _ _ _ _ _ _
    replace hlo := le_of_lo hlo (b := 0) (by kernel_rfl)
    replace hhi := le_of_hi hhi (b := 0) (by kernel_rfl)
    obtain rfl : cc = 0 := by omega
    have hb := hb0 rfl
    refine Ops.ld_int (hrow.later (hb0 rfl)) rfl (by omega) rfl rfl ?_
    refine Ops.nil ?_
    exact AfterN.dn rfl (Below.refl _ _) (by exact congrArg (Value.int .i64) hV)
   ·intro e1 w1 cc hlo hhi hb0 hp hun hq
    show Ops _ _ _ _ _ _ _
    replace hlo := le_of_lo hlo (b := 0) (by kernel_rfl)
    replace hhi := le_of_hi hhi (b := 0) (by kernel_rfl)
    obtain rfl : cc = 0 := by omega
    have hb := hb0 rfl
    refine Ops.idx (hN14.later hb).2 rfl rfl rfl (by omega) (by omega) ?_
    refine Ops.nil ?_
    exact AfterN.dn rfl (Below.refl _ _) (by exact rfl)
   ·intro e1 w1 cc hlo hhi hb0 hp hun hq
    show Ops _ _ _ _ _ _ _
    replace hlo := le_of_lo hlo (b := 0) (by kernel_rfl)
    replace hhi := le_of_hi hhi (b := 0) (by kernel_rfl)
    obtain rfl : cc = 0 := by omega
    have hb := hb0 rfl
    refine Ops.ld_int (hN14.later hb) rfl (by omega) rfl rfl ?_
    refine Ops.nil ?_
    exact AfterN.dn rfl (Below.refl _ _) (by exact rfl)
   ·intro e1 w1 cc hlo hhi hb0 hp hun hq
    show Ops _ _ _ _ _ _ _
    replace hlo := le_of_lo hlo (b := 0) (by kernel_rfl)
    replace hhi := le_of_hi hhi (b := 0) (by kernel_rfl)
    obtain rfl : cc = 0 := by omega
    have hb := hb0 rfl
    refine Ops.bs1I (St.refl _) rfl rfl rfl ?_
    intro A20 w20 hst20
    refine Ops.nil ?_
    exact AfterN.dn rfl hst20.below ⟨A20, rfl, (hT14.later hb).call hst20⟩
   ·intro e1 w1 cc hlo hhi hb0 hp hun hq
    show Ops _ _ _ _ _ _ _
    replace hlo := le_of_lo hlo (b := 0) (by kernel_rfl)
    replace hhi := le_of_hi hhi (b := 0) (by kernel_rfl)
    obtain rfl : cc = 0 := by omega
    have hb := hb0 rfl
    obtain ⟨A20, hv', h1⟩ := (hp 14 _ _ (by kernel_rfl) rfl rfl (by kernel_rfl))
    refine Ops.appI 1 h1 rfl (h1.rdI 0 rfl) rfl (by exact hv') rfl (by omega) (by omega) rfl ?_
    intro A21 c21 w21 hT21
    refine Ops.nil ?_
    exact AfterT.dn rfl ⟨A21, c21, rfl, hT21.tail⟩
   ·intro e1 w1 cc hlo hhi hb0 hp hun hq
    show Ops _ _ _ _ _ _ _
    replace hlo := le_of_lo hlo (b := 1) (by kernel_rfl)
    replace hhi := le_of_hi hhi (b := 1) (by kernel_rfl)
    obtain rfl : cc = 1 := by omega
    have hph := hp 15 _ _ (by kernel_rfl) rfl rfl (by kernel_rfl)
    obtain ⟨A21, c21, hv', h1⟩ := (hp 15 _ _ (by kernel_rfl) rfl rfl (by kernel_rfl))
    refine Ops.mv_sl rfl (by exact hv') rfl ?_
    refine Ops.nil ?_
    exact AfterN.dn rfl (Below.refl _ _) ⟨A21, c21, rfl, h1⟩
   intro u w15 _ hu
   obtain ⟨A21, c21, hv16, hT⟩ := hu 16 _ rfl (by kernel_rfl)
   refine blockQ_n ?_
   refine thenQ_n ?_
   refine Cd.region ?_
   refine Ops.mv_int rfl rfl rfl ?_
   refine Ops.add rfl rfl rfl (by omega) ?_
   refine Ops.mv_int rfl rfl rfl ?_
   refine Ops.nil ?_
   refine thenQ_n ?_
   refine ⟨(j + 1, A21, c21, acc ++ [gi num mv]), by show ord.length - (j + 1) < ord.length - j; omega, ⟨rfl, rfl, rfl, rfl, rfl, rfl, rfl, hv16, rfl, trivial⟩, hT, by show j + 1 ≤ ord.length; omega, by simp [hal], fun x hx' => ?_⟩
   rcases List.mem_append.1 hx' with h | h
   ·exact hacc x h
   ·rw [List.mem_singleton] at h; subst h; exact hnv
  ·have hje : j = ord.length := by omega
   refine Cd.exit ?_
   refine thenQ_x ?_
   refine thenQ_x ?_
   refine blockQ_x ?_
   refine thenQ_n ?_
   refine Cd.region ?_
   refine Ops.fld (hT14.rd 1 rfl) rfl rfl rfl rfl inferInstance ?_
   refine Ops.ldf_s (hT14.rd 1 rfl) rfl rfl rfl rfl rfl ?_
   refine Ops.mv_sl rfl rfl rfl ?_
   refine Ops.bs1R hT14 rfl rfl rfl ?_
   intro A85 w15 hT15
   refine Ops.appR 3 hT15 rfl (hT15.rdR 0 rfl) rfl rfl rfl (by omega) (by omega) rfl ?_
   intro A86 c86 w16 hT16
   have hT16 : St w9 w16 (CkI 2 A16 j c16 acc :: Bx 32 1 A14 [.slice C q cC] :: CkR 34 A86 (q + 1) c86 (rsC ++ [⟨A16, j, c16⟩]) :: rowsCk 2 rsC zss) := hT16.tail
   skip
   refine Ops.fld (hT16.rd 1 rfl) rfl rfl rfl rfl inferInstance ?_
   refine Ops.stf 1 hT16 rfl rfl rfl rfl rfl ?_
   intro w17 hT17
   have hT17 : St w9 w17 (CkI 2 A16 j c16 acc :: Bx 32 1 A14 [.slice A86 (q + 1) c86] :: CkR 34 A86 (q + 1) c86 (rsC ++ [⟨A16, j, c16⟩]) :: rowsCk 2 rsC zss) := hT17
   refine Ops.nil ?_
   refine blockQ_n ?_
   refine thenQ_n ?_
   refine Cd.region ?_
   refine Ops.mv_int rfl rfl rfl ?_
   refine Ops.add rfl rfl rfl (by omega) ?_
   refine Ops.mv_int rfl rfl rfl ?_
   refine Ops.nil ?_
   refine thenQ_n ?_
   refine ⟨⟨0, 0, A86, q + 1, c86, rsC ++ [⟨A16, j, c16⟩], zss ++ [acc]⟩, by show 3 - (q + 1) < 3 - q; omega, ⟨rfl, rfl, rfl, rfl, rfl, rfl, rfl, trivial⟩, ?_, by show q + 1 ≤ 3; omega, by simp [hrl], by simp [hzl2], fun p hp => ?_⟩
   ·show St w9 w17 ([_] ++ CkR 34 A86 (q + 1) c86 (rsC ++ [⟨A16, j, c16⟩]) :: rowsCk 2 (rsC ++ [⟨A16, j, c16⟩]) (zss ++ [acc]))
    rw [rowsCk_append (by omega)]
    refine hT17.perm ?_
    exact List.perm_append_comm (l₁ := [_]) (l₂ := _ :: CkR 34 A86 (q + 1) c86 (rsC ++ [⟨A16, j, c16⟩]) :: rowsCk 2 rsC zss)
   ·rcases List.mem_append.1 hp with h | h
    ·exact hzz p h
    ·rw [List.mem_singleton] at h; subst h; exact ⟨by omega, hacc⟩
 ·have hq3 : q = 3 := by omega
  subst hq3
  have hF := hS9.call hT12
  have hF2 : St w0 w12 (Bx 32 1 A14 [.slice C 3 cC] :: (mat 34 2 C 3 cC rsC zss ++ (Bx 32 1 A4 [.slice none 0 0] :: ks.set ix k'))) :=
   hF.sub (List.Sublist.cons_cons _ (List.Sublist.append_left ((List.sublist_append_right _ _).cons _ |>.cons _) _))
  have hF3 : St w0 w12 (Bx 32 1 A14 [.slice C 3 cC] :: Bx 32 1 A4 [.slice none 0 0] :: (mat 34 2 C 3 cC rsC zss ++ ks.set ix k')) := hF2.perm (List.Perm.cons _ List.perm_middle)
  refine Cd.exit ?_
  refine thenQ_x ?_
  refine thenQ_x ?_
  refine blockQ_x ?_
  refine thenQ_n ?_
  refine Cd.seq ?_
  refine Cd.region ?_
  refine Ops.ld_agg 0 (hF3.rd 0 rfl) rfl rfl rfl ?_
  refine Ops.st_agg 1 1 hF3 rfl rfl rfl rfl rfl rfl rfl ?_
  intro w13 hF4
  refine Ops.nil ?_
  refine thenQ_n ?_
  refine Cd.ret ?_
  skip
  refine retc_r rfl (hF4.rd 1 rfl) ?_
  exact ⟨C, cC, rsC, zss, ord.length, k', rfl, hrl, hzl2, hzz, ⟨hol1, by omega⟩, hK', (hF4.sub ((List.Sublist.refl _).cons _)).sub ((List.Sublist.refl _).cons _)⟩
end Go.Proofs.YtjpkmpihmilgoaaGreat.Vc
