/-
  The texts P1, E5, Iso, Cmp, Ls2, Del, K6, Aut, Q1, Q2, Q3, Q4, Cen, N1, N2, Lm1, Dr1, Gpl, Dpl, Dn, Open, Opm, Opy in one. Conditions: as each part states them.
-/
import Derived.Test.YtjpkmpihmilgoaaGreatZi
import Derived.Test.YtjpkmpihmilgoaaGreatZf
import Derived.Test.YtjpkmpihmilgoaaGreatZh
import Derived.Test.YtjpkmpihmilgoaaGreatZa
import Derived.Test.YtjpkmpihmilgoaaGreatZb
import Derived.Test.YtjpkmpihmilgoaaGreatZe
import Derived.Test.YtjpkmpihmilgoaaGreatZc
import Derived.Test.YtjpkmpihmilgoaaGreatInst
import Derived.Deep.Matrix
import Derived.Carry
import Derived.Below
import Derived.ChangeSame
import Derived.ProofKit
import Derived.OpenShut
import Derived.Handed
import Derived.Lib.SmallJoins
/-
 The shortest path on both sides. Conditions: as each states them.
-/
namespace Go.Proofs.YtjpkmpihmilgoaaGreat.Vc
open Go.RowKit

/-- the first of a row that is one nearer, from place k on -/
def nrK (far : List Int) (t : Int) : List Int → Int
 | [] => 0
 | x :: r => if gi far x = t then x else nrK far t r
theorem nrK_mem {far : List Int} {t : Int} : ∀ {r : List Int}, (∃ x ∈ r, gi far x = t) → nrK far t r ∈ r ∧ gi far (nrK far t r) = t
 | [], ⟨x, hx, _⟩ => by cases hx
 | y :: r, ⟨x, hx, he⟩ => by
  unfold nrK
  split
  ·rename_i h; exact ⟨by simp, h⟩
  ·rename_i h
   have hx' : x ∈ r := by
    rcases List.mem_cons.1 hx with rfl | hx
    ·exact absurd he h
    ·exact hx
   obtain ⟨h1, h2⟩ := nrK_mem (r := r) ⟨x, hx', he⟩
   exact ⟨by simp [h1], h2⟩
theorem nrK_drop {far r : List Int} {t : Int} {k : Nat} (hk : k < r.length) : nrK far t (r.drop k) = if gi far (gi r (k : Int)) = t then gi r (k : Int) else nrK far t (r.drop (k + 1)) := by
 rw [List.drop_eq_getElem_cons hk, nrK, gi_mem hk]
/-- the way on from u, d steps -/
def pathG (next : List (List Int)) (far : List Int) : Nat → Int → List Int
 | 0, _ => []
 | d + 1, u => nrK far (gi far u - 1) (gl next u) :: pathG next far d (nrK far (gi far u - 1) (gl next u))
theorem pathG_len (next : List (List Int)) (far : List Int) : ∀ d u, (pathG next far d u).length = d
 | 0, _ => rfl
 | d + 1, u => by rw [pathG, List.length_cons, pathG_len next far d]
def spP (next : List (List Int)) (u v : Int) : List Int := u :: pathG next (distP next (-1) v).1 (gi (distP next (-1) v).1 u).toNat u
def spL (xss : List (List Int)) (u v : Int) : List Int := if goK xss [u, v] = 0 then spP (nbL xss) u v else []

/-- what holds on the way -/
theorem way {xss : List (List Int)} (hG : Grph xss) {v u : Int} (h0 : 0 ≤ v) (h1 : v < vertsN xss) (h2 : 0 ≤ u) (h3 : u < vertsN xss) (hne : u ≠ v) :
  0 < gi (distP (nbL xss) (-1) v).1 u ∧ (∃ x ∈ gl (nbL xss) u, gi (distP (nbL xss) (-1) v).1 x = gi (distP (nbL xss) (-1) v).1 u - 1) ∧ ∀ x ∈ gl (nbL xss) u, (gi (distP (nbL xss) (-1) v).1 x < gi (distP (nbL xss) (-1) v).1 u ↔ gi (distP (nbL xss) (-1) v).1 x = gi (distP (nbL xss) (-1) v).1 u - 1) := by
 have hg := nb_gr hG.1
 have hD := dist_DF hg h0 h1
 have ha := dist_all hG h0 h1 h2 h3
 obtain ⟨y, hy, hxy, hyp, hd⟩ := hD.par u h2 h3 ha hne
 refine ⟨by omega, ⟨y, nb_symm hG.1 hy.1 hxy, by omega⟩, fun x hx => ?_⟩
 have hxr := (hg.row u h2).1 x hx
 have := hD.nxt x hxr.1 hxr.2 (dist_all hG h0 h1 hxr.1 hxr.2) u (nb_symm hG.1 h2 hx)
 omega
theorem way0 {xss : List (List Int)} (hG : Grph xss) {v : Int} (h0 : 0 ≤ v) (h1 : v < vertsN xss) : gi (distP (nbL xss) (-1) v).1 v = 0 := (dist_DF (nb_gr hG.1) h0 h1).at0
theorem sp_bd (xss : List (List Int)) (u v : Int) : (spL xss u v).length ≤ 1000 := by
 unfold spL
 split
 ·rename_i hK
  obtain ⟨hG, hA⟩ := goK_zero hK
  have hu := hA u (by simp)
  have hv := hA v (by simp)
  have hsm := nb_small hG.1
  have := (dist_DF (nb_gr hG.1) hv.1 (by omega)).top u hu.1 (by omega)
  rw [spP, List.length_cons, pathG_len]
  omega
 ·exact Nat.zero_le _
theorem goK_two (xss : List (List Int)) (u v : Int) : (goK xss [u, v] = 0 ↔ goK xss [u] = 0 ∧ goK xss [v] = 0) ∧ (goK xss [u, v] ≠ 0 → goK xss [u, v] = max (goK xss [u]) (goK xss [v])) := by
 have h2 : allIn 0 ((vertsN xss : Int) - 1) [u, v] ↔ allIn 0 ((vertsN xss : Int) - 1) [u] ∧ allIn 0 ((vertsN xss : Int) - 1) [v] := by simp [allIn]
 unfold goK
 by_cases hG : Grph xss
 ·by_cases hu : allIn 0 ((vertsN xss : Int) - 1) [u] <;> by_cases hv : allIn 0 ((vertsN xss : Int) - 1) [v] <;> simp [hG, h2, hu, hv] <;> decide
 ·simp [hG]

theorem specShortestPath_c (A : Option Addr) (n c : Nat) (rs : List SlV) (xss : List (List Int)) (u v : Int) (w : World) (hR : RowsI w A n rs xss) (hn : n ≤ 9223372036854775807) :
  Ret Tryz.prog 38 [.agg #[.slice A n c], .int .i64 u, .int .i64 v] w (AnsR (spL xss u v) (goK xss [u, v]) w) := by
 have h2 := goK_two xss u v
 refine Ret.of_cd Tryz.func38 rfl Tryz.ntmps38 rfl (post2 rfl) ?_
 refine Cd.seq ?_
 refine Cd.region ?_
 refine Ops.box1 (St.refl w) rfl rfl ?_
 intro Ab w1 hS
 refine Ops.mv_sl rfl rfl rfl ?_
 refine Ops.mv_int rfl rfl rfl ?_
 refine Ops.nil ?_
 refine thenQ_n ?_
 refine Cd.seq ?_
 refine Cd.draw [.ex (.agg #[.slice (A) (n) (c)]), .ex (.int .i64 (u)), .ex (.int .i64 (goK xss [u])), .ex (.agg #[.slice (A) (n) (c)]), .ex (.int .i64 (v)), .ex (.int .i64 (goK xss [v])), .ex (.int .i64 (goK xss [u])), .ex (.int .i64 (goK xss [v]))] (by kernel_rfl) (by kernel_rfl) rfl (List.forall_mem_cons.2 ⟨Yd.lasts_ex _, (List.forall_mem_cons.2 ⟨Yd.lasts_ex _, (List.forall_mem_cons.2 ⟨Yd.lasts_ex _, (List.forall_mem_cons.2 ⟨Yd.lasts_ex _, (List.forall_mem_cons.2 ⟨Yd.lasts_ex _, (List.forall_mem_cons.2 ⟨Yd.lasts_ex _, (List.forall_mem_cons.2 ⟨Yd.lasts_ex _, (List.forall_mem_cons.2 ⟨Yd.lasts_ex _, (fun _ h => by cases h)⟩)⟩)⟩)⟩)⟩)⟩)⟩)⟩) ⟨?_, ?_, ?_, ?_, ?_, ?_, ?_, ?_, trivial⟩ ?_
 ·intro e1 w1 hb hp hun
  refine Ops.ld_agg 0 ((hS.rd 0 rfl).below hb) rfl rfl rfl ?_
  refine Ops.nil ?_
  exact After.dn (Below.refl _ _) (by exact rfl)
 ·intro e1 w1 hb hp hun
  refine Ops.mv_int rfl rfl rfl ?_
  refine Ops.nil ?_
  exact After.dn (Below.refl _ _) (by exact rfl)
 ·intro e1 w1 hb hp hun
  refine Ops.call (l18Code_c A n c rs xss u _ ((hS.oldRows hR).later hb) hn) rfl rfl rfl ?_
  rintro _ w2 ⟨rfl, hst⟩
  refine Ops.nil ?_
  exact After.dn hst.below (by exact rfl)
 ·intro e1 w1 hb hp hun
  refine Ops.ld_agg 0 ((hS.rd 0 rfl).below hb) rfl rfl rfl ?_
  refine Ops.nil ?_
  exact After.dn (Below.refl _ _) (by exact rfl)
 ·intro e1 w1 hb hp hun
  refine Ops.mv_int rfl rfl rfl ?_
  refine Ops.nil ?_
  exact After.dn (Below.refl _ _) (by exact rfl)
 ·intro e1 w1 hb hp hun
  refine Ops.call (l18Code_c A n c rs xss v _ ((hS.oldRows hR).later hb) hn) rfl rfl rfl ?_
  rintro _ w2 ⟨rfl, hst⟩
  refine Ops.nil ?_
  exact After.dn hst.below (by exact rfl)
 ·intro e1 w1 hb hp hun
  refine Ops.mv_int rfl rfl rfl ?_
  refine Ops.nil ?_
  exact After.dn (Below.refl _ _) (by exact rfl)
 ·intro e1 w1 hb hp hun
  refine Ops.mv_int rfl rfl rfl ?_
  refine Ops.nil ?_
  exact After.dn (Below.refl _ _) (by exact rfl)
 intro uu w2 hb2 _
 have hS := hS.later hb2
 refine thenQ_n ?_
 refine Cd.seq ?_
 refine Cd.seq ?_
 refine Cd.region ?_
 refine Ops.mv_int rfl rfl rfl ?_
 refine Ops.neq rfl rfl rfl ?_
 refine Ops.mv_bool rfl rfl rfl ?_
 refine Ops.split_p 23 rfl (fun h => ?_) (fun h => ?_)
 ·refine Ops.skipg rfl rfl rfl rfl rfl ?_
  refine Ops.skipg rfl rfl rfl rfl rfl ?_
  refine Ops.pick_t rfl rfl rfl ?_
  refine Ops.nil ?_
  refine thenQ_n ?_
  refine Cd.cond_t rfl ?_
  refine Cd.seq ?_
  refine Cd.region ?_
  refine Ops.mv_int rfl rfl rfl ?_
  refine Ops.mv_int rfl rfl rfl ?_
  refine Ops.maxI rfl rfl rfl ?_
  refine Ops.mv_sl rfl rfl rfl ?_
  refine Ops.mv_int rfl rfl rfl ?_
  refine Ops.nil ?_
  refine thenQ_n ?_
  refine Cd.ret ?_
  refine thenQ_r ?_
  refine ret2_si rfl rfl ?_
  have h0 : goK xss [u, v] ≠ 0 := fun e => h (h2.1.1 e).1
  rw [← h2.2 h0, show spL xss u v = [] from if_neg h0]
  exact AnsR.none hS
 ·refine Ops.rung rfl rfl rfl ?_
  refine Ops.mv_int rfl rfl rfl ?_
  refine Ops.rung rfl rfl rfl ?_
  refine Ops.neq rfl rfl rfl ?_
  refine Ops.pick_f rfl rfl rfl ?_
  refine Ops.nil ?_
  refine thenQ_n ?_
  refine Cd.cond_p _ rfl (fun h3 => ?_) (fun h3 => ?_)
  ·refine Cd.seq ?_
   refine Cd.region ?_
   refine Ops.mv_int rfl rfl rfl ?_
   refine Ops.mv_int rfl rfl rfl ?_
   refine Ops.maxI rfl rfl rfl ?_
   refine Ops.mv_sl rfl rfl rfl ?_
   refine Ops.mv_int rfl rfl rfl ?_
   refine Ops.nil ?_
   refine thenQ_n ?_
   refine Cd.ret ?_
   refine thenQ_r ?_
   refine ret2_si rfl rfl ?_
   have h0 : goK xss [u, v] ≠ 0 := fun e => h3 (h2.1.1 e).2
   rw [← h2.2 h0, show spL xss u v = [] from if_neg h0]
   exact AnsR.none hS
  ·have hK : goK xss [u, v] = 0 := h2.1.2 ⟨Classical.not_not.1 h, Classical.not_not.1 h3⟩
   obtain ⟨hG, hA⟩ := goK_zero hK
   have hu := hA u (by simp)
   have hv := hA v (by simp)
   have hg := nb_gr hG.1
   have hsm := nb_small hG.1
   have hD := dist_DF hg hv.1 (by omega)
   have hway := fun x h0 h1 hne => way hG hv.1 (by omega) (u := x) h0 h1 hne
   refine Cd.skip ?_
   refine thenQ_n ?_
   refine Cd.seq ?_
   refine Cd.region ?_
   refine Ops.ld_agg 0 (hS.rd 0 rfl) rfl rfl rfl ?_
   refine Ops.call (l18Neighbours_c A n c rs xss _ (hS.oldRows hR) hG) rfl rfl rfl ?_
   rintro _ w3 ⟨A3, rs3, rfl, hrl, hst3⟩
   have hS3 := hS.later hst3.below
   refine Ops.mv_sl rfl rfl rfl ?_
   refine Ops.nil ?_
   refine thenQ_n ?_
   refine Cd.seq ?_
   refine Cd.region ?_
   refine Ops.mv_sl rfl rfl rfl ?_
   refine Ops.mv_int rfl rfl rfl ?_
   refine Ops.call (l18Distances_c A3 _ _ rs3 (nbL xss) v (-1) _ (hst3.rowsI (nbL_len xss)) hg hv.1 (by omega)) rfl rfl rfl ?_
   rintro _ w4 ⟨A4, rfl, hst4⟩
   have hS4 := (hS3.later hst4.below).none
   have hN4 := (hst3.rowsI (nbL_len xss)).later hst4.below
   have hF4 := hst4.rdI 0 rfl
   rw [show spL xss u v = spP (nbL xss) u v from if_pos hK, hK]
   have hfin : spP (nbL xss) u v = u :: pathG (nbL xss) (distP (nbL xss) (-1) v).1 (gi (distP (nbL xss) (-1) v).1 u).toNat u := rfl
   have hfu := dist_all hG hv.1 (by omega) hu.1 (by omega)
   have hf0 := hD.at0
   have hft := hD.top
   have hfl := hD.len
   have hrow := hg.row
   have hLl : (spP (nbL xss) u v).length ≤ 1000 := by have := sp_bd xss u v; rwa [show spL xss u v = spP (nbL xss) u v from if_pos hK] at this
   generalize hvN : vertsN xss = vN at *
   generalize hnx : nbL xss = next at *
   generalize hfa : (distP next (-1) v).1 = far at *
   generalize hLs : spP next u v = Ls at *
   refine Ops.mv_sl rfl rfl rfl ?_
   refine Ops.nil ?_
   refine thenQ_n ?_
   refine Cd.seq ?_
   refine Cd.region ?_
   refine Ops.mv_int rfl rfl rfl ?_
   refine Ops.bs1I (St.refl w4) rfl rfl rfl ?_
   intro A5 w5 hS5
   refine Ops.mv_sl rfl rfl rfl ?_
   refine Ops.nil ?_
   refine thenQ_n ?_
   refine Cd.seq ?_
   refine Cd.block ?_
   refine Cd.loop (α := Nat × Int × Option Addr × Nat × List Int) (fun s => [(1, .int .i64 s.2.1), (2, .int .i64 v), (10, .slice A3 vN vN), (11, .slice A4 vN vN), (12, .slice s.2.2.1 s.2.2.2.2.length s.2.2.2.1)]) (fun s w' => St w4 w' [CkI 2 s.2.2.1 s.2.2.2.2.length s.2.2.2.1 s.2.2.2.2] ∧ gi far s.2.1 = s.1 ∧ (0 ≤ s.2.1 ∧ s.2.1 < vN) ∧ s.2.2.2.2 ++ pathG next far s.1 s.2.1 = Ls) (fun s => s.1) ((gi far u).toNat, u, A5, 1, [u]) ⟨rfl, rfl, rfl, rfl, rfl, trivial⟩ ⟨hS5, by show gi far u = ((gi far u).toNat : Int); omega, by show 0 ≤ u ∧ u < vN; omega, hfin.symm⟩ ?_
   rintro ⟨d, at_, A6, c6, out⟩ e w6 ⟨hS6, hd, hat, hout⟩
   dsimp only at hS6 hd hat hout ⊢
   have hol := congrArg List.length hout
   rw [List.length_append, pathG_len] at hol
   refine Cd.seq ?_
   refine Cd.seq ?_
   refine Cd.region ?_
   refine Ops.mv_int rfl rfl rfl ?_
   refine Ops.mv_int rfl rfl rfl ?_
   refine Ops.neq rfl rfl rfl ?_
   refine Ops.nil ?_
   refine thenQ_n ?_
   refine Cd.cond_p _ rfl (fun h4 => ?_) (fun h4 => ?_)
   ·obtain ⟨w0, w1', w2'⟩ := hway at_ hat.1 hat.2 h4
    have hN6 := hN4.later hS6.below
    have hF6 := hF4.later hS6.below
    have hrl6 := hN6.rowLen hat.1 hat.2
    have hat' := hrow at_ hat.1
    have hdt := hft at_ hat.1 hat.2
    refine Cd.skip ?_
    refine thenQ_n ?_
    refine Cd.block ?_
    refine Cd.seq ?_
    refine Cd.seq ?_
    refine Cd.region ?_
    refine Ops.mv_int rfl rfl rfl ?_
    refine Ops.nil ?_
    refine thenQ_n ?_
    refine Cd.block ?_
    refine Cd.loop (α := Nat) (fun k => [(1, .int .i64 at_), (2, .int .i64 v), (10, .slice A3 vN vN), (11, .slice A4 vN vN), (12, .slice A6 out.length c6), (13, .int .i64 (k : Int))]) (fun k w' => St w6 w' [] ∧ k ≤ (gl next at_).length ∧ (∃ x ∈ (gl next at_).drop k, gi far x = gi far at_ - 1) ∧ nrK far (gi far at_ - 1) ((gl next at_).drop k) = nrK far (gi far at_ - 1) (gl next at_)) (fun k => (gl next at_).length - k) 0 ⟨rfl, rfl, rfl, rfl, rfl, rfl, trivial⟩ ⟨St.refl w6, Nat.zero_le _, w1', rfl⟩ ?_
    rintro k e w7 ⟨hS7, hk, hex, hnr⟩
    have hN7 := hN6.later hS7.below
    have hF7 := hF6.later hS7.below
    have hrow7 := hN7.at_ (i := at_) hat.1 hat.2
    refine Cd.seq ?_
    refine Cd.seq ?_
    refine Cd.region ?_
    refine Ops.mv_int rfl rfl rfl ?_
    refine Ops.mv_sl rfl rfl rfl ?_
    refine Ops.mv_int rfl rfl rfl ?_
    refine Ops.idx hN7.top.2 rfl rfl rfl hat.1 hat.2 ?_
    refine Ops.ld_sl hN7.top rfl (by omega) rfl rfl ?_
    refine Ops.len rfl rfl ?_
    refine Ops.lss rfl rfl rfl ?_
    refine Ops.nil ?_
    refine thenQ_n ?_
    refine Cd.cond_p _ rfl (fun h5 => ?_) (fun h5 => ?_)
    ·have hk' : k < (gl next at_).length := by omega
     have hxm : gi (gl next at_) (k : Int) ∈ gl next at_ := gi_in hk'
     have hx := hat'.1 _ hxm
     rw [nrK_drop hk'] at hnr
     refine Cd.skip ?_
     refine thenQ_n ?_
     refine Cd.seq ?_
     refine Cd.block ?_
     refine Cd.seq ?_
     refine Cd.region ?_
     refine Ops.mv_sl rfl rfl rfl ?_
     refine Ops.mv_int rfl rfl rfl ?_
     refine Ops.idx hN7.top.2 rfl rfl rfl hat.1 hat.2 ?_
     refine Ops.ld_sl hN7.top rfl (by omega) rfl rfl ?_
     refine Ops.mv_int rfl rfl rfl ?_
     refine Ops.idx hrow7.2 rfl rfl rfl (by omega) (by omega) ?_
     refine Ops.ld_int hrow7 rfl (by omega) rfl rfl ?_
     generalize hxe : gi (gl next at_) (k : Int) = x at *
     refine Ops.mv_int rfl rfl rfl ?_
     refine Ops.nil ?_
     refine thenQ_n ?_
     refine Cd.seq ?_
     refine Cd.draw [.ex (.slice (A4) (vN) (vN)), .ex (.int .i64 (x)), .ex (.pointer (ptrAt (A4) (x).toNat)), .ex (.int .i64 (gi (far) (x))), .ex (.slice (A4) (vN) (vN)), .ex (.int .i64 (at_)), .ex (.pointer (ptrAt (A4) (at_).toNat)), .ex (.int .i64 (gi (far) (at_))), .ex (.int .i64 ((gi (far) (at_)) - ((1 : Int)))), .ex (.bool (decide ((gi (far) (x)) = ((gi (far) (at_)) - ((1 : Int))))))] (by kernel_rfl) (by kernel_rfl) rfl (List.forall_mem_cons.2 ⟨Yd.lasts_ex _, (List.forall_mem_cons.2 ⟨Yd.lasts_ex _, (List.forall_mem_cons.2 ⟨Yd.lasts_ex _, (List.forall_mem_cons.2 ⟨Yd.lasts_ex _, (List.forall_mem_cons.2 ⟨Yd.lasts_ex _, (List.forall_mem_cons.2 ⟨Yd.lasts_ex _, (List.forall_mem_cons.2 ⟨Yd.lasts_ex _, (List.forall_mem_cons.2 ⟨Yd.lasts_ex _, (List.forall_mem_cons.2 ⟨Yd.lasts_ex _, (List.forall_mem_cons.2 ⟨Yd.lasts_ex _, (fun _ h => by cases h)⟩)⟩)⟩)⟩)⟩)⟩)⟩)⟩)⟩)⟩) ⟨?_, ?_, ?_, ?_, ?_, ?_, ?_, ?_, ?_, ?_, trivial⟩ ?_
     ·intro e1 w1 hb hp hun
      refine Ops.mv_sl rfl rfl rfl ?_
      refine Ops.nil ?_
      exact After.dn (Below.refl _ _) (by exact rfl)
     ·intro e1 w1 hb hp hun
      refine Ops.mv_int rfl rfl rfl ?_
      refine Ops.nil ?_
      exact After.dn (Below.refl _ _) (by exact rfl)
     ·intro e1 w1 hb hp hun
      refine Ops.idx (hF7.later hb).2 rfl rfl rfl (by omega) (by omega) ?_
      refine Ops.nil ?_
      exact After.dn (Below.refl _ _) (by exact rfl)
     ·intro e1 w1 hb hp hun
      refine Ops.ld_int (hF7.later hb) rfl (by omega) rfl rfl ?_
      refine Ops.nil ?_
      exact After.dn (Below.refl _ _) (by exact rfl)
     ·intro e1 w1 hb hp hun
      refine Ops.mv_sl rfl rfl rfl ?_
      refine Ops.nil ?_
      exact After.dn (Below.refl _ _) (by exact rfl)
     ·intro e1 w1 hb hp hun
      refine Ops.mv_int rfl rfl rfl ?_
      refine Ops.nil ?_
      exact After.dn (Below.refl _ _) (by exact rfl)
     ·intro e1 w1 hb hp hun
      refine Ops.idx (hF7.later hb).2 rfl rfl rfl (by omega) (by omega) ?_
      refine Ops.nil ?_
      exact After.dn (Below.refl _ _) (by exact rfl)
     ·intro e1 w1 hb hp hun
      refine Ops.ld_int (hF7.later hb) rfl (by omega) rfl rfl ?_
      refine Ops.nil ?_
      exact After.dn (Below.refl _ _) (by exact rfl)
     ·intro e1 w1 hb hp hun
      refine Ops.sub rfl rfl rfl (by omega) ?_
      refine Ops.nil ?_
      exact After.dn (Below.refl _ _) (by exact rfl)
     ·intro e1 w1 hb hp hun
      refine Ops.eql rfl rfl rfl ?_
      refine Ops.nil ?_
      exact After.dn (Below.refl _ _) (by exact rfl)
     intro uu w8 hb8 _
     have hS8 := hS7.later hb8
     refine thenQ_n ?_
     refine Cd.cond_p _ rfl (fun h6 => ?_) (fun h6 => ?_)
     ·rw [if_pos h6] at hnr
      have hS9 := hS6.later hS8.below
      refine Cd.seq ?_
      refine Cd.region ?_
      refine Ops.mv_int rfl rfl rfl ?_
      refine Ops.mv_int rfl rfl rfl ?_
      refine Ops.nil ?_
      refine thenQ_n ?_
      refine Cd.exit ?_
      refine blockQ_y rfl ?_
      refine thenQ_x ?_
      refine thenQ_x ?_
      refine blockQ_x ?_
      refine thenQ_n ?_
      refine Cd.region ?_
      refine Ops.mv_sl rfl rfl rfl ?_
      refine Ops.mv_int rfl rfl rfl ?_
      refine Ops.bs1I hS9 rfl rfl rfl ?_
      intro A10 w10 hS10
      refine Ops.appI 1 hS10 rfl (hS10.rdI 0 rfl) rfl rfl rfl (by omega) (by omega) rfl ?_
      intro A11 c11 w11 hS11
      refine Ops.mv_sl rfl rfl rfl ?_
      refine Ops.nil ?_
      refine blockQ_n ?_
      refine thenQ_n ?_
      obtain ⟨d', rfl⟩ : ∃ d', d = d' + 1 := ⟨d - 1, by omega⟩
      rw [pathG, ← hnr] at hout
      have e1 : (out ++ [x]).length = out.length + 1 := by simp
      refine ⟨(d', x, A11, c11, out ++ [x]), Nat.lt_succ_self d', ⟨rfl, rfl, rfl, rfl, by rw [e1]; rfl, trivial⟩, ?_, by show gi far x = (d' : Int); omega, hx, by show (out ++ [x]) ++ _ = _; rw [List.append_assoc]; exact hout⟩
      show St w4 w11 [CkI _ A11 (out ++ [x]).length c11 (out ++ [x])]
      rw [e1]
      exact hS11.tail
     ·rw [if_neg h6] at hnr
      refine Cd.skip ?_
      refine blockQ_n ?_
      refine thenQ_n ?_
      refine Cd.region ?_
      refine Ops.mv_int rfl rfl rfl ?_
      refine Ops.add rfl rfl rfl (by omega) ?_
      refine Ops.mv_int rfl rfl rfl ?_
      refine Ops.nil ?_
      refine thenQ_n ?_
      refine ⟨k + 1, by show _ - (k + 1) < _ - k; omega, ⟨rfl, rfl, rfl, rfl, rfl, rfl, trivial⟩, hS8, hk', ?_, hnr⟩
      obtain ⟨y, hy, hye⟩ := hex
      rw [List.drop_eq_getElem_cons hk', ← gi_mem hk', hxe] at hy
      rcases List.mem_cons.1 hy with rfl | hy
      ·exact absurd hye h6
      ·exact ⟨y, hy, hye⟩
    ·exfalso --x
     obtain ⟨x, hx, _⟩ := hex
     rw [List.drop_of_length_le (by omega)] at hx
     cases hx
   ·have hav : at_ = v := Classical.not_not.1 h4
    have hd0 : d = 0 := by rw [hav] at hd; omega
    subst hd0
    rw [pathG, List.append_nil] at hout
    subst hout
    refine Cd.exit ?_
    refine thenQ_x ?_
    refine thenQ_x ?_
    refine blockQ_x ?_
    refine thenQ_n ?_
    refine Cd.seq ?_
    refine Cd.region ?_
    refine Ops.mv_sl rfl rfl rfl ?_
    refine Ops.mv_sl rfl rfl rfl ?_
    refine Ops.mv_int rfl rfl rfl ?_
    refine Ops.nil ?_
    refine thenQ_n ?_
    refine Cd.ret ?_
    refine ret2_si rfl rfl ?_
    exact AnsR.mk rfl (hS4.call hS6)
theorem implShortestPath_c (A : Option Addr) (n c : Nat) (rs : List SlV) (xss : List (List Int)) (u v : Int) (w : World) (hR : RowsI w A n rs xss) (hn : n ≤ c) (hc : c ≤ 9223372036854775807) :
  Ret Tryz.prog 37 [.agg #[.slice A n c], .int .i64 u, .int .i64 v] w (AnsR (spL xss u v) (goK xss [u, v]) w) := by
 have h2 := goK_two xss u v
 refine Ret.of_cd Tryz.func37 rfl Tryz.ntmps37 rfl (post2 rfl) ?_
 refine Cd.seq ?_
 refine Cd.region ?_
 refine Ops.box1 (St.refl w) rfl rfl ?_
 intro Ab w1 hS
 refine Ops.mv_sl rfl rfl rfl ?_
 refine Ops.mv_int rfl rfl rfl ?_
 refine Ops.nil ?_
 refine thenQ_n ?_
 refine Cd.seq ?_
 refine Cd.region ?_
 refine Ops.ld_agg 0 (hS.rd 0 rfl) rfl rfl rfl ?_
 refine Ops.mv_int rfl rfl rfl ?_
 refine Ops.mv_int rfl rfl rfl ?_
 refine Ops.bs2 hS rfl rfl rfl rfl rfl rfl ?_
 intro A2 w2 hS2
 have hS2 : St w w2 [CkI 2 A2 2 2 [u, v], Bx 32 1 Ab [.slice A n c]] := hS2
 refine Ops.call (graphOf_c A n c rs xss A2 2 2 [u, v] _ (hS2.oldRows hR) hn hc (hS2.rdI 0 rfl) (by omega)) rfl rfl rfl ?_
 rintro _ w3 ⟨A3, c3, rs3, rfl, hrl, hst3⟩
 have hS3 := hS2.later hst3.below
 refine Ops.mv_tup rfl rfl rfl ?_
 refine Ops.extract rfl rfl rfl ?_
 refine Ops.extract rfl rfl rfl ?_
 refine Ops.mv_sl rfl rfl rfl ?_
 refine Ops.mv_int rfl rfl rfl ?_
 refine Ops.nil ?_
 refine thenQ_n ?_
 refine Cd.seq ?_
 refine Cd.seq ?_
 refine Cd.region ?_
 refine Ops.mv_int rfl rfl rfl ?_
 refine Ops.neq rfl rfl rfl ?_
 refine Ops.nil ?_
 refine thenQ_n ?_
 refine Cd.cond_p _ rfl (fun h => ?_) (fun h => ?_)
 ·refine Cd.seq ?_
  refine Cd.region ?_
  refine Ops.mv_int rfl rfl rfl ?_
  refine Ops.mv_sl rfl rfl rfl ?_
  refine Ops.mv_int rfl rfl rfl ?_
  refine Ops.nil ?_
  refine thenQ_n ?_
  refine Cd.ret ?_
  refine thenQ_r ?_
  refine ret2_si rfl rfl ?_
  rw [show spL xss u v = [] from if_neg h]
  exact AnsR.none hS3
 ·have hK : goK xss [u, v] = 0 := Classical.not_not.1 h
  obtain ⟨hG, hA⟩ := goK_zero hK
  have hu := hA u (by simp)
  have hv := hA v (by simp)
  have hg := nb_gr hG.1
  have hsm := nb_small hG.1
  have hD := dist_DF hg hv.1 (by omega)
  have hway := fun x h0 h1 hne => way hG hv.1 (by omega) (u := x) h0 h1 hne
  have hL : goL xss [u, v] = nbL xss := by rw [goL, if_pos ⟨hG, hA⟩]
  rw [hL] at hst3 hrl ⊢
  rw [nbL_len] at hst3 ⊢
  refine Cd.skip ?_
  refine thenQ_n ?_
  refine Cd.seq ?_
  refine Cd.region ?_
  refine Ops.mv_sl rfl rfl rfl ?_
  refine Ops.mv_int rfl rfl rfl ?_
  refine Ops.call (graphDistances_c A3 _ _ rs3 (nbL xss) v _ (hst3.rowsI (nbL_len xss)) hg hv.1 (by omega)) rfl rfl rfl ?_
  rintro _ w4 ⟨A4, rfl, hst4⟩
  have hS4 := (hS3.later hst4.below).none
  have hN4 := (hst3.rowsI (nbL_len xss)).later hst4.below
  have hF4 := hst4.rdI 0 rfl
  rw [show spL xss u v = spP (nbL xss) u v from if_pos hK, hK]
  have hfin : spP (nbL xss) u v = u :: pathG (nbL xss) (distP (nbL xss) (-1) v).1 (gi (distP (nbL xss) (-1) v).1 u).toNat u := rfl
  have hfu := dist_all hG hv.1 (by omega) hu.1 (by omega)
  have hf0 := hD.at0
  have hft := hD.top
  have hfl := hD.len
  have hrow := hg.row
  have hLl : (spP (nbL xss) u v).length ≤ 1000 := by have := sp_bd xss u v; rwa [show spL xss u v = spP (nbL xss) u v from if_pos hK] at this
  generalize hvN : vertsN xss = vN at *
  generalize hnx : nbL xss = next at *
  generalize hfa : (distP next (-1) v).1 = far at *
  generalize hLs : spP next u v = Ls at *
  refine Ops.mv_sl rfl rfl rfl ?_
  refine Ops.nil ?_
  refine thenQ_n ?_
  refine Cd.seq ?_
  refine Cd.region ?_
  refine Ops.mv_int rfl rfl rfl ?_
  refine Ops.bs1I (St.refl w4) rfl rfl rfl ?_
  intro A5 w5 hS5
  refine Ops.mv_sl rfl rfl rfl ?_
  refine Ops.nil ?_
  refine thenQ_n ?_
  refine Cd.seq ?_
  refine Cd.seq ?_
  refine Cd.region ?_
  refine Ops.mv_int rfl rfl rfl ?_
  refine Ops.mv_int rfl rfl rfl ?_
  refine Ops.nil ?_
  refine thenQ_n ?_
  refine Cd.block ?_
  refine Cd.loop (α := Nat × Int × Option Addr × Nat × List Int) (fun s => [(2, .int .i64 v), (8, .slice A3 vN c3), (10, .slice A4 vN vN), (11, .slice s.2.2.1 s.2.2.2.2.length s.2.2.2.1), (12, .int .i64 s.2.1)]) (fun s w' => St w4 w' [CkI 2 s.2.2.1 s.2.2.2.2.length s.2.2.2.1 s.2.2.2.2] ∧ gi far s.2.1 = s.1 ∧ (0 ≤ s.2.1 ∧ s.2.1 < vN) ∧ s.2.2.2.2 ++ pathG next far s.1 s.2.1 = Ls) (fun s => s.1) ((gi far u).toNat, u, A5, 1, [u]) ⟨rfl, rfl, rfl, rfl, rfl, trivial⟩ ⟨hS5, by show gi far u = ((gi far u).toNat : Int); omega, by show 0 ≤ u ∧ u < vN; omega, hfin.symm⟩ ?_
  rintro ⟨d, at_, A6, c6, out⟩ e w6 ⟨hS6, hd, hat, hout⟩
  dsimp only at hS6 hd hat hout ⊢
  have hol := congrArg List.length hout
  rw [List.length_append, pathG_len] at hol
  refine Cd.seq ?_
  refine Cd.seq ?_
  refine Cd.region ?_
  refine Ops.mv_int rfl rfl rfl ?_
  refine Ops.mv_int rfl rfl rfl ?_
  refine Ops.neq rfl rfl rfl ?_
  refine Ops.nil ?_
  refine thenQ_n ?_
  refine Cd.cond_p _ rfl (fun h4 => ?_) (fun h4 => ?_)
  ·obtain ⟨w0, w1', w2'⟩ := hway at_ hat.1 hat.2 h4
   have hN6 := hN4.later hS6.below
   have hF6 := hF4.later hS6.below
   have hrl6 := hN6.rowLen hat.1 hat.2
   have hat' := hrow at_ hat.1
   have hdt := hft at_ hat.1 hat.2
   refine Cd.skip ?_
   refine thenQ_n ?_
   refine Cd.seq ?_
   refine Cd.block ?_
   refine Cd.seq ?_
   refine Cd.region ?_
   refine Ops.mv_sl rfl rfl rfl ?_
   refine Ops.mv_int rfl rfl rfl ?_
   refine Ops.idx hN6.top.2 rfl rfl rfl hat.1 hat.2 ?_
   refine Ops.ld_sl hN6.top rfl (by omega) rfl rfl ?_
   refine Ops.len rfl rfl ?_
   refine Ops.mv_int rfl rfl rfl ?_
   refine Ops.nil ?_
   refine thenQ_n ?_
   refine Cd.block ?_
   refine Cd.loop (α := Nat) (fun k => [(2, .int .i64 v), (8, .slice A3 vN c3), (10, .slice A4 vN vN), (11, .slice A6 out.length c6), (12, .int .i64 at_), (42, .slice (rg rs3 at_).a (rg rs3 at_).n (rg rs3 at_).c), (43, .int .i64 ((rg rs3 at_).n : Int)), (44, .int .i64 (k : Int))]) (fun k w' => St w6 w' [] ∧ k ≤ (gl next at_).length ∧ (∃ x ∈ (gl next at_).drop k, gi far x = gi far at_ - 1) ∧ nrK far (gi far at_ - 1) ((gl next at_).drop k) = nrK far (gi far at_ - 1) (gl next at_)) (fun k => (gl next at_).length - k) 0 ⟨rfl, rfl, rfl, rfl, rfl, rfl, rfl, rfl, trivial⟩ ⟨St.refl w6, Nat.zero_le _, w1', rfl⟩ ?_
   rintro k e w7 ⟨hS7, hk, hex, hnr⟩
   have hN7 := hN6.later hS7.below
   have hF7 := hF6.later hS7.below
   have hrow7 := hN7.at_ (i := at_) hat.1 hat.2
   refine Cd.seq ?_
   refine Cd.region ?_
   refine Ops.lss rfl rfl rfl ?_
   refine Ops.nil ?_
   refine thenQ_n ?_
   refine Cd.seq ?_
   refine Cd.cond_p _ rfl (fun h5 => ?_) (fun h5 => ?_)
   ·have hk' : k < (gl next at_).length := by omega
    have hxm : gi (gl next at_) (k : Int) ∈ gl next at_ := gi_in hk'
    have hx := hat'.1 _ hxm
    rw [nrK_drop hk'] at hnr
    refine Cd.skip ?_
    refine thenQ_n ?_
    refine Cd.seq ?_
    refine Cd.block ?_
    refine Cd.seq ?_
    refine Cd.region ?_
    refine Ops.idx hrow7.2 rfl rfl rfl (by omega) (by omega) ?_
    refine Ops.ld_int hrow7 rfl (by omega) rfl rfl ?_
    generalize hxe : gi (gl next at_) (k : Int) = x at *
    refine Ops.mv_int rfl rfl rfl ?_
    refine Ops.nil ?_
    refine thenQ_n ?_
    refine Cd.seq ?_
    refine Cd.draw [.ex (.slice (A4) (vN) (vN)), .ex (.int .i64 (x)), .ex (.pointer (ptrAt (A4) (x).toNat)), .ex (.int .i64 (gi (far) (x))), .ex (.slice (A4) (vN) (vN)), .ex (.int .i64 (at_)), .ex (.pointer (ptrAt (A4) (at_).toNat)), .ex (.int .i64 (gi (far) (at_))), .ex (.bool (decide ((gi (far) (x)) < (gi (far) (at_)))))] (by kernel_rfl) (by kernel_rfl) rfl (List.forall_mem_cons.2 ⟨Yd.lasts_ex _, (List.forall_mem_cons.2 ⟨Yd.lasts_ex _, (List.forall_mem_cons.2 ⟨Yd.lasts_ex _, (List.forall_mem_cons.2 ⟨Yd.lasts_ex _, (List.forall_mem_cons.2 ⟨Yd.lasts_ex _, (List.forall_mem_cons.2 ⟨Yd.lasts_ex _, (List.forall_mem_cons.2 ⟨Yd.lasts_ex _, (List.forall_mem_cons.2 ⟨Yd.lasts_ex _, (List.forall_mem_cons.2 ⟨Yd.lasts_ex _, (fun _ h => by cases h)⟩)⟩)⟩)⟩)⟩)⟩)⟩)⟩)⟩) ⟨?_, ?_, ?_, ?_, ?_, ?_, ?_, ?_, ?_, trivial⟩ ?_
    ·intro e1 w1 hb hp hun
     refine Ops.mv_sl rfl rfl rfl ?_
     refine Ops.nil ?_
     exact After.dn (Below.refl _ _) (by exact rfl)
    ·intro e1 w1 hb hp hun
     refine Ops.mv_int rfl rfl rfl ?_
     refine Ops.nil ?_
     exact After.dn (Below.refl _ _) (by exact rfl)
    ·intro e1 w1 hb hp hun
     refine Ops.idx (hF7.later hb).2 rfl rfl rfl (by omega) (by omega) ?_
     refine Ops.nil ?_
     exact After.dn (Below.refl _ _) (by exact rfl)
    ·intro e1 w1 hb hp hun
     refine Ops.ld_int (hF7.later hb) rfl (by omega) rfl rfl ?_
     refine Ops.nil ?_
     exact After.dn (Below.refl _ _) (by exact rfl)
    ·intro e1 w1 hb hp hun
     refine Ops.mv_sl rfl rfl rfl ?_
     refine Ops.nil ?_
     exact After.dn (Below.refl _ _) (by exact rfl)
    ·intro e1 w1 hb hp hun
     refine Ops.mv_int rfl rfl rfl ?_
     refine Ops.nil ?_
     exact After.dn (Below.refl _ _) (by exact rfl)
    ·intro e1 w1 hb hp hun
     refine Ops.idx (hF7.later hb).2 rfl rfl rfl (by omega) (by omega) ?_
     refine Ops.nil ?_
     exact After.dn (Below.refl _ _) (by exact rfl)
    ·intro e1 w1 hb hp hun
     refine Ops.ld_int (hF7.later hb) rfl (by omega) rfl rfl ?_
     refine Ops.nil ?_
     exact After.dn (Below.refl _ _) (by exact rfl)
    ·intro e1 w1 hb hp hun
     refine Ops.lss rfl rfl rfl ?_
     refine Ops.nil ?_
     exact After.dn (Below.refl _ _) (by exact rfl)
    intro uu w8 hb8 _
    have hS8 := hS7.later hb8
    refine thenQ_n ?_
    refine Cd.cond_p _ rfl (fun h6 => ?_) (fun h6 => ?_)
    ·have h6 := (w2' _ hxm).1 h6
     rw [if_pos h6] at hnr
     have hS9 := hS6.later hS8.below
     refine Cd.seq ?_
     refine Cd.region ?_
     refine Ops.mv_int rfl rfl rfl ?_
     refine Ops.mv_int rfl rfl rfl ?_
     refine Ops.nil ?_
     refine thenQ_n ?_
     refine Cd.exit ?_
     refine blockQ_y rfl ?_
     refine thenQ_x ?_
     refine thenQ_x ?_
     refine blockQ_x ?_
     refine blockQ_n ?_
     refine thenQ_n ?_
     refine Cd.region ?_
     refine Ops.mv_sl rfl rfl rfl ?_
     refine Ops.mv_int rfl rfl rfl ?_
     refine Ops.bs1I hS9 rfl rfl rfl ?_
     intro A10 w10 hS10
     refine Ops.appI 1 hS10 rfl (hS10.rdI 0 rfl) rfl rfl rfl (by omega) (by omega) rfl ?_
     intro A11 c11 w11 hS11
     refine Ops.mv_sl rfl rfl rfl ?_
     refine Ops.nil ?_
     refine thenQ_n ?_
     obtain ⟨d', rfl⟩ : ∃ d', d = d' + 1 := ⟨d - 1, by omega⟩
     rw [pathG, ← hnr] at hout
     have e1 : (out ++ [x]).length = out.length + 1 := by simp
     refine ⟨(d', x, A11, c11, out ++ [x]), Nat.lt_succ_self d', ⟨rfl, rfl, rfl, by rw [e1]; rfl, rfl, trivial⟩, ?_, by show gi far x = (d' : Int); omega, hx, by show (out ++ [x]) ++ _ = _; rw [List.append_assoc]; exact hout⟩
     show St w4 w11 [CkI _ A11 (out ++ [x]).length c11 (out ++ [x])]
     rw [e1]
     exact hS11.tail
    ·have h6 := fun h => h6 ((w2' _ hxm).2 h)
     rw [if_neg h6] at hnr
     refine Cd.skip ?_
     refine blockQ_n ?_
     refine thenQ_n ?_
     refine Cd.region ?_
     refine Ops.add rfl rfl rfl (by omega) ?_
     refine Ops.mv_int rfl rfl rfl ?_
     refine Ops.nil ?_
     refine thenQ_n ?_
     refine ⟨k + 1, by show _ - (k + 1) < _ - k; omega, ⟨rfl, rfl, rfl, rfl, rfl, rfl, rfl, rfl, trivial⟩, hS8, hk', ?_, hnr⟩
     obtain ⟨y, hy, hye⟩ := hex
     rw [List.drop_eq_getElem_cons hk', ← gi_mem hk', hxe] at hy
     rcases List.mem_cons.1 hy with rfl | hy
     ·exact absurd hye h6
     ·exact ⟨y, hy, hye⟩
   ·exfalso --x
    obtain ⟨x, hx, _⟩ := hex
    rw [List.drop_of_length_le (by omega)] at hx
    cases hx
  ·have hav : at_ = v := Classical.not_not.1 h4
   have hd0 : d = 0 := by rw [hav] at hd; omega
   subst hd0
   rw [pathG, List.append_nil] at hout
   subst hout
   refine Cd.exit ?_
   refine thenQ_x ?_
   refine thenQ_x ?_
   refine blockQ_x ?_
   refine thenQ_n ?_
   refine Cd.seq ?_
   refine Cd.region ?_
   refine Ops.mv_sl rfl rfl rfl ?_
   refine Ops.mv_sl rfl rfl rfl ?_
   refine Ops.mv_int rfl rfl rfl ?_
   refine Ops.nil ?_
   refine thenQ_n ?_
   refine Cd.ret ?_
   refine ret2_si rfl rfl ?_
   exact AnsR.mk rfl (hS4.call hS6)
end Go.Proofs.YtjpkmpihmilgoaaGreat.Vc
/-
 The diameter of the graph on both sides, and the walk of the law FnExactGraphDiameter. Conditions: as each states them.
-/
namespace Go.Proofs.YtjpkmpihmilgoaaGreat.Vc
open Go.RowKit

def mx (a : Int) (l : List Int) : Int := l.foldl max a
theorem mx_snoc (a : Int) (l : List Int) (x : Int) : mx a (l ++ [x]) = max (mx a l) x := by
 unfold mx
 rw [List.foldl_append]; rfl
theorem mx_max (a : Int) : ∀ (l : List Int) (b : Int), mx (max a b) l = max a (mx b l)
 | [], _ => rfl
 | x :: l, b => by
  show mx (max (max a b) x) l = max a (mx (max b x) l)
  rw [← mx_max a l (max b x), Int.max_assoc]
theorem mx_head {l : List Int} (a : Int) (h : 0 < l.length) : max a (mx (gi l 0) l) = mx a l := by
 cases l with
 | nil => simp at h
 | cons x l =>
  show max a (mx (max x x) l) = mx (max a x) l
  rw [Int.max_self, mx_max]

theorem Max_c (A : Option Addr) (n c : Nat) (xs : List Int) (w : World) (hR : RdI w A n xs) (h0 : 0 < n) (hn : n ≤ 1000000000) :
  Ret Tryz.prog 90 [.slice A n c] w (fun v w' => v = .int .i64 (mx (gi xs 0) xs) ∧ w' = w) := by
 have hxl := hR.1
 refine Ret.of_cd Tryz.func90 rfl Tryz.ntmps90 rfl (post1 rfl) ?_
 refine Cd.seq ?_
 refine Cd.region ?_
 refine Ops.mv_int rfl rfl rfl ?_
 refine Ops.nil ?_
 refine thenQ_n ?_
 refine Cd.seq ?_
 refine Cd.seq ?_
 refine Cd.region ?_
 refine Ops.mv_sl rfl rfl rfl ?_
 refine Ops.len rfl rfl ?_
 refine Ops.lss rfl rfl rfl ?_
 refine Ops.nil ?_
 refine thenQ_n ?_
 refine Cd.cond_pf rfl (by omega) ?_
 refine Cd.skip ?_
 refine thenQ_n ?_
 refine Cd.seq ?_
 refine Cd.region ?_
 refine Ops.mv_sl rfl rfl rfl ?_
 refine Ops.idx hR.2 rfl rfl rfl (by omega) (by omega) ?_
 refine Ops.ld_int hR rfl (by show Int.toNat 0 < _; rw [show Int.toNat 0 = 0 from rfl]; omega) rfl rfl ?_
 refine Ops.mv_int rfl rfl rfl ?_
 refine Ops.nil ?_
 refine thenQ_n ?_
 refine Cd.seq ?_
 refine Cd.seq ?_
 refine Cd.region ?_
 refine Ops.mv_int rfl rfl rfl ?_
 refine Ops.nil ?_
 refine thenQ_n ?_
 refine Cd.block ?_
 have e1 : mx (gi xs 0) (xs.take 1) = gi xs 0 := by
  rw [show (1 : Nat) = 0 + 1 from rfl, take_succ_gi (by omega), mx_snoc]
  show max (gi xs 0) (gi xs ((0 : Nat) : Int)) = gi xs 0
  exact Int.max_self _
 refine Cd.loop (α := Nat) (fun k => [(0, .slice A n c), (3, .int .i64 (mx (gi xs 0) (xs.take k))), (4, .int .i64 (k : Int))]) (fun k w' => w' = w ∧ k ≤ n) (fun k => n - k) 1 ⟨rfl, by show Value.int .i64 _ = .int .i64 _; rw [e1], rfl, trivial⟩ ⟨rfl, by omega⟩ ?_
 rintro k e w ⟨rfl, hk⟩
 refine Cd.seq ?_
 refine Cd.seq ?_
 refine Cd.region ?_
 refine Ops.mv_int rfl rfl rfl ?_
 refine Ops.mv_sl rfl rfl rfl ?_
 refine Ops.len rfl rfl ?_
 refine Ops.lss rfl rfl rfl ?_
 refine Ops.nil ?_
 refine thenQ_n ?_
 refine Cd.cond_p _ rfl (fun h1 => ?_) (fun h1 => ?_)
 ·refine Cd.skip ?_
  refine thenQ_n ?_
  refine Cd.seq ?_
  refine Cd.block ?_
  refine Cd.region ?_
  refine Ops.mv_int rfl rfl rfl ?_
  refine Ops.mv_sl rfl rfl rfl ?_
  refine Ops.mv_int rfl rfl rfl ?_
  refine Ops.idx hR.2 rfl rfl rfl (by omega) (by omega) ?_
  refine Ops.ld_int hR rfl (by omega) rfl rfl ?_
  refine Ops.maxI rfl rfl rfl ?_
  refine Ops.mv_int rfl rfl rfl ?_
  refine Ops.nil ?_
  refine blockQ_n ?_
  refine thenQ_n ?_
  refine Cd.region ?_
  refine Ops.mv_int rfl rfl rfl ?_
  refine Ops.add rfl rfl rfl (by omega) ?_
  refine Ops.mv_int rfl rfl rfl ?_
  refine Ops.nil ?_
  refine thenQ_n ?_
  exact ⟨k + 1, by show n - (k + 1) < n - k; omega, ⟨rfl, by show Value.int .i64 _ = .int .i64 _; rw [take_succ_gi (by omega), mx_snoc], rfl, trivial⟩, rfl, by omega⟩
 ·refine Cd.exit ?_
  refine thenQ_x ?_
  refine thenQ_x ?_
  refine blockQ_x ?_
  refine thenQ_n ?_
  refine Cd.seq ?_
  refine Cd.region ?_
  refine Ops.mv_int rfl rfl rfl ?_
  refine Ops.mv_int rfl rfl rfl ?_
  refine Ops.nil ?_
  refine thenQ_n ?_
  refine Cd.ret ?_
  refine ret1_i rfl ?_
  have hkn : k = n := by omega
  subst hkn
  exact ⟨by rw [← hxl, List.take_length], rfl⟩

/-- the greatest distance from the first vertices -/
def dmP (next : List (List Int)) : Nat → Int
 | 0 => 0
 | v + 1 => mx (dmP next v) (distP next (-1) v).1
def gdD (xss : List (List Int)) : Int := if Grph xss then dmP (nbL xss) (vertsN xss) else 0

theorem goK_nil (xss : List (List Int)) : goK xss [] = petrieK xss := by
 unfold goK petrieK
 have h : allIn 0 ((vertsN xss : Int) - 1) [] := fun x hx => by cases hx
 by_cases hG : Grph xss
 ·rw [if_neg (fun h => h hG), if_neg (fun h2 => h2 h), if_pos hG]
 ·rw [if_pos hG, if_neg hG]
theorem goL_nil {xss : List (List Int)} (hG : Grph xss) : goL xss [] = nbL xss := by rw [goL, if_pos ⟨hG, fun x hx => by cases hx⟩]

theorem implGraphDiameter_c (A : Option Addr) (n c : Nat) (rs : List SlV) (xss : List (List Int)) (w : World) (hR : RowsI w A n rs xss) (hn : n ≤ c) (hc : c ≤ 9223372036854775807) :
  Ret Tryz.prog 41 [.agg #[.slice A n c]] w (fun v w' => v = .tuple #[.int .i64 (gdD xss), .int .i64 (petrieK xss)] ∧ St w w' []) := by
 refine Ret.of_cd Tryz.func41 rfl Tryz.ntmps41 rfl (post2 rfl) ?_
 refine Cd.seq ?_
 refine Cd.region ?_
 refine Ops.box1 (St.refl w) rfl rfl ?_
 intro Ab w1 hS1
 refine Ops.mv_int rfl rfl rfl ?_
 refine Ops.mv_int rfl rfl rfl ?_
 refine Ops.nil ?_
 refine thenQ_n ?_
 refine Cd.seq ?_
 refine Cd.region ?_
 refine Ops.ld_agg 0 (hS1.rd 0 rfl) rfl rfl rfl ?_
 refine Ops.call (graphOf_c A n c rs xss none 0 0 [] _ (hS1.oldRows hR) hn hc RdI.nil (by omega)) rfl rfl rfl ?_
 rintro _ w3 ⟨A3, c3, rs3, rfl, hrl, hst3⟩
 have hS3 := hS1.later hst3.below
 rw [goK_nil] at *
 refine Ops.mv_tup rfl rfl rfl ?_
 refine Ops.extract rfl rfl rfl ?_
 refine Ops.extract rfl rfl rfl ?_
 refine Ops.mv_sl rfl rfl rfl ?_
 refine Ops.mv_int rfl rfl rfl ?_
 refine Ops.nil ?_
 refine thenQ_n ?_
 refine Cd.seq ?_
 refine Cd.seq ?_
 refine Cd.region ?_
 refine Ops.mv_int rfl rfl rfl ?_
 refine Ops.neq rfl rfl rfl ?_
 refine Ops.nil ?_
 refine thenQ_n ?_
 refine Cd.cond_p _ rfl (fun h => ?_) (fun h => ?_)
 ·have hnG : ¬ Grph xss := fun hG => h (by rw [petrieK, if_pos hG])
  refine Cd.seq ?_
  refine Cd.region ?_
  refine Ops.mv_int rfl rfl rfl ?_
  refine Ops.mv_int rfl rfl rfl ?_
  refine Ops.mv_int rfl rfl rfl ?_
  refine Ops.nil ?_
  refine thenQ_n ?_
  refine Cd.ret ?_
  refine thenQ_r ?_
  refine ret2_ii rfl rfl ?_
  exact ⟨by rw [gdD, if_neg hnG], hS3.none⟩
 ·have hG : Grph xss := by
   apply Classical.byContradiction
   intro hG
   exact h (by rw [petrieK, if_neg hG]; decide)
  have hg := nb_gr hG.1
  have hsm := nb_small hG.1
  rw [goL_nil hG, nbL_len] at *
  have hN3 := hst3.rowsI (nbL_len xss)
  have hfin : gdD xss = dmP (nbL xss) (vertsN xss) := by rw [gdD, if_pos hG]
  generalize hv : vertsN xss = vN at *
  generalize hnx : nbL xss = next at *
  refine Cd.skip ?_
  refine thenQ_n ?_
  refine Cd.seq ?_
  refine Cd.region ?_
  refine Ops.mv_int rfl rfl rfl ?_
  refine Ops.nil ?_
  refine thenQ_n ?_
  refine Cd.seq ?_
  refine Cd.seq ?_
  refine Cd.region ?_
  refine Ops.mv_sl rfl rfl rfl ?_
  refine Ops.call (sizeR_c _ _ _ _) rfl rfl rfl ?_
  rintro _ w3 ⟨rfl, rfl⟩
  refine Ops.mv_int rfl rfl rfl ?_
  refine Ops.nil ?_
  refine thenQ_n ?_
  refine Cd.block ?_
  refine Cd.loop (α := Nat) (fun v => [(4, .slice A3 vN c3), (6, .int .i64 (dmP next v)), (17, .int .i64 (vN : Int)), (18, .int .i64 (v : Int))]) (fun v w' => St w3 w' [] ∧ v ≤ vN) (fun v => vN - v) 0 ⟨rfl, rfl, rfl, rfl, trivial⟩ ⟨St.refl w3, Nat.zero_le _⟩ ?_
  rintro v e w4 ⟨hS4, hv4⟩
  have hN4 := hS4.oldRows hN3
  refine Cd.seq ?_
  refine Cd.region ?_
  refine Ops.lss rfl rfl rfl ?_
  refine Ops.nil ?_
  refine thenQ_n ?_
  refine Cd.seq ?_
  refine Cd.cond_p _ rfl (fun h1 => ?_) (fun h1 => ?_)
  ·have hdl := (dist_BF (wo := -1) (v := (v : Int)) hg (by omega) (by omega)).len
   refine Cd.skip ?_
   refine thenQ_n ?_
   refine Cd.seq ?_
   refine Cd.block ?_
   refine Cd.seq ?_
   refine Cd.region ?_
   refine Ops.mv_int rfl rfl rfl ?_
   refine Ops.mv_int rfl rfl rfl ?_
   refine Ops.nil ?_
   refine thenQ_n ?_
   refine Cd.region ?_
   refine Ops.mv_int rfl rfl rfl ?_
   refine Ops.mv_sl rfl rfl rfl ?_
   refine Ops.mv_int rfl rfl rfl ?_
   refine Ops.call (graphDistances_c A3 _ _ rs3 next (v : Int) _ hN4 hg (by omega) (by omega)) rfl rfl rfl ?_
   rintro _ w5 ⟨A5, rfl, hst5⟩
   have hS5 := hS4.call hst5
   refine Ops.call (Max_c A5 vN vN _ _ (hS5.rdI 0 rfl) (by omega) (by omega)) rfl rfl rfl ?_
   rintro _ w5 ⟨rfl, rfl⟩
   refine Ops.maxI rfl rfl rfl ?_
   rw [mx_head _ (by omega)]
   refine Ops.mv_int rfl rfl rfl ?_
   refine Ops.nil ?_
   refine blockQ_n ?_
   refine thenQ_n ?_
   refine Cd.region ?_
   refine Ops.add rfl rfl rfl (by omega) ?_
   refine Ops.mv_int rfl rfl rfl ?_
   refine Ops.nil ?_
   refine thenQ_n ?_
   exact ⟨v + 1, by show vN - (v + 1) < vN - v; omega, ⟨rfl, rfl, rfl, rfl, trivial⟩, hS5.none, by omega⟩
  ·refine Cd.exit ?_
   refine thenQ_x ?_
   refine thenQ_x ?_
   refine blockQ_x ?_
   refine thenQ_n ?_
   refine Cd.seq ?_
   refine Cd.region ?_
   refine Ops.mv_int rfl rfl rfl ?_
   refine Ops.mv_int rfl rfl rfl ?_
   refine Ops.mv_int rfl rfl rfl ?_
   refine Ops.nil ?_
   refine thenQ_n ?_
   refine Cd.ret ?_
   refine ret2_ii rfl rfl ?_
   have hvn : v = vN := by omega
   subst hvn
   exact ⟨by rw [hfin, petrieK, if_pos hG], (hS3.later hS4.below).none⟩

end Go.Proofs.YtjpkmpihmilgoaaGreat.Vc
/-
 Plain mathematics: numbering anew keeps what a search finds; the form of a form; every maniplex in the numbers of its own search is a rooted form. Conditions: as each states them. No program in sight.
-/
namespace Go.Proofs.YtjpkmpihmilgoaaGreat.Vc

theorem gl_succ (p : List Int) (ps : List (List Int)) (j : Nat) : gl (p :: ps) ((j + 1 : Nat) : Int) = gl ps (j : Int) := by
 simp only [gl, Int.toNat_natCast, List.getD_cons_succ]
theorem gi_map {φ : Int → Int} {l : List Int} {k : Nat} (h : k < l.length) : gi (l.map φ) (k : Int) = φ (gi l (k : Int)) := by
 rw [gi_mem (by simpa using h), gi_mem h, List.getElem_map]

/-- numbering anew -/
structure Ism (N : Nat) (xss yss : List (List Int)) (φ : Int → Int) : Prop where
 len : yss.length = xss.length
 rng : ∀ x : Int, 0 ≤ x → x < N → 0 ≤ φ x ∧ φ x < N
 inj : ∀ x y : Int, 0 ≤ x → x < N → 0 ≤ y → y < N → φ x = φ y → x = y
 com : ∀ (i : Nat) (x : Int), i < xss.length → 0 ≤ x → x < N → gi (gl yss i) (φ x) = φ (gi (gl xss i) x)

section
variable {N : Nat} {xss yss : List (List Int)} {φ : Int → Int}
theorem push_map (hinj : ∀ x y : Int, 0 ≤ x → x < N → 0 ≤ y → y < N → φ x = φ y → x = y) {out : List Int} (ho : ∀ x ∈ out, 0 ≤ x ∧ x < (N : Int)) {y : Int} (h0 : 0 ≤ y) (h1 : y < N) : push1 (out.map φ) (φ y) = (push1 out y).map φ := by
 unfold push1
 by_cases h : y ∈ out
 ·rw [if_pos h, if_pos (List.mem_map_of_mem h)]
 ·rw [if_neg h, if_neg (fun hm => by
   obtain ⟨z, hz, e⟩ := List.mem_map.1 hm
   exact h (hinj z y (ho z hz).1 (ho z hz).2 h0 h1 e ▸ hz)), List.map_append]
  rfl
theorem fold_map (hinj : ∀ x y : Int, 0 ≤ x → x < N → 0 ≤ y → y < N → φ x = φ y → x = y) {x : Int} : ∀ (ps qs : List (List Int)) (out : List Int), qs.length = ps.length → (∀ z ∈ out, 0 ≤ z ∧ z < (N : Int)) → (∀ j : Nat, j < ps.length → (0 ≤ gi (gl ps j) x ∧ gi (gl ps j) x < N) ∧ gi (gl qs j) (φ x) = φ (gi (gl ps j) x)) → qs.foldl (fun o p => push1 o (gi p (φ x))) (out.map φ) = (ps.foldl (fun o p => push1 o (gi p x)) out).map φ
 | [], [], _, _, _, _ => rfl
 | p :: ps, q :: qs, out, hl, ho, h => by
  have h0 : (0 ≤ gi p x ∧ gi p x < N) ∧ gi q (φ x) = φ (gi p x) := h 0 (by simp)
  simp only [List.foldl_cons]
  rw [h0.2, push_map hinj ho h0.1.1 h0.1.2]
  exact fold_map hinj ps qs _ (by simpa using hl) (fun z hz => by
   rcases push1_mem.1 hz with hz | rfl
   ·exact ho z hz
   ·exact h0.1) (fun j hj => by
   have := h (j + 1) (by simpa using hj)
   rw [gl_succ, gl_succ] at this
   exact this)
 | [], _ :: _, _, hl, _, _ => by simp at hl
 | _ :: _, [], _, hl, _, _ => by simp at hl
theorem bfs_map (h : Ism N xss yss φ) (hs : Sys N xss) {pt : Int} : ∀ (f i : Nat) (out : List Int), Good N xss pt out → bfs yss f i (out.map φ) = (bfs xss f i out).map φ
 | 0, _, _, _ => rfl
 | f + 1, i, out, hg => by
  simp only [bfs, List.length_map]
  by_cases hi : i < out.length
  ·rw [if_pos hi, if_pos hi, gi_map hi]
   have hx := gi_in hi
   have hr := hg.range _ hx
   have e : expand yss (φ (gi out i)) (out.map φ) = (expand xss (gi out i) out).map φ := fold_map h.inj xss yss out h.len hg.range (fun j hj => ⟨(hs (gl xss j) (by rw [gl_mem hj]; exact List.getElem_mem _)).2 _ hr.1 hr.2, h.com j _ hj hr.1 hr.2⟩)
   rw [e]
   exact bfs_map h hs f (i + 1) _ (foldl_push hs xss out (fun p hp => hp) hg hx).1
  ·rw [if_neg hi, if_neg hi]
theorem orbit_map (h : Ism N xss yss φ) (hs : Sys N xss) {pt : Int} (h0 : 0 ≤ pt) (h1 : pt < N) : orbit N yss (φ pt) = (orbit N xss pt).map φ := bfs_map h hs (N + 1) 0 [pt] (good_one h0 h1)

theorem form_map (h : Ism N xss yss φ) (hM : Mani xss) (hN : N = (gl xss 0).length) {pt : Int} (h0 : 0 ≤ pt) (h1 : pt < N) : formL N yss (φ pt) = formL N xss pt := by
 have hs := hM.2.2.1.sys
 have hP := hM.prm h0 (by rw [← hN]; exact h1)
 rw [← hN] at hs hP
 have ho := orbit_map h hs h0 h1
 have hP' : Prm N ((orbit N xss pt).map φ) := by
  refine ⟨by rw [List.length_map]; exact hP.len, ?_, fun x hx => ?_⟩
  ·rw [List.nodup_iff_pairwise_ne, List.pairwise_map]
   exact List.Pairwise.imp_of_mem (fun ha hb hab e => hab (h.inj _ _ (hP.range _ ha).1 (hP.range _ ha).2 (hP.range _ hb).1 (hP.range _ hb).2 e)) (List.nodup_iff_pairwise_ne.1 hP.nodup)
  ·obtain ⟨y, hy, rfl⟩ := List.mem_map.1 hx
   exact h.rng y (hP.range y hy).1 (hP.range y hy).2
 have hb : ∀ z : Int, 0 ≤ z → z < N → gi (backI N ((orbit N xss pt).map φ)) (φ z) = gi (backI N (orbit N xss pt)) z := fun z h0 h1 => by
  obtain ⟨k, hk, e1, e2⟩ := hP.backR h0 h1
  have := hP'.back hk
  rw [gi_map (by rw [hP.len]; exact hk), e1] at this
  rw [this, e2]
 unfold formL
 rw [ho]
 apply List.ext_getElem
 ·simp [h.len]
 ·intro i h2 h3
  simp only [List.length_map] at h2 h3
  simp only [List.getElem_map]
  unfold rowF
  rw [List.map_map]
  apply List.map_congr_left
  intro x hx
  have hx := hP.range x hx
  have hr := (hs (gl xss i) (by rw [gl_mem h3]; exact List.getElem_mem _)).2 x hx.1 hx.2
  have hc := h.com i x h3 hx.1 hx.2
  rw [gl_mem h2, gl_mem h3] at hc
  rw [gl_mem h3] at hr
  show gi _ (gi yss[i] (φ x)) = _
  rw [hc, hb _ hr.1 hr.2]

/-! a maniplex and its forms -/
variable {f : Int}
theorem form_ism (hM : Mani xss) (hN : N = (gl xss 0).length) (h0 : 0 ≤ f) (h1 : f < N) : Ism N xss (formL N xss f) (gi (backI N (orbit N xss f))) := by
 have hs := hM.2.2.1.sys
 have hP := hM.prm h0 (by rw [← hN]; exact h1)
 rw [← hN] at hs hP
 refine ⟨formL_len _ _ _, fun x hx hx' => ?_, fun x y hx hx' hy hy' e => ?_, fun i x hi hx hx' => ?_⟩
 ·obtain ⟨k, hk, _, e⟩ := hP.backR hx hx'
  omega
 ·obtain ⟨k, hk, e1, e2⟩ := hP.backR hx hx'
  obtain ⟨j, hj, e3, e4⟩ := hP.backR hy hy'
  have : (k : Int) = j := by omega
  rw [← e1, ← e3, this]
 ·obtain ⟨k, hk, e1, e2⟩ := hP.backR hx hx'
  rw [e2, gl_mem (by rw [formL_len]; exact hi)]
  simp only [formL, List.getElem_map]
  rw [gi_mem (by rw [rowF_len, hP.len]; exact hk)]
  simp only [rowF, List.getElem_map]
  rw [← gi_mem (by rw [hP.len]; exact hk), e1, gl_mem hi]
theorem form_pt (hM : Mani xss) (hN : N = (gl xss 0).length) (h0 : 0 ≤ f) (h1 : f < N) : gi (orbit N xss f) 0 = f ∧ gi (backI N (orbit N xss f)) f = 0 := by
 have hs := hM.2.2.1.sys
 have hP := hM.prm h0 (by rw [← hN]; exact h1)
 rw [← hN] at hs hP
 have e := gi_prefix (orbit_spec hs h0 h1).2.1 (i := 0) (by simp)
 have e : gi (orbit N xss f) 0 = f := e
 refine ⟨e, ?_⟩
 have := hP.back (k := 0) (by omega)
 have this : gi (backI N (orbit N xss f)) (gi (orbit N xss f) 0) = 0 := this
 rwa [e] at this
end
end Go.Proofs.YtjpkmpihmilgoaaGreat.Vc
/-
 Plain mathematics: the tree of partial moves grows every maniplex that has the numbers of its own search, so the least form of a maniplex is in the list. Conditions: as each states them. No program in sight.
-/
namespace Go.Proofs.YtjpkmpihmilgoaaGreat.Vc

section
variable {n F : Nat} {L : List (List Int)}
theorem fold_prefix (x : Int) : ∀ (ps : List (List Int)) (out : List Int), out <+: ps.foldl (fun o p => push1 o (gi p x)) out
 | [], _ => List.prefix_rfl
 | p :: ps, out => (push1_prefix out (gi p x)).trans (fold_prefix x ps _)
theorem bfs_prefix (xss : List (List Int)) : ∀ (k i : Nat) (out : List Int), out <+: bfs xss k i out
 | 0, _, _ => List.prefix_rfl
 | k + 1, i, out => by
  simp only [bfs]
  split
  ·exact (fold_prefix _ xss out).trans (bfs_prefix xss k (i + 1) _)
  ·exact List.prefix_rfl
theorem seqI_prefix {m : Nat} {l : List Int} (h : l <+: seqI m) : l = seqI l.length ∧ l.length ≤ m := by
 have hl := h.length_le
 rw [seqI_len] at hl
 refine ⟨?_, hl⟩
 apply List.ext_getElem
 ·rw [seqI_len]
 ·intro i h1 h2
  have := gi_prefix h h1
  rw [seqI_get (by omega)] at this
  rw [← gi_mem h1, ← this]
  simp [seqI]
theorem push_seq' {m : Nat} {v : Int} (h0 : 0 ≤ v) (h : push1 (seqI m) v <+: seqI F) : v ≤ m ∧ push1 (seqI m) v = seqI (max m (v.toNat + 1)) := by
 have hv : v ≤ m := by
  unfold push1 at h
  by_cases hm : v ∈ seqI m
  ·have := (seqI_mem.1 hm).2; omega
  ·rw [if_neg hm] at h
   have h1 := (seqI_prefix h).1
   rw [List.length_append, seqI_len, List.length_singleton, seqI_succ] at h1
   have := List.append_cancel_left h1
   simp at this
   omega
 exact ⟨hv, push_seq h0 hv⟩
theorem expand_rg (hl : L.length = n) (hn : 0 < n) (hs : Sys F L) {f : Nat} (hf : f < F) (hfm : f < mtL L n (f * n)) (hp : expand L (f : Int) (seqI (mtL L n (f * n))) <+: seqI F) :
  expand L (f : Int) (seqI (mtL L n (f * n))) = seqI (mtL L n ((f + 1) * n)) ∧ ∀ a, f * n ≤ a → a < (f + 1) * n → RG L n a := by
 have e1 : (f + 1) * n = f * n + n := by rw [Nat.succ_mul]
 have key : ∀ j, j ≤ n → (L.take j).foldl (fun o p => push1 o (gi p f)) (seqI (mtL L n (f * n))) = seqI (mtL L n (f * n + j)) ∧ f < mtL L n (f * n + j) ∧ ∀ a, f * n ≤ a → a < f * n + j → RG L n a := by
  intro j
  induction j with
  | zero => intro _; exact ⟨rfl, hfm, fun a h1 h2 => by omega⟩
  | succ j ih =>
   intro hj
   obtain ⟨ih1, ih2, ih3⟩ := ih (by omega)
   have hj' : j < L.length := by omega
   have ha1 : (f * n + j) % n = j := by rw [Nat.mul_comm, Nat.mul_add_mod]; exact Nat.mod_eq_of_lt (by omega)
   have ha2 : (f * n + j) / n = f := by rw [Nat.mul_comm, Nat.mul_add_div hn]; rw [Nat.div_eq_of_lt (by omega)]; omega
   have hc : cell L j (f : Int) = gi (L[j]) f := by
    unfold cell
    rw [show gl L (j : Int) = L[j] by simp [gl, List.getD_eq_getElem?_getD, List.getElem?_eq_getElem hj']]
   have h0 := ((hs L[j] (List.getElem_mem _)).2 f (by omega) (by omega)).1
   have e2 : (L.take (j + 1)).foldl (fun o p => push1 o (gi p f)) (seqI (mtL L n (f * n))) = push1 (seqI (mtL L n (f * n + j))) (gi L[j] f) := by
    rw [List.take_succ_eq_append_getElem hj', List.foldl_append, ih1]
    rfl
   have hpre : (L.take (j + 1)).foldl (fun o p => push1 o (gi p f)) (seqI (mtL L n (f * n))) <+: seqI F := by
    refine List.IsPrefix.trans ?_ hp
    have e3 : expand L (f : Int) (seqI (mtL L n (f * n))) = (L.drop (j + 1)).foldl (fun o p => push1 o (gi p f)) ((L.take (j + 1)).foldl (fun o p => push1 o (gi p f)) (seqI (mtL L n (f * n)))) := by
     rw [← List.foldl_append, List.take_append_drop]
     rfl
    rw [e3]
    exact fold_prefix _ _ _
   rw [e2] at hpre
   have h3 := push_seq' h0 hpre
   have em : mtL L n (f * n + (j + 1)) = max (mtL L n (f * n + j)) ((gi L[j] f).toNat + 1) := by
    show max (mtL L n (f * n + j)) ((cell L ((f * n + j) % n) ((f * n + j) / n : Nat)).toNat + 1) = _
    rw [ha1, ha2, hc]
   refine ⟨by rw [e2, h3.2, em], by rw [em]; omega, fun a h1 h2 => ?_⟩
   by_cases e : a = f * n + j
   ·subst e
    unfold RG
    rw [ha1, ha2, hc]
    exact ⟨h0, h3.1, ih2⟩
   ·exact ih3 a h1 (by omega)
 have := key n (Nat.le_refl _)
 rw [List.take_of_length_le (by omega)] at this
 rw [e1]
 exact ⟨this.1, this.2.2⟩
theorem cells_eq {M L : List (List Int)} (hM : Shp n F M) (hL : Shp n F L) (h : ∀ (i f : Nat), i < n → f < F → cell M i f = cell L i f) : M = L := by
 apply List.ext_getElem
 ·rw [hM.1, hL.1]
 ·intro i h1 h2
  apply List.ext_getElem
  ·rw [hM.2 _ (List.getElem_mem _), hL.2 _ (List.getElem_mem _)]
  ·intro j h3 h4
   have hj := hM.2 _ (List.getElem_mem h1)
   have := h i j (by rw [← hM.1]; exact h1) (by omega)
   unfold cell at this
   rw [gl_mem h1, gl_mem h2, gi_mem h3, gi_mem h4] at this
   exact this

end

section
variable {N : Nat} {xss : List (List Int)} {f : Int}
end
end Go.Proofs.YtjpkmpihmilgoaaGreat.Vc
/-
 The walks of the reference's least form. Conditions: as each states them.
-/
namespace Go.Proofs.YtjpkmpihmilgoaaGreat.Vc
open Go.RowKit

end Go.Proofs.YtjpkmpihmilgoaaGreat.Vc
/-
 The library's IndexFunc and DeleteFunc over a row of structs of one slice, walked for any predicate; the rule of 'clear'. Conditions: the predicate's contract.
-/
namespace Go.Proofs.YtjpkmpihmilgoaaGreat.Vc
open Go.RowKit
section
variable {P : Program} {N : Nat} {ops : Array Oper} {K : Env → World → Prop} {rest : List Oper} {e : Env} {w0 w : World} {ks : List Ck} {d : Nat} {ty : TypeId} {pos : String} {af : Array Edge}
end

def keptI (pd : Nat → Bool) (j : Nat) : List Nat := (List.range j).filter fun x => !pd x
theorem keptI_succ (pd : Nat → Bool) (j : Nat) : keptI pd (j + 1) = if pd j = true then keptI pd j else keptI pd j ++ [j] := by
 unfold keptI
 rw [List.range_succ, List.filter_append]
 by_cases h : pd j = true
 ·rw [if_pos h]; simp [h]
 ·rw [if_neg h]; simp [h]
end Go.Proofs.YtjpkmpihmilgoaaGreat.Vc
/-
 PlaceOf on both sides, and the walk of its law. Conditions: as each states them.
-/
namespace Go.Proofs.YtjpkmpihmilgoaaGreat.Vc
open Go.RowKit
section
variable {P : Program} {N : Nat} {ops : Array Oper} {K : Env → World → Prop} {rest : List Oper} {e : Env} {w0 w : World} {ks : List Ck} {d : Nat} {ty : TypeId} {pos : String} {af : Array Edge}
end

/-! places -/
def fsti (x : Mx) : List Mx → Nat
 | [] => 0
 | y :: l => if y = x then 0 else fsti x l + 1
def Plc (xss : Mx) : Prop := Mani xss ∧ xss.length ≤ 4 ∧ (gl xss 0).length ≤ 12
instance (xss : Mx) : Decidable (Plc xss) := by unfold Plc; exact inferInstance
def plL (xss : Mx) : List Mx := if Plc xss then listL xss.length (gl xss 0).length else []
def plI (xss : Mx) : Nat := fsti (leastL (gl xss 0).length xss) (plL xss)
def plK (xss : Mx) : Int := if ¬ Mani xss then 1 else if Plc xss then 0 else 3
/-- the list of a place, with its memory -/
def PlcS (xss : Mx) (w : World) (A : Option Addr) (c : Nat) (ms : List MatV) (w' : World) : Prop := ms.map (·.xss) = plL xss ∧ (∀ m ∈ ms, m.ok) ∧ St w w' (CkR 32 A ms.length c (ms.map (·.top)) :: matsCk 34 2 ms)
end Go.Proofs.YtjpkmpihmilgoaaGreat.Vc
/-
 Plain mathematics: two flags of a maniplex have the same form exactly if a covering of the maniplex by itself leads one to the other; a search finds such a covering; orbits of flags are as many as forms. Conditions: as each states them. No program in sight.
-/
namespace Go.Proofs.YtjpkmpihmilgoaaGreat.Vc

/-- a covering of a maniplex by itself -/
structure Cov (N : Nat) (xss : List (List Int)) (p : List Int) : Prop where
 len : p.length = N
 rng : ∀ x : Int, 0 ≤ x → x < N → 0 ≤ gi p x ∧ gi p x < N
 com : ∀ (m : Nat) (x : Int), m < xss.length → 0 ≤ x → x < N → gi p (gi (gl xss m) x) = gi (gl xss m) (gi p x)

section
variable {N : Nat} {xss : List (List Int)} {p q : List Int}
theorem Cov.onto (h : Cov N xss p) (hM : Mani xss) (hN : N = (gl xss 0).length) {z : Int} (h0 : 0 ≤ z) (h1 : z < N) : ∃ x : Int, (0 ≤ x ∧ x < N) ∧ gi p x = z := by
 have hs := hM.2.2.1.sys
 have hN2 := hM.2.1
 rw [← hN] at hs
 have hb := h.rng 0 (by omega) (by omega)
 have hr := hM.any (f := gi p 0) (g := z) hb.1 (by omega) h0 (by omega)
 have key : ∀ y, Reach xss (gi p 0) y → ∃ x : Int, (0 ≤ x ∧ x < N) ∧ gi p x = y := by
  intro y hy
  induction hy with
  | refl => exact ⟨0, ⟨by omega, by omega⟩, rfl⟩
  | step _ hm ih =>
   obtain ⟨x, hx, rfl⟩ := ih
   obtain ⟨i, hi, rfl⟩ := List.mem_iff_getElem.1 hm
   have hq := (hs _ hm).2 x hx.1 hx.2
   have hc := h.com i x hi hx.1 hx.2
   rw [gl_mem hi] at hc
   exact ⟨_, hq, hc⟩
 exact key z hr
theorem Cov.inj (h : Cov N xss p) (hM : Mani xss) (hN : N = (gl xss 0).length) : ∀ x y : Int, 0 ≤ x → x < N → 0 ≤ y → y < N → gi p x = gi p y → x = y := by
 intro x y hx hx' hy hy' e
 apply Classical.byContradiction
 intro hne
 obtain ⟨i, rfl⟩ : ∃ i : Nat, x = i := ⟨x.toNat, by omega⟩
 obtain ⟨j, rfl⟩ : ∃ j : Nat, y = j := ⟨y.toNat, by omega⟩
 have hl := h.len
 have hsub := sub_len (seqI N) (p.eraseIdx j) (by
  unfold seqI
  rw [List.nodup_iff_pairwise_ne, List.pairwise_map]
  exact (List.nodup_iff_pairwise_ne.1 List.nodup_range).imp (fun h e => h (by omega))) (fun z hz => by
  have hz := seqI_mem.1 hz
  obtain ⟨u, hu, rfl⟩ := h.onto hM hN hz.1 hz.2
  obtain ⟨k, rfl⟩ : ∃ k : Nat, u = k := ⟨u.toNat, by omega⟩
  rw [List.mem_eraseIdx_iff_getElem]
  by_cases hk : k = j
  ·subst hk
   exact ⟨i, by omega, by omega, by rw [← e, gi_mem (by omega)]⟩
  ·exact ⟨k, by omega, hk, by rw [gi_mem (by omega)]⟩)
 rw [seqI_len, List.length_eraseIdx, if_pos (by omega)] at hsub
 omega
theorem Cov.ism (h : Cov N xss p) (hM : Mani xss) (hN : N = (gl xss 0).length) : Ism N xss xss (gi p) := ⟨rfl, h.rng, h.inj hM hN, fun i x hi hx hx' => (h.com i x hi hx hx').symm⟩
theorem Cov.form (h : Cov N xss p) (hM : Mani xss) (hN : N = (gl xss 0).length) {x : Int} (h0 : 0 ≤ x) (h1 : x < N) : formL N xss (gi p x) = formL N xss x := form_map (h.ism hM hN) hM hN h0 h1
/-- the same form: a covering leads from one flag to the other -/
theorem form_cov (hM : Mani xss) (hN : N = (gl xss 0).length) {f g : Int} (h0 : 0 ≤ f) (h1 : f < N) (h2 : 0 ≤ g) (h3 : g < N) (e : formL N xss f = formL N xss g) : ∃ p, Cov N xss p ∧ gi p f = g := by
 have hs := hM.2.2.1.sys
 have hPf := hM.prm h0 (by rw [← hN]; exact h1)
 have hPg := hM.prm h2 (by rw [← hN]; exact h3)
 rw [← hN] at hs hPf hPg
 have hIf := form_ism hM hN h0 h1
 have hIg := form_ism hM hN h2 h3
 have hget : ∀ x : Int, 0 ≤ x → x < N → gi ((List.range N).map fun x : Nat => gi (orbit N xss g) (gi (backI N (orbit N xss f)) (x : Int))) x = gi (orbit N xss g) (gi (backI N (orbit N xss f)) x) := fun x hx hx' => by
  obtain ⟨k, rfl⟩ : ∃ k : Nat, x = k := ⟨x.toNat, by omega⟩
  rw [gi_mem (by simp; omega)]
  simp
 have hr : ∀ x : Int, 0 ≤ x → x < N → 0 ≤ gi (orbit N xss g) (gi (backI N (orbit N xss f)) x) ∧ gi (orbit N xss g) (gi (backI N (orbit N xss f)) x) < N := fun x hx hx' => by
  obtain ⟨k, hk, _, e2⟩ := hPf.backR hx hx'
  rw [e2]
  exact hPg.rng hk
 have hb : ∀ x : Int, 0 ≤ x → x < N → gi (backI N (orbit N xss g)) (gi (orbit N xss g) (gi (backI N (orbit N xss f)) x)) = gi (backI N (orbit N xss f)) x := fun x hx hx' => by
  obtain ⟨k, hk, _, e2⟩ := hPf.backR hx hx'
  rw [e2, hPg.back hk]
 refine ⟨(List.range N).map fun x : Nat => gi (orbit N xss g) (gi (backI N (orbit N xss f)) (x : Int)), ⟨by simp, fun x hx hx' => by rw [hget x hx hx']; exact hr x hx hx', fun m x hm hx hx' => ?_⟩, ?_⟩
 ·have hin : ∀ x : Int, 0 ≤ x → x < N → 0 ≤ gi (gl xss m) x ∧ gi (gl xss m) x < N := (hs (gl xss m) (by rw [gl_mem hm]; exact List.getElem_mem _)).2
  have hx1 := hin x hx hx'
  have hy := hr x hx hx'
  have hy1 := hin _ hy.1 hy.2
  have hz := hr _ hx1.1 hx1.2
  rw [hget x hx hx', hget _ hx1.1 hx1.2]
  apply hIg.inj _ _ hz.1 hz.2 hy1.1 hy1.2
  rw [hb _ hx1.1 hx1.2, ← hIf.com m x hm hx hx', ← hIg.com m _ hm hy.1 hy.2, hb x hx hx', e]
 ·rw [hget f h0 h1, (form_pt hM hN h0 h1).2]
  exact (form_pt hM hN h2 h3).1

/-- all coverings -/
structure AllCov (N : Nat) (xss ps : List (List Int)) : Prop where
 cov : ∀ p ∈ ps, Cov N xss p
 all : ∀ p, Cov N xss p → p ∈ ps
variable {ps : List (List Int)}
theorem AllCov.sys (h : AllCov N xss ps) : Sys N ps := fun p hp => ⟨(h.cov p hp).len, (h.cov p hp).rng⟩
theorem AllCov.reach (h : AllCov N xss ps) (hM : Mani xss) (hN : N = (gl xss 0).length) {f g : Int} (h0 : 0 ≤ f) (h1 : f < N) (h2 : 0 ≤ g) (h3 : g < N) : Reach ps f g ↔ formL N xss f = formL N xss g := by
 constructor
 ·intro hr
  have key : ∀ y, Reach ps f y → (0 ≤ y ∧ y < N) ∧ formL N xss f = formL N xss y := by
   intro y hy
   induction hy with
   | refl => exact ⟨⟨h0, h1⟩, rfl⟩
   | step _ hm ih =>
    obtain ⟨hx, e⟩ := ih
    have hc := h.cov _ hm
    exact ⟨hc.rng _ hx.1 hx.2, by rw [e, hc.form hM hN hx.1 hx.2]⟩
  exact (key g hr).2
 ·intro e
  obtain ⟨p, hp, rfl⟩ := form_cov hM hN h0 h1 h2 h3 e
  exact .step .refl (h.all p hp)
theorem fset_mem {m : List (List Int)} : ∀ k, m ∈ fset N xss k ↔ ∃ j : Nat, j < k ∧ m = formL N xss (j : Int)
 | 0 => by simp [fset]
 | k + 1 => by
  have ih := fset_mem (m := m) k
  simp only [fset]
  split
  ·rename_i hk
   rw [ih]
   constructor
   ·rintro ⟨j, hj, e⟩; exact ⟨j, by omega, e⟩
   ·rintro ⟨j, hj, e⟩
    by_cases e2 : j = k
    ·subst e2
     rw [← e] at hk
     exact ih.1 hk
    ·exact ⟨j, by omega, e⟩
  ·rw [List.mem_append, ih]
   constructor
   ·rintro (⟨j, hj, e⟩ | h)
    ·exact ⟨j, by omega, e⟩
    ·exact ⟨k, by omega, by simpa using h⟩
   ·rintro ⟨j, hj, e⟩
    by_cases e2 : j = k
    ·subst e2; exact .inr (by simp [e])
    ·exact .inl ⟨j, by omega, e⟩
end

/-! the search for a covering -/
structure CI (N : Nat) (xss : List (List Int)) (b : Int) (i k : Nat) (L Q : List Int) : Prop where
 len : L.length = N
 val : ∀ x : Int, 0 ≤ x → x < N → (gi L x = -1 ∧ x ∉ Q) ∨ ((0 ≤ gi L x ∧ gi L x < N) ∧ x ∈ Q)
 nod : Q.Nodup
 rng : ∀ x ∈ Q, 0 ≤ x ∧ x < (N : Int)
 q0 : (0 : Int) ∈ Q
 l0 : gi L 0 = b
 le : i ≤ Q.length
 done : ∀ j, j < i → ∀ m, m < xss.length → gi L (gi (gl xss m) (gi Q (j : Int))) = gi (gl xss m) (gi L (gi Q (j : Int)))
 part : ∀ m, m < k → gi L (gi (gl xss m) (gi Q (i : Int))) = gi (gl xss m) (gi L (gi Q (i : Int)))
 uniq : ∀ q, Cov N xss q → gi q 0 = b → ∀ x ∈ Q, gi L x = gi q x

section
variable {N : Nat} {xss : List (List Int)} {b : Int} {i k : Nat} {L Q : List Int}
end
end Go.Proofs.YtjpkmpihmilgoaaGreat.Vc
/-
 The walk of the search for a covering of a maniplex by itself. Conditions: as it states them.
-/
namespace Go.Proofs.YtjpkmpihmilgoaaGreat.Vc
open Go.RowKit

end Go.Proofs.YtjpkmpihmilgoaaGreat.Vc
/-
 The walks of all coverings of a maniplex by itself and of its orbits of flags. Conditions: as each states them.
-/
namespace Go.Proofs.YtjpkmpihmilgoaaGreat.Vc
open Go.RowKit

end Go.Proofs.YtjpkmpihmilgoaaGreat.Vc
/-
 OrbitCounts on both sides, and the walk of its law. Conditions: none.
-/
namespace Go.Proofs.YtjpkmpihmilgoaaGreat.Vc
open Go.RowKit

/-! plain: how many have so many orbits -/
def bump (acc : List Int) (k : Nat) : List Int := acc.set ((k : Int) - 1).toNat (gi acc ((k : Int) - 1) + 1)
def cntL (F : Nat) (ls : List Mx) : List Int := ls.foldl (fun acc m => bump acc (orbN F m)) (List.replicate F 0)
theorem cntL_snoc (F : Nat) (ls : List Mx) (m : Mx) : cntL F (ls ++ [m]) = bump (cntL F ls) (orbN F m) := by simp [cntL, List.foldl_append]
theorem orb_bd {F : Nat} {m : Mx} (hF : 0 < F) (ho : Own1 F m) : 1 ≤ orbN F m ∧ orbN F m ≤ F := by
 have h1 := fset_le F m F
 have h2 : formL F m ((0 : Nat) : Int) ∈ fset F m F := (fset_mem F).2 ⟨0, hF, rfl⟩
 have h3 := List.length_pos_of_mem h2
 rw [orbN, if_pos ho]
 omega
theorem cntL_bd {F : Nat} (hF : 0 < F) : ∀ (r : List Mx), (∀ m ∈ r, Own1 F m) → (cntL F r.reverse).length = F ∧ ∀ x : Int, 0 ≤ x → x < F → 0 ≤ gi (cntL F r.reverse) x ∧ gi (cntL F r.reverse) x ≤ (r.length : Nat)
 | [], _ => ⟨by simp [cntL], fun x h0 h1 => by
  show 0 ≤ gi (List.replicate F 0) x ∧ gi (List.replicate F 0) x ≤ _
  rw [gi_rep h0 h1]
  exact ⟨Int.le_refl _, Int.natCast_nonneg _⟩⟩
 | m :: r, h => by
  obtain ⟨ih1, ih2⟩ := cntL_bd hF r (fun x hx => h x (List.mem_cons_of_mem _ hx))
  have hb := orb_bd hF (h m List.mem_cons_self)
  rw [List.reverse_cons, cntL_snoc]
  unfold bump
  refine ⟨by rw [List.length_set]; exact ih1, fun x h0 h1 => ?_⟩
  rw [gi_set (by omega) (by omega) h0, List.length_cons]
  have h3 := ih2 ((orbN F m : Int) - 1) (by omega) (by omega)
  have h4 := ih2 x h0 h1
  split <;> omega
def ocL (rank flags : Int) : List Int := if Small rank flags then cntL flags.toNat (lstI rank flags) else []
end Go.Proofs.YtjpkmpihmilgoaaGreat.Vc
/-
 RegularManiplexes on both sides, and the walk of its law. Conditions: none.
-/
namespace Go.Proofs.YtjpkmpihmilgoaaGreat.Vc
open Go.RowKit

def regL (rank flags : Int) : List Mx := (lstI rank flags).filter fun L => decide (orbN flags.toNat L = 1)
def regV (F : Nat) (ms : List MatV) : List MatV := ms.filter fun m => decide (orbN F m.xss = 1)
theorem regV_snoc {F : Nat} {ms : List MatV} {i : Nat} (hi : i < ms.length) : regV F (ms.take (i + 1)) = if orbN F (ms[i]).xss = 1 then regV F (ms.take i) ++ [ms[i]] else regV F (ms.take i) := by
 unfold regV
 rw [List.take_succ_eq_append_getElem hi, List.filter_append]
 by_cases h : orbN F (ms[i]).xss = 1
 ·rw [if_pos h]; simp [h]
 ·rw [if_neg h]; simp [h]
end Go.Proofs.YtjpkmpihmilgoaaGreat.Vc
/-
 Plain mathematics of a census: what lists there are, in ascending order, and how often; put in one by one, or grouped from a sorted list. Conditions: as each states them. No program in sight.
-/
namespace Go.Proofs.YtjpkmpihmilgoaaGreat.Vc

abbrev Cs := List (List Int × Int)
def insP : Cs → List Int → Cs
  | [], x => [(x, 1)]
  | (y, n) :: R, x => if lexC y x < 0 then (y, n) :: insP R x else if y = x then (y, n + 1) :: R else (x, 1) :: (y, n) :: R
def SrtK (R : Cs) : Prop := R.Pairwise fun a b => lexC a.1 b.1 < 0
/-- what stands in a census after one more -/
def UpdM (R : Cs) (x y : List Int) (n : Int) : Prop := (y ≠ x ∧ (y, n) ∈ R) ∨ (y = x ∧ ((∃ m, (x, m) ∈ R ∧ n = m + 1) ∨ ((∀ m, (x, m) ∉ R) ∧ n = 1)))
theorem lexC_ne {a b : List Int} (h : lexC a b < 0) : a ≠ b := fun e => by
 rw [lexC_zero.2 e] at h
 omega
theorem lexC_tri {a b : List Int} (h : ¬ lexC a b < 0) (h' : a ≠ b) : lexC b a < 0 := by
 have h1 := lexC_swap a b
 have h2 : lexC a b ≠ 0 := fun e => h' (lexC_zero.1 e)
 omega
theorem insP_mem : ∀ {R : Cs}, SrtK R → ∀ (x y : List Int) (n : Int), (y, n) ∈ insP R x ↔ UpdM R x y n
  | [], _, x, y, n => by
    unfold UpdM
    simp [insP]
  | (z, k) :: R, h, x, y, n => by
    obtain ⟨h1, h2⟩ := List.pairwise_cons.1 h
    have ih := insP_mem h2 x y n
    simp only [insP]
    by_cases hz : lexC z x < 0
    · have hne := lexC_ne hz
      rw [if_pos hz, List.mem_cons, ih]
      unfold UpdM
      have e1 : ∀ m, (x, m) ∈ (z, k) :: R ↔ (x, m) ∈ R := fun m => by
        rw [List.mem_cons]
        exact ⟨fun h => h.elim (fun e => absurd (Prod.mk.inj e).1.symm hne) id, .inr⟩
      simp only [e1]
      by_cases hy : y = x
      · subst hy
        have e2 : ¬ (y, n) = (z, k) := fun e => hne (Prod.mk.inj e).1.symm
        simp [e2]
      · simp [hy]
    · rw [if_neg hz]
      by_cases e : z = x
      · subst e
        rw [if_pos rfl, List.mem_cons]
        have hno : ∀ m, (z, m) ∉ R := fun m hm => lexC_ne (h1 _ hm) rfl
        unfold UpdM
        by_cases hy : y = z
        · subst hy
          constructor
          · rintro (e | hm)
            · exact .inr ⟨rfl, .inl ⟨k, by simp, (Prod.mk.inj e).2⟩⟩
            · exact absurd hm (hno n)
          · rintro (⟨h3, _⟩ | ⟨_, ⟨m, hm, hn⟩ | ⟨hn, _⟩⟩)
            · exact absurd rfl h3
            · rcases List.mem_cons.1 hm with e | hm
              · left
                rw [hn, (Prod.mk.inj e).2]
              · exact absurd hm (hno m)
            · exact absurd List.mem_cons_self (hn k)
        · have e2 : ∀ j, ¬ (y, n) = (z, j) := fun j e => hy (Prod.mk.inj e).1
          simp [hy]
      · rw [if_neg e, List.mem_cons]
        have hzx := lexC_tri hz e
        have hno : ∀ m, (x, m) ∉ (z, k) :: R := fun m hm => by
          rcases List.mem_cons.1 hm with e2 | hm
          · exact e (Prod.mk.inj e2).1.symm
          · exact lexC_ne (lexC_trans hzx (h1 _ hm)) rfl
        unfold UpdM
        by_cases hy : y = x
        · subst hy
          constructor
          · rintro (e2 | hm)
            · exact .inr ⟨rfl, .inr ⟨hno, (Prod.mk.inj e2).2⟩⟩
            · exact absurd hm (hno n)
          · rintro (⟨h3, _⟩ | ⟨_, ⟨m, hm, _⟩ | ⟨_, hn⟩⟩)
            · exact absurd rfl h3
            · exact absurd hm (hno m)
            · exact .inl (by rw [hn])
        · constructor
          · rintro (e2 | hm)
            · exact absurd (Prod.mk.inj e2).1 hy
            · exact .inl ⟨hy, hm⟩
          · rintro (⟨_, hm⟩ | ⟨h3, _⟩)
            · exact .inr hm
            · exact absurd h3 hy
theorem insP_srt : ∀ {R : Cs}, SrtK R → ∀ x : List Int, SrtK (insP R x)
  | [], _, x => by simp [insP, SrtK]
  | (z, k) :: R, h, x => by
    obtain ⟨h1, h2⟩ := List.pairwise_cons.1 h
    have ih := insP_srt h2 x
    simp only [insP]
    by_cases hz : lexC z x < 0
    · rw [if_pos hz]
      refine List.pairwise_cons.2 ⟨fun ⟨y, n⟩ hy => ?_, ih⟩
      rcases (insP_mem h2 x y n).1 hy with ⟨_, hm⟩ | ⟨e, _⟩
      · exact h1 _ hm
      · subst e; exact hz
    · rw [if_neg hz]
      by_cases e : z = x
      · rw [if_pos e]
        exact List.pairwise_cons.2 ⟨h1, h2⟩
      · rw [if_neg e]
        have hzx := lexC_tri hz e
        refine List.pairwise_cons.2 ⟨fun y hy => ?_, h⟩
        rcases List.mem_cons.1 hy with rfl | hy
        · exact hzx
        · exact lexC_trans hzx (h1 y hy)

/-- the census of a list -/
def CenOf (R : Cs) (l : List (List Int)) : Prop := SrtK R ∧ ∀ (y : List Int) (n : Int), (y, n) ∈ R ↔ (y ∈ l ∧ n = (l.count y : Nat))
theorem CenOf.nil : CenOf [] [] := ⟨List.Pairwise.nil, fun y n => by simp⟩
theorem CenOf.step {R R' : Cs} {l : List (List Int)} {x : List Int} (h : CenOf R l) (hs : SrtK R') (hm : ∀ y n, (y, n) ∈ R' ↔ UpdM R x y n) : CenOf R' (l ++ [x]) := by
 refine ⟨hs, fun y n => ?_⟩
 rw [hm]
 unfold UpdM
 simp only [h.2]
 rw [List.count_append, List.mem_append, List.mem_singleton]
 by_cases hy : y = x
 ·subst hy
  rw [show List.count y [y] = 1 by simp]
  by_cases hl : y ∈ l
  ·constructor
   ·rintro (⟨h3, _⟩ | ⟨_, ⟨m, ⟨_, h4⟩, h5⟩ | ⟨h4, _⟩⟩)
    ·exact absurd rfl h3
    ·exact ⟨.inr rfl, by omega⟩
    ·exact absurd ⟨hl, rfl⟩ (h4 (l.count y : Nat))
   ·rintro ⟨_, h4⟩
    exact .inr ⟨rfl, .inl ⟨(l.count y : Nat), ⟨hl, rfl⟩, by omega⟩⟩
  ·have h0 : l.count y = 0 := List.count_eq_zero.2 hl
   constructor
   ·rintro (⟨h3, _⟩ | ⟨_, ⟨m, ⟨h4, _⟩, _⟩ | ⟨_, h5⟩⟩)
    ·exact absurd rfl h3
    ·exact absurd h4 hl
    ·exact ⟨.inr rfl, by omega⟩
   ·rintro ⟨_, h4⟩
    exact .inr ⟨rfl, .inr ⟨fun m hm => hl hm.1, by omega⟩⟩
 ·have e1 : List.count y [x] = 0 := List.count_eq_zero.2 (by simpa using hy)
  rw [e1, Nat.add_zero]
  constructor
  ·rintro (⟨_, h3⟩ | ⟨h3, _⟩)
   ·exact ⟨.inl h3.1, h3.2⟩
   ·exact absurd h3 hy
  ·rintro ⟨h3 | h3, h4⟩
   ·exact .inl ⟨hy, h3, h4⟩
   ·exact absurd h3 hy
/-! put in one by one -/
def csS (l : List (List Int)) : Cs := l.foldl insP []
theorem csS_snoc (l : List (List Int)) (x : List Int) : csS (l ++ [x]) = insP (csS l) x := by simp [csS, List.foldl_append]
/-- the first place that is not ahead -/
def atP (x : List Int) : Cs → Nat
  | [] => 0
  | (y, _) :: R => if lexC y x < 0 then atP x R + 1 else 0
/-! grouped -/
end Go.Proofs.YtjpkmpihmilgoaaGreat.Vc
/-
 The walks of the numbers of faces on both sides. Conditions: as each states them.
-/
namespace Go.Proofs.YtjpkmpihmilgoaaGreat.Vc
open Go.RowKit

/-- the numbers of faces -/
def cntF (xss : List (List Int)) : List Int := (List.range xss.length).map fun i => facesN xss i
end Go.Proofs.YtjpkmpihmilgoaaGreat.Vc
/-
 CensusOf on both sides. Conditions: as each states them.
-/
namespace Go.Proofs.YtjpkmpihmilgoaaGreat.Vc
open Go.RowKit

/-- an element of a census, with its memory -/
structure CE where
 s : SlV
 xs : List Int
 v : Int
def CE.cv (e : CE) : CV := ⟨e.s, e.v⟩
def CE.ck (t : TypeId) (e : CE) : Ck := CkI t e.s.a e.s.n e.s.c e.xs
def CE.pr (e : CE) : List Int × Int := (e.xs, e.v)
def insE (e : CE) (a : Nat) (es : List CE) : List CE := es.take a ++ e :: es.drop a
/-- an answer: a census, and a code -/
def AnsC (L : Cs) (K : Int) (w : World) (v : Value) (w' : World) : Prop := ∃ A c, ∃ es : List CE, v = .tuple #[.slice A es.length c, .int .i64 K] ∧ es.map CE.pr = L ∧ St w w' (CkC 43 A es.length c (es.map CE.cv) :: es.map (CE.ck 2))
def cnR (rank flags : Int) : Cs := csS ((lstI rank flags).map cntF)
section
variable {w0 w : World} {ks : List Ck} {A : Option Addr} {q : Nat} {es : List CE}
end
end Go.Proofs.YtjpkmpihmilgoaaGreat.Vc
/-
 Plain: the rooted forms are the forms of the listed maniplexes, each once; sums over the orbits; the census. Conditions: none.
-/
namespace Go.Proofs.YtjpkmpihmilgoaaGreat.Vc
open Go.RowKit

/-! the tree has no leaf twice -/
theorem nodup_flat {α β : Type} {f : α → List β} {l : List α} (h1 : ∀ a ∈ l, (f a).Nodup) (h2 : l.Pairwise fun a b => ∀ x ∈ f a, ∀ y ∈ f b, x ≠ y) : (l.flatMap f).Nodup := by
 rw [List.nodup_iff_pairwise_ne, List.pairwise_flatMap]
 exact ⟨fun a ha => List.nodup_iff_pairwise_ne.1 (h1 a ha), h2⟩
/-! a form has the forms of its maniplex -/
section
variable {N : Nat} {xss : Mx} {f : Int}
end

/-! sums -/
def sumI : List Int → Int
 | [] => 0
 | x :: l => x + sumI l
/-- weighted with the place -/
def wgt : Nat → List Int → Int
 | _, [] => 0
 | j, x :: l => x * ((j : Int) + 1) + wgt (j + 1) l
theorem gi_cons0 (x : Int) (l : List Int) : gi (x :: l) (0 : Nat) = x := rfl
theorem gi_cons1 (x : Int) (l : List Int) (i : Nat) : gi (x :: l) ((i + 1 : Nat) : Int) = gi l (i : Nat) := by simp [gi]
theorem sumI_set : ∀ (l : List Int) (i : Nat), i < l.length → sumI (l.set i (gi l (i : Nat) + 1)) = sumI l + 1
 | x :: l, 0, _ => by rw [gi_cons0]; simp only [List.set_cons_zero, sumI]; omega
 | x :: l, i + 1, h => by
  rw [gi_cons1]
  simp only [List.set_cons_succ, sumI]
  rw [sumI_set l i (by simpa using h)]
  omega
theorem wgt_set : ∀ (l : List Int) (j i : Nat), i < l.length → wgt j (l.set i (gi l (i : Nat) + 1)) = wgt j l + ((j : Int) + i + 1)
 | x :: l, j, 0, _ => by rw [gi_cons0]; simp only [List.set_cons_zero, wgt]; rw [Int.add_mul]; omega
 | x :: l, j, i + 1, h => by
  rw [gi_cons1]
  simp only [List.set_cons_succ, wgt]
  rw [wgt_set l (j + 1) i (by simpa using h)]
  omega
theorem bump_sum {acc : List Int} {k : Nat} (h1 : 1 ≤ k) (h2 : k ≤ acc.length) : sumI (bump acc k) = sumI acc + 1 ∧ wgt 0 (bump acc k) = wgt 0 acc + k := by
 obtain ⟨j, rfl⟩ : ∃ j, k = j + 1 := ⟨k - 1, by omega⟩
 have e : ((j + 1 : Nat) : Int) - 1 = (j : Nat) := by omega
 unfold bump
 rw [e, Int.toNat_natCast, sumI_set _ _ (by omega), wgt_set _ _ _ (by omega)]
 refine ⟨rfl, by omega⟩
theorem sumI_rep (F : Nat) : sumI (List.replicate F 0) = 0 := by
 induction F with
 | zero => rfl
 | succ n ih => simp [List.replicate_succ, sumI, ih]
theorem wgt_rep (F : Nat) : ∀ j, wgt j (List.replicate F 0) = 0 := by
 induction F with
 | zero => intro j; rfl
 | succ n ih => intro j; simp [List.replicate_succ, wgt, ih]
/-! the census -/
def sumC : Cs → Int
  | [] => 0
  | (_, n) :: R => n + sumC R
/-! what a listed one answers -/
end Go.Proofs.YtjpkmpihmilgoaaGreat.Vc
/-
 The draws of a rank and a number of flags; helpers of the laws. Conditions: as each states them.
-/
namespace Go.Proofs.YtjpkmpihmilgoaaGreat.Vc
open Go.RowKit

theorem big_c (Ac : Option Addr) (nc cc : Nat) (w : World) : Ret Tryz.prog 6 [.slice Ac nc cc] w (fun v w' => v = .bool (decide (4096 < (nc : Int))) ∧ St w w' []) := by
 refine Ret.of_cd Tryz.func6 rfl Tryz.ntmps6 rfl (post1 rfl) ?_
 refine Cd.seq ?_
 refine Cd.region ?_
 refine Ops.mv_bool rfl rfl rfl ?_
 refine Ops.nil ?_
 refine thenQ_n ?_
 refine Cd.seq ?_
 refine Cd.region ?_
 refine Ops.mv_sl rfl rfl rfl ?_
 refine Ops.len rfl rfl ?_
 refine Ops.gtr rfl rfl rfl ?_
 refine Ops.mv_bool rfl rfl rfl ?_
 refine Ops.nil ?_
 refine thenQ_n ?_
 refine Cd.ret ?_
 refine ret1_b rfl ?_
 exact ⟨rfl, St.refl w⟩

theorem likeInts_c (A : Option Addr) (n c : Nat) (xs : List Int) (B : Option Addr) (m cB : Nat) (ys : List Int) (w : World) (hX : RdI w A n xs) (hY : RdI w B m ys) (hn : n ≤ 9223372036854775806) :
  Ret Tryz.prog 27 [.slice A n c, .slice B m cB] w (fun v w' => v = .bool (decide (xs = ys)) ∧ St w w' []) := by
 have hxl := hX.1
 have hyl := hY.1
 refine Ret.of_cd Tryz.func27 rfl Tryz.ntmps27 rfl (post1 rfl) ?_
 refine Cd.seq ?_
 refine Cd.region ?_
 refine Ops.mv_bool rfl rfl rfl ?_
 refine Ops.nil ?_
 refine thenQ_n ?_
 refine Cd.seq ?_
 refine Cd.seq ?_
 refine Cd.region ?_
 refine Ops.mv_sl rfl rfl rfl ?_
 refine Ops.len rfl rfl ?_
 refine Ops.mv_sl rfl rfl rfl ?_
 refine Ops.len rfl rfl ?_
 refine Ops.neq rfl rfl rfl ?_
 refine Ops.nil ?_
 refine thenQ_n ?_
 refine Cd.cond_p _ rfl (fun h1 => ?_) (fun h1 => ?_)
 ·have hne : xs ≠ ys := fun e => h1 (by rw [← hxl, ← hyl, e])
  refine Cd.seq ?_
  refine Cd.region ?_
  refine Ops.mv_bool rfl rfl rfl ?_
  refine Ops.nil ?_
  refine thenQ_n ?_
  refine Cd.ret ?_
  refine thenQ_r ?_
  refine ret1_b rfl ?_
  exact ⟨by rw [decide_eq_false hne], St.refl w⟩
 ·have hnm : n = m := by omega
  subst hnm
  refine Cd.skip ?_
  refine thenQ_n ?_
  refine Cd.seq ?_
  refine Cd.seq ?_
  refine Cd.region ?_
  refine Ops.mv_int rfl rfl rfl ?_
  refine Ops.nil ?_
  refine thenQ_n ?_
  refine Cd.block ?_
  refine Cd.loop (α := Nat) (fun i => [(0, .slice A n c), (1, .slice B n cB), (5, .int .i64 (i : Int))]) (fun i w' => St w w' [] ∧ i ≤ n ∧ ∀ j, j < i → xs[j]? = ys[j]?) (fun i => n - i) 0 ⟨rfl, rfl, rfl, trivial⟩ ⟨St.refl w, Nat.zero_le _, fun j hj => absurd hj (Nat.not_lt_zero _)⟩ ?_
  rintro i e w1 ⟨hS1, hi, hj⟩
  have hX1 := hS1.oldI hX
  have hY1 := hS1.oldI hY
  refine Cd.seq ?_
  refine Cd.seq ?_
  refine Cd.region ?_
  refine Ops.mv_int rfl rfl rfl ?_
  refine Ops.mv_sl rfl rfl rfl ?_
  refine Ops.len rfl rfl ?_
  refine Ops.lss rfl rfl rfl ?_
  refine Ops.nil ?_
  refine thenQ_n ?_
  refine Cd.cond_p _ rfl (fun h2 => ?_) (fun h2 => ?_)
  ·refine Cd.skip ?_
   refine thenQ_n ?_
   refine Cd.seq ?_
   refine Cd.block ?_
   refine Cd.seq ?_
   refine Cd.draw [.ex (.slice (A) (n) (c)), .ex (.int .i64 ((i : Int))), .ex (.pointer (ptrAt (A) ((i : Int)).toNat)), .ex (.int .i64 (gi (xs) ((i : Int)))), .ex (.slice (B) (n) (cB)), .ex (.int .i64 ((i : Int))), .ex (.pointer (ptrAt (B) ((i : Int)).toNat)), .ex (.int .i64 (gi (ys) ((i : Int)))), .ex (.bool (decide (¬ (gi (xs) ((i : Int))) = (gi (ys) ((i : Int))))))] (by kernel_rfl) (by kernel_rfl) rfl (List.forall_mem_cons.2 ⟨Yd.lasts_ex _, (List.forall_mem_cons.2 ⟨Yd.lasts_ex _, (List.forall_mem_cons.2 ⟨Yd.lasts_ex _, (List.forall_mem_cons.2 ⟨Yd.lasts_ex _, (List.forall_mem_cons.2 ⟨Yd.lasts_ex _, (List.forall_mem_cons.2 ⟨Yd.lasts_ex _, (List.forall_mem_cons.2 ⟨Yd.lasts_ex _, (List.forall_mem_cons.2 ⟨Yd.lasts_ex _, (List.forall_mem_cons.2 ⟨Yd.lasts_ex _, (fun _ h => by cases h)⟩)⟩)⟩)⟩)⟩)⟩)⟩)⟩)⟩) ⟨?_, ?_, ?_, ?_, ?_, ?_, ?_, ?_, ?_, trivial⟩ ?_
   ·intro e1 w1 hb hp hun
    refine Ops.mv_sl rfl rfl rfl ?_
    refine Ops.nil ?_
    exact After.dn (Below.refl _ _) (by exact rfl)
   ·intro e1 w1 hb hp hun
    refine Ops.mv_int rfl rfl rfl ?_
    refine Ops.nil ?_
    exact After.dn (Below.refl _ _) (by exact rfl)
   ·intro e1 w1 hb hp hun
    refine Ops.idx (hX1.later hb).2 rfl rfl rfl (by omega) (by omega) ?_
    refine Ops.nil ?_
    exact After.dn (Below.refl _ _) (by exact rfl)
   ·intro e1 w1 hb hp hun
    refine Ops.ld_int (hX1.later hb) rfl (by omega) rfl rfl ?_
    refine Ops.nil ?_
    exact After.dn (Below.refl _ _) (by exact rfl)
   ·intro e1 w1 hb hp hun
    refine Ops.mv_sl rfl rfl rfl ?_
    refine Ops.nil ?_
    exact After.dn (Below.refl _ _) (by exact rfl)
   ·intro e1 w1 hb hp hun
    refine Ops.mv_int rfl rfl rfl ?_
    refine Ops.nil ?_
    exact After.dn (Below.refl _ _) (by exact rfl)
   ·intro e1 w1 hb hp hun
    refine Ops.idx (hY1.later hb).2 rfl rfl rfl (by omega) (by omega) ?_
    refine Ops.nil ?_
    exact After.dn (Below.refl _ _) (by exact rfl)
   ·intro e1 w1 hb hp hun
    refine Ops.ld_int (hY1.later hb) rfl (by omega) rfl rfl ?_
    refine Ops.nil ?_
    exact After.dn (Below.refl _ _) (by exact rfl)
   ·intro e1 w1 hb hp hun
    refine Ops.neq rfl rfl rfl ?_
    refine Ops.nil ?_
    exact After.dn (Below.refl _ _) (by exact rfl)
   intro u w2 hb2 _
   have hS2 := hS1.later hb2
   refine thenQ_n ?_
   refine Cd.cond_p _ rfl (fun h3 => ?_) (fun h3 => ?_)
   ·have hne : xs ≠ ys := fun e => h3 (by rw [e])
    refine Cd.seq ?_
    refine Cd.region ?_
    refine Ops.mv_bool rfl rfl rfl ?_
    refine Ops.nil ?_
    refine thenQ_n ?_
    refine Cd.ret ?_
    refine blockQ_r ?_
    refine thenQ_r ?_
    refine thenQ_r ?_
    refine blockQ_r ?_
    refine thenQ_r ?_
    refine ret1_b rfl ?_
    exact ⟨by rw [decide_eq_false hne], hS2⟩
   ·have h3 := Decidable.not_not.1 h3
    rw [gi_mem (by omega), gi_mem (by omega)] at h3
    refine Cd.skip ?_
    refine blockQ_n ?_
    refine thenQ_n ?_
    refine Cd.region ?_
    refine Ops.mv_int rfl rfl rfl ?_
    refine Ops.add rfl rfl rfl (by omega) ?_
    refine Ops.mv_int rfl rfl rfl ?_
    refine Ops.nil ?_
    refine thenQ_n ?_
    refine ⟨i + 1, by show n - (i + 1) < n - i; omega, ⟨rfl, rfl, rfl, trivial⟩, hS2, by omega, fun j hj' => ?_⟩
    by_cases e : j = i
    ·subst e; rw [List.getElem?_eq_getElem (by omega), List.getElem?_eq_getElem (by omega), h3]
    ·exact hj j (by omega)
  ·have he : xs = ys := List.ext_getElem? fun j => by
    by_cases hjn : j < n
    ·exact hj j (by omega)
    ·rw [List.getElem?_eq_none (by omega), List.getElem?_eq_none (by omega)]
   refine Cd.exit ?_
   refine thenQ_x ?_
   refine thenQ_x ?_
   refine blockQ_x ?_
   refine thenQ_n ?_
   refine Cd.seq ?_
   refine Cd.region ?_
   refine Ops.mv_bool rfl rfl rfl ?_
   refine Ops.nil ?_
   refine thenQ_n ?_
   refine Cd.ret ?_
   refine ret1_b rfl ?_
   exact ⟨by rw [decide_eq_true he], hS1⟩

end Go.Proofs.YtjpkmpihmilgoaaGreat.Vc
/-
 Plain mathematics of ways in a graph: distances are the same both ways. Conditions: as each states them. No program in sight.
-/
namespace Go.Proofs.YtjpkmpihmilgoaaGreat.Vc

/-! ways in a graph -/
inductive PathK (next : List (List Int)) : Nat → Int → Int → Prop
 | nil (a : Int) : PathK next 0 a a
 | snoc {k : Nat} {a b c : Int} : PathK next k a b → c ∈ gl next b → PathK next (k + 1) a c
theorem PathK.cons {next : List (List Int)} {k : Nat} {a b c : Int} (h0 : b ∈ gl next a) (h : PathK next k b c) : PathK next (k + 1) a c := by
 induction h with
 | nil => exact .snoc (.nil a) h0
 | snoc _ hc ih => exact .snoc (ih h0) hc
/-- neighbours are neighbours of each other -/
def SymG (n : Nat) (next : List (List Int)) : Prop := ∀ u x : Int, 0 ≤ u → u < n → x ∈ gl next u → u ∈ gl next x
theorem PathK.range {n : Nat} {next : List (List Int)} (hg : Gr n next) {k : Nat} {a b : Int} (h0 : 0 ≤ a) (h1 : a < n) (h : PathK next k a b) : 0 ≤ b ∧ b < n := by
 induction h with
 | nil => exact ⟨h0, h1⟩
 | snoc _ hc ih =>
  have ih := ih h0 h1
  exact (hg.row _ ih.1).1 _ hc
theorem PathK.rev {n : Nat} {next : List (List Int)} (hg : Gr n next) (hs : SymG n next) {k : Nat} {a b : Int} (h0 : 0 ≤ a) (h1 : a < n) (h : PathK next k a b) : PathK next k b a := by
 induction h with
 | nil => exact .nil _
 | snoc hp hc ih =>
  have hr := hp.range hg h0 h1
  exact PathK.cons (hs _ _ hr.1 hr.2 hc) (ih h0 h1)
theorem dist_path {n : Nat} {next : List (List Int)} {v : Int} {far : List Int} (hD : DF n next v far) : ∀ (d : Nat) (x : Int), 0 ≤ x → x < n → gi far x = d → PathK next d v x := by
 intro d
 induction d with
 | zero =>
  intro x h0 h1 hd
  by_cases e : x = v
  ·subst e; exact .nil _
  ·obtain ⟨y, _, _, hy, he⟩ := hD.par x h0 h1 (by omega) e
   omega
 | succ d ih =>
  intro x h0 h1 hd
  by_cases e : x = v
  ·subst e
   rw [hD.at0] at hd
   omega
  ·obtain ⟨y, hyr, hxy, hy, he⟩ := hD.par x h0 h1 (by omega) e
   exact .snoc (ih y hyr.1 hyr.2 (by omega)) hxy
theorem path_dist {n : Nat} {next : List (List Int)} {v : Int} {far : List Int} (hg : Gr n next) (hD : DF n next v far) (h0 : 0 ≤ v) (h1 : v < n) {k : Nat} {x : Int} (h : PathK next k v x) : 0 ≤ gi far x ∧ gi far x ≤ k := by
 induction h with
 | nil => rw [hD.at0]; omega
 | snoc hp hc ih =>
  have hr := hp.range hg h0 h1
  have ih := ih hD h0 h1
  have := hD.nxt _ hr.1 hr.2 ih.1 _ hc
  omega
/-- distances are the same both ways -/
theorem dist_symm {n : Nat} {next : List (List Int)} (hg : Gr n next) (hs : SymG n next) {u v : Int} (h0 : 0 ≤ u) (h1 : u < n) (h2 : 0 ≤ v) (h3 : v < n) (hp : 0 ≤ gi (distP next (-1) u).1 v) : gi (distP next (-1) v).1 u = gi (distP next (-1) u).1 v := by
 have hU := dist_DF hg h0 h1
 have hV := dist_DF hg h2 h3
 have p1 := (dist_path hU (gi (distP next (-1) u).1 v).toNat v h2 h3 (by omega)).rev hg hs h0 h1
 have d1 := path_dist hg hV h2 h3 p1
 have p2 := (dist_path hV (gi (distP next (-1) v).1 u).toNat u h0 h1 (by omega)).rev hg hs h2 h3
 have d2 := path_dist hg hU h0 h1 p2
 omega

/-! the two ends of an edge -/
theorem ends_lt {xss : List (List Int)} (e : Nat) (h2 : (gl (endsL xss) (e : Int)).length = 2) : gi (gl (endsL xss) (e : Int)) 0 < gi (gl (endsL xss) (e : Int)) 1 := by
 have hs : SA (gl (endsL xss) (e : Int)) := by rw [endsL, gl_ends]; exact cs_SA _
 match hl : gl (endsL xss) (e : Int), h2, hs with
 | [x, y], _, hs =>
  unfold SA at hs
  simp only [List.pairwise_cons] at hs
  exact hs.1 y (by simp)
theorem nb_symG {xss : List (List Int)} (hM : Mani xss) : SymG (vertsN xss) (nbL xss) := fun _ _ hu _ h => nb_symm hM hu h
end Go.Proofs.YtjpkmpihmilgoaaGreat.Vc
/-
 The plain law of distances. Conditions: as each states them. No program in sight.
-/
namespace Go.Proofs.YtjpkmpihmilgoaaGreat.Vc

theorem nb_ne {xss : List (List Int)} (hM : Mani xss) {u x : Int} (hu : 0 ≤ u) (h : x ∈ gl (nbL xss) u) : x ≠ u := by
 obtain ⟨j, hj, h2, h3⟩ := (nb_iff hM u hu x).1 h
 have hlt := ends_lt j h2
 simp only [Prod.mk.injEq] at h3
 rcases h3 with ⟨a, b⟩ | ⟨a, b⟩ <;> omega
theorem mx_ge (l : List Int) : ∀ a : Int, a ≤ mx a l ∧ ∀ x ∈ l, x ≤ mx a l := by
 induction l using snoc_ind with
 | h0 => exact fun a => ⟨Int.le_refl _, fun x hx => nomatch hx⟩
 | h1 l b ih =>
  intro a
  rw [mx_snoc]
  refine ⟨by have := (ih a).1; omega, fun x hx => ?_⟩
  rcases List.mem_append.1 hx with hx | hx
  ·have := (ih a).2 x hx; omega
  ·rw [List.mem_singleton.1 hx]; omega
theorem dm_ge (next : List (List Int)) : ∀ (n v : Nat), v < n → ∀ x ∈ (distP next (-1) (v : Int)).1, x ≤ dmP next n
 | 0, v, h => absurd h (Nat.not_lt_zero v)
 | n + 1, v, h => fun x hx => by
  unfold dmP
  have hm := mx_ge (distP next (-1) (n : Int)).1 (dmP next n)
  rcases Nat.lt_or_ge v n with h' | h'
  ·have := dm_ge next n v h' x hx
   omega
  ·obtain rfl : v = n := by omega
   exact hm.2 x hx
theorem PathK.trans {next : List (List Int)} {k j : Nat} {a b c : Int} (h : PathK next k a b) (h' : PathK next j b c) : PathK next (k + j) a c := by
 induction h' with
 | nil => exact h
 | snoc _ hc ih => exact .snoc (ih h) hc
theorem gi_tl (a : Int) (l : List Int) (i : Nat) : gi (a :: l) ((i + 1 : Nat) : Int) = gi l (i : Int) := by simp [gi, List.getD_eq_getElem?_getD]
theorem gi_hd (a : Int) (l : List Int) : gi (a :: l) ((0 : Nat) : Int) = a := by simp [gi, List.getD_eq_getElem?_getD]
/-- each step of the way goes to a neighbour -/
theorem path_steps {xss : List (List Int)} (hG : Grph xss) {v : Int} (h0 : 0 ≤ v) (h1 : v < vertsN xss) : ∀ (d : Nat) (u : Int), 0 ≤ u → u < vertsN xss → gi (distP (nbL xss) (-1) v).1 u = d → ∀ i : Nat, i < d →
    (0 ≤ gi (u :: pathG (nbL xss) (distP (nbL xss) (-1) v).1 d u) (i : Int) ∧ gi (u :: pathG (nbL xss) (distP (nbL xss) (-1) v).1 d u) (i : Int) < vertsN xss) ∧ gi (u :: pathG (nbL xss) (distP (nbL xss) (-1) v).1 d u) ((i + 1 : Nat) : Int) ∈ gl (nbL xss) (gi (u :: pathG (nbL xss) (distP (nbL xss) (-1) v).1 d u) (i : Int))
  | 0, u, _, _, _ => fun i hi => absurd hi (Nat.not_lt_zero i)
  | d + 1, u, h2, h3, hd => by
    have hne : u ≠ v := fun e => by
      subst e
      rw [way0 hG h0 h1] at hd
      omega
    obtain ⟨_, hx, _⟩ := way hG h0 h1 h2 h3 hne
    have hm := nrK_mem hx
    have hr := ((nb_gr hG.1).row u h2).1 _ hm.1
    have ih := path_steps hG h0 h1 d (nrK (distP (nbL xss) (-1) v).1 (gi (distP (nbL xss) (-1) v).1 u - 1) (gl (nbL xss) u)) hr.1 hr.2 (by rw [hm.2]; omega)
    intro i hi
    unfold pathG
    generalize nrK (distP (nbL xss) (-1) v).1 (gi (distP (nbL xss) (-1) v).1 u - 1) (gl (nbL xss) u) = y at *
    cases i with
    | zero =>
      rw [gi_tl]
      rw [gi_hd, gi_hd]
      exact ⟨⟨h2, h3⟩, hm.1⟩
    | succ i =>
      rw [gi_tl u _ i, gi_tl u _ (i + 1)]
      exact ih i (by omega)

/-- what the law of distances asks -/
structure DLaw (n : Nat) (next : List (List Int)) (a b path : List Int) (u v most : Int) : Prop where
 lenN : next.length = n
 lenA : a.length = n
 lenB : b.length = n
 small : n ≤ 400
 inU : 0 ≤ u ∧ u < n
 inV : 0 ≤ v ∧ v < n
 atU : gi a u = 0
 same : gi a v = gi b u
 long : (path.length : Int) = gi a v + 1
 stepR : ∀ i : Nat, i + 1 < path.length → 0 ≤ gi path (i : Int) ∧ gi path (i : Int) < n
 step : ∀ i : Nat, i + 1 < path.length → gi path ((i + 1 : Nat) : Int) ∈ gl next (gi path (i : Int))
 pos : ∀ w : Int, 0 ≤ w → w < n → 0 ≤ gi a w
 topA : ∀ w : Int, 0 ≤ w → w < n → gi a w < n
 topB : ∀ w : Int, 0 ≤ w → w < n → gi b w < n
 posB : ∀ w : Int, 0 ≤ w → w < n → 0 ≤ gi b w
 diam : ∀ w : Int, 0 ≤ w → w < n → gi a w ≤ most
 tri : ∀ w : Int, 0 ≤ w → w < n → gi a w ≤ gi a v + gi b w
 rowR : ∀ w : Int, 0 ≤ w → w < n → ∀ x ∈ gl next w, 0 ≤ x ∧ x < n
 rowN : ∀ w : Int, 0 ≤ w → w < n → ∀ x ∈ gl next w, x ≠ w
 rowS : ∀ w : Int, 0 ≤ w → w < n → ∀ x ∈ gl next w, w ∈ gl next x
 rowD : ∀ w : Int, 0 ≤ w → w < n → ∀ x ∈ gl next w, gi a x ≤ gi a w + 1
 rowL : ∀ w : Int, 0 ≤ w → (gl next w).length ≤ 1000
theorem dlaw {xss : List (List Int)} {u v : Int} (hK : goK xss [u, v] = 0) : DLaw (vertsN xss) (nbL xss) (distP (nbL xss) (-1) u).1 (distP (nbL xss) (-1) v).1 (spP (nbL xss) u v) u v (dmP (nbL xss) (vertsN xss)) := by
 obtain ⟨hG, hA⟩ := goK_zero hK
 have hu := hA u (by simp)
 have hv := hA v (by simp)
 have hu : 0 ≤ u ∧ u < vertsN xss := ⟨hu.1, by omega⟩
 have hv : 0 ≤ v ∧ v < vertsN xss := ⟨hv.1, by omega⟩
 have hg := nb_gr hG.1
 have hs := nb_symG hG.1
 have hU := dist_DF hg hu.1 hu.2
 have hV := dist_DF hg hv.1 hv.2
 have hsm := nb_small hG.1
 have pU : ∀ w : Int, 0 ≤ w → w < vertsN xss → 0 ≤ gi (distP (nbL xss) (-1) u).1 w := fun w h0 h1 => dist_all hG hu.1 hu.2 h0 h1
 have pV : ∀ w : Int, 0 ≤ w → w < vertsN xss → 0 ≤ gi (distP (nbL xss) (-1) v).1 w := fun w h0 h1 => dist_all hG hv.1 hv.2 h0 h1
 have hsym := dist_symm hg hs hu.1 hu.2 hv.1 hv.2 (pU v hv.1 hv.2)
 have pvu := pV u hu.1 hu.2
 have hst := path_steps hG hv.1 hv.2 (gi (distP (nbL xss) (-1) v).1 u).toNat u hu.1 hu.2 (by omega)
 have hpl : (spP (nbL xss) u v).length = (gi (distP (nbL xss) (-1) v).1 u).toNat + 1 := by rw [spP, List.length_cons, pathG_len]
 refine { lenN := hg.len, lenA := hU.len, lenB := hV.len, small := hg.small, inU := hu, inV := hv, atU := hU.at0, same := hsym.symm, long := by rw [hpl]; omega, stepR := fun i hi => (hst i (by omega)).1, step := fun i hi => (hst i (by omega)).2, pos := pU, topA := hU.top, topB := hV.top, posB := pV, diam := fun w h0 h1 => ?_, tri := fun w h0 h1 => ?_, rowR := fun w h0 _ x hx => (hg.row w h0).1 x hx, rowN := fun w h0 _ x hx => nb_ne hG.1 h0 hx, rowS := fun w h0 h1 x hx => hs w x h0 h1 hx, rowD := fun w h0 h1 x hx => (hU.nxt w h0 h1 (pU w h0 h1) x hx).2, rowL := fun w h0 => (hg.row w h0).2 }
 ·obtain ⟨q, rfl⟩ : ∃ q : Nat, u = q := ⟨u.toNat, by omega⟩
  exact dm_ge _ _ q (by omega) _ (gi_in2 h0 (by rw [hU.len]; exact h1))
 ·have p1 := dist_path hU (gi (distP (nbL xss) (-1) u).1 v).toNat v hv.1 hv.2 (by have := pU v hv.1 hv.2; omega)
  have p2 := dist_path hV (gi (distP (nbL xss) (-1) v).1 w).toNat w h0 h1 (by have := pV w h0 h1; omega)
  have p3 := path_dist hg hU hu.1 hu.2 (p1.trans p2)
  have := pU v hv.1 hv.2
  have := pV w h0 h1
  omega
end Go.Proofs.YtjpkmpihmilgoaaGreat.Vc
/-
 The law of distances, walked. Conditions: as each states them.
-/
namespace Go.Proofs.YtjpkmpihmilgoaaGreat.Vc
open Go.RowKit

theorem FnDistances_c (Ac : Option Addr) (nc cc : Nat) (bs : List Int) (w : World) (hY : RdY w Ac nc bs) :
  Ret Tryz.prog 5 [.slice Ac nc cc] w (fun v w' => v = .bool true ∧ St w w' []) := by
 refine Ret.of_cd Tryz.func5 rfl Tryz.ntmps5 rfl (post1 rfl) ?_
 refine Cd.seq ?_
 refine Cd.region ?_
 refine Ops.mv_bool rfl rfl rfl ?_
 refine Ops.nil ?_
 refine thenQ_n ?_
 refine Cd.seq ?_
 refine Cd.seq ?_
 refine Cd.region ?_
 refine Ops.mv_sl rfl rfl rfl ?_
 refine Ops.call (big_c Ac nc cc w) rfl rfl rfl ?_
 rintro _ w1 ⟨rfl, hT1⟩
 refine Ops.nil ?_
 refine thenQ_n ?_
 refine Cd.cond_p _ rfl (fun h1 => ?_) (fun h1 => ?_)
 ·refine Cd.seq ?_
  refine Cd.region ?_
  refine Ops.mv_bool rfl rfl rfl ?_
  refine Ops.nil ?_
  refine thenQ_n ?_
  refine Cd.ret ?_
  refine thenQ_r ?_
  refine ret1_b rfl ?_
  exact ⟨rfl, hT1⟩
 ·refine Cd.skip ?_
  refine thenQ_n ?_
  refine Cd.seq ?_
  refine Cd.region ?_
  refine Ops.mv_sl rfl rfl rfl ?_
  refine Ops.call (DrawShortestPath_c Ac nc cc bs w1 (hY.below hT1.below) (by omega)) rfl rfl rfl ?_
  rintro _ w2 ⟨n, A, c, rs, xss, X, u, v, rfl, hn, hcap, hb, hu, hv, hX, hS2⟩
  have hR2 := hX w2 [] (by rw [List.append_nil]; exact hS2)
  refine Ops.mv_tup rfl rfl rfl ?_
  refine Ops.extract rfl rfl rfl ?_
  refine Ops.extract rfl rfl rfl ?_
  refine Ops.extract rfl rfl rfl ?_
  refine Ops.new1 (St.refl w2) rfl ?_
  intro A3 w3 hS3
  skip
  refine Ops.st_agg 1 0 hS3 rfl rfl rfl rfl rfl rfl rfl ?_
  intro w4 hS4
  have hS4 : St w2 w4 [Bx 32 1 A3 [.slice A n c]] := hS4
  refine Ops.mv_int rfl rfl rfl ?_
  refine Ops.mv_int rfl rfl rfl ?_
  refine Ops.nil ?_
  refine thenQ_n ?_
  refine Cd.seq ?_
  refine Cd.region ?_
  refine Ops.ld_agg 0 (hS4.rd 0 rfl) rfl rfl rfl ?_
  refine Ops.mv_int rfl rfl rfl ?_
  refine Ops.mv_int rfl rfl rfl ?_
  refine Ops.call (implShortestPath_c A n c rs xss u v w4 (hS4.oldRows hR2) hcap.1 hcap.2) rfl rfl rfl ?_
  rintro _ w5 ⟨A6, c6, rfl, hT5⟩
  have hS5 : St w2 w5 [CkI 2 A6 (spL xss u v).length c6 (spL xss u v), Bx 32 1 A3 [.slice A n c]] := hS4.call hT5
  refine Ops.mv_tup rfl rfl rfl ?_
  refine Ops.extract rfl rfl rfl ?_
  refine Ops.extract rfl rfl rfl ?_
  refine Ops.mv_sl rfl rfl rfl ?_
  refine Ops.mv_int rfl rfl rfl ?_
  refine Ops.nil ?_
  refine thenQ_n ?_
  refine Cd.seq ?_
  refine Cd.seq ?_
  refine Cd.region ?_
  refine Ops.ld_agg 0 (hS5.rd 1 rfl) rfl rfl rfl ?_
  refine Ops.mv_int rfl rfl rfl ?_
  refine Ops.mv_int rfl rfl rfl ?_
  refine Ops.call (specShortestPath_c A n c rs xss u v w5 (hS5.oldRows hR2) (by omega)) rfl rfl rfl ?_
  rintro _ w6 ⟨A8, c8, rfl, hT6⟩
  have hS6 : St w2 w6 [CkI 2 A8 (spL xss u v).length c8 (spL xss u v), CkI 2 A6 (spL xss u v).length c6 (spL xss u v), Bx 32 1 A3 [.slice A n c]] := hS5.call hT6
  refine Ops.mv_tup rfl rfl rfl ?_
  refine Ops.extract rfl rfl rfl ?_
  refine Ops.extract rfl rfl rfl ?_
  refine Ops.mv_sl rfl rfl rfl ?_
  refine Ops.mv_int rfl rfl rfl ?_
  refine Ops.nil ?_
  refine thenQ_n ?_
  refine Cd.seq ?_
  refine Cd.region ?_
  refine Ops.mv_int rfl rfl rfl ?_
  refine Ops.mv_int rfl rfl rfl ?_
  refine Ops.neq rfl rfl rfl ?_
  refine Ops.mv_bool rfl rfl rfl ?_
  refine Ops.split_p 48 rfl (fun h2 => ?_) (fun h2 => ?_)
  ·exact absurd rfl h2 --x
  ·refine Ops.rung rfl rfl rfl ?_
   refine Ops.mv_sl rfl rfl rfl ?_
   refine Ops.rung rfl rfl rfl ?_
   refine Ops.mv_sl rfl rfl rfl ?_
   refine Ops.rung rfl rfl rfl ?_
   have hlen : (spL xss u v).length ≤ 9223372036854775806 := by have := sp_bd xss u v; omega
   refine Ops.call (likeInts_c A6 _ c6 (spL xss u v) A8 _ c8 (spL xss u v) w6 (hS6.rdI 1 rfl) (hS6.rdI 0 rfl) hlen) rfl rfl rfl ?_
   rintro _ w7 ⟨rfl, hT7⟩
   refine Ops.rung rfl rfl rfl ?_
   first | refine Ops.not_p rfl rfl ?_ | refine Ops.not rfl rfl ?_
   refine Ops.pick_f rfl rfl rfl ?_
   refine Ops.nil ?_
   refine thenQ_n ?_
   refine Cd.cond_pf rfl (fun h => ?_) ?_
   ·exact h rfl
   refine Cd.skip ?_
   refine thenQ_n ?_
   refine Cd.seq ?_
   refine Cd.seq ?_
   refine Cd.region ?_
   refine Ops.mv_int rfl rfl rfl ?_
   refine Ops.neq rfl rfl rfl ?_
   refine Ops.nil ?_
   refine thenQ_n ?_
   refine Cd.cond_p _ rfl (fun h3 => ?_) (fun h3 => ?_)
   ·refine Cd.seq ?_
    refine Cd.region ?_
    refine Ops.mv_sl rfl rfl rfl ?_
    refine Ops.len rfl rfl ?_
    refine Ops.eql rfl rfl rfl ?_
    refine Ops.mv_bool rfl rfl rfl ?_
    refine Ops.nil ?_
    refine thenQ_n ?_
    refine Cd.ret ?_
    refine thenQ_r ?_
    refine ret1_b rfl ?_
    have hnil : spL xss u v = [] := by unfold spL; rw [if_neg h3]
    exact ⟨congrArg Value.bool (by rw [hnil]; rfl), ((hT1.call hS2).call (hS6.call hT7)).none⟩
   ·have hS7 := hS6.later hT7.below
    refine Cd.skip ?_
    refine thenQ_n ?_
    refine Cd.seq ?_
    refine Cd.region ?_
    refine Ops.ld_agg 0 (hS7.rd 2 rfl) rfl rfl rfl ?_
    skip
    refine Ops.call (implNeighboursOf_c A n c rs xss w7 (hS7.oldRows hR2) hcap.1 hcap.2) rfl rfl rfl ?_
    rintro _ w8 ⟨A10, c10, r10, rfl, hr10, hT8⟩
    have hS8 := hS7.call hT8
    refine Ops.mv_tup rfl rfl rfl ?_
    refine Ops.extract rfl rfl rfl ?_
    refine Ops.extract rfl rfl rfl ?_
    refine Ops.mv_sl rfl rfl rfl ?_
    refine Ops.mv_int rfl rfl rfl ?_
    refine Ops.nil ?_
    refine thenQ_n ?_
    refine Cd.seq ?_
    refine Cd.region ?_
    refine Ops.ld_agg 0 ((hS8.sub (List.sublist_append_right _ _)).rd 2 rfl) rfl rfl rfl ?_
    refine Ops.mv_int rfl rfl rfl ?_
    refine Ops.call (implVertexDistances_c A n c rs xss u w8 (hS8.oldRows hR2) hcap.1 hcap.2) rfl rfl rfl ?_
    rintro _ w9 ⟨A12, c12, rfl, hT9⟩
    have hS9 := hS8.call hT9
    refine Ops.mv_tup rfl rfl rfl ?_
    refine Ops.extract rfl rfl rfl ?_
    refine Ops.extract rfl rfl rfl ?_
    refine Ops.mv_sl rfl rfl rfl ?_
    refine Ops.mv_int rfl rfl rfl ?_
    refine Ops.nil ?_
    refine thenQ_n ?_
    refine Cd.seq ?_
    refine Cd.region ?_
    refine Ops.ld_agg 0 ((hS9.sub ((List.sublist_append_right _ _).trans (List.sublist_append_right _ _))).rd 2 rfl) rfl rfl rfl ?_
    refine Ops.mv_int rfl rfl rfl ?_
    refine Ops.call (implVertexDistances_c A n c rs xss v w9 (hS9.oldRows hR2) hcap.1 hcap.2) rfl rfl rfl ?_
    rintro _ w10 ⟨A14, c14, rfl, hT10⟩
    have hS10 := hS9.call hT10
    refine Ops.mv_tup rfl rfl rfl ?_
    refine Ops.extract rfl rfl rfl ?_
    refine Ops.extract rfl rfl rfl ?_
    refine Ops.mv_sl rfl rfl rfl ?_
    refine Ops.mv_int rfl rfl rfl ?_
    refine Ops.nil ?_
    refine thenQ_n ?_
    refine Cd.seq ?_
    refine Cd.region ?_
    refine Ops.ld_agg 0 ((hS10.sub ((List.sublist_append_right _ _).trans ((List.sublist_append_right _ _).trans (List.sublist_append_right _ _)))).rd 2 rfl) rfl rfl rfl ?_
    skip
    refine Ops.call (implGraphDiameter_c A n c rs xss w10 (hS10.oldRows hR2) hcap.1 hcap.2) rfl rfl rfl ?_
    rintro _ w11 ⟨rfl, hT11⟩
    have hS11 := hS10.later hT11.below
    refine Ops.mv_tup rfl rfl rfl ?_
    refine Ops.extract rfl rfl rfl ?_
    refine Ops.extract rfl rfl rfl ?_
    refine Ops.mv_int rfl rfl rfl ?_
    refine Ops.mv_int rfl rfl rfl ?_
    refine Ops.nil ?_
    refine thenQ_n ?_
    refine Cd.seq ?_
    refine Cd.region ?_
    refine Ops.mv_sl rfl rfl rfl ?_
    refine Ops.len rfl rfl ?_
    refine Ops.mv_int rfl rfl rfl ?_
    refine Ops.nil ?_
    refine thenQ_n ?_
    refine Cd.seq ?_
    refine Cd.seq ?_
    have h3 : goK xss [u, v] = 0 := Decidable.not_not.1 h3
    have hG := (goK_zero h3).1
    have hL := dlaw h3
    have e1 : nboL xss = nbL xss := if_pos hG
    have e2 : petrieK xss = 0 := if_pos hG
    have e3 : goK xss [u] = 0 := ((goK_two xss u v).1.1 h3).1
    have e4 : goK xss [v] = 0 := ((goK_two xss u v).1.1 h3).2
    have e5 : vdL xss u = (distP (nbL xss) (-1) u).1 := if_pos e3
    have e6 : vdL xss v = (distP (nbL xss) (-1) v).1 := if_pos e4
    have e7 : gdD xss = dmP (nbL xss) (vertsN xss) := if_pos hG
    have e8 : spL xss u v = spP (nbL xss) u v := if_pos h3
    rw [e1] at hr10
    rw [e1, e5, e6, e8] at hS11
    rw [e1, e2, e3, e4, e5, e6, e7, e8]
    generalize (distP (nbL xss) (-1) u).1 = a at hL hS11 ⊢
    generalize (distP (nbL xss) (-1) v).1 = b at hL hS11 ⊢
    generalize dmP (nbL xss) (vertsN xss) = most at hL ⊢
    generalize spP (nbL xss) u v = path at hL hS11 ⊢
    generalize nbL xss = G at hL hS11 hr10 ⊢
    generalize vertsN xss = m at hL
    obtain ⟨q1, q2, q3, q4, ⟨q5, q6⟩, ⟨q7, q8⟩, q9, q10, q11, q12, q13, q14, q15, q16, q17, q18, q19, q20, q21, q22, q23, q24⟩ := hL
    have hB := hS11.rdI 0 rfl
    have hA := hS11.rdI 1 rfl
    have hT11 : St w2 w11 (mat 34 2 A10 G.length c10 r10 G ++ [CkI 2 A8 path.length c8 path, CkI 2 A6 path.length c6 path, Bx 32 1 A3 [.slice A n c]]) := by
     have := hS11.tail.tail
     simpa using this
    have hS' := hT11.rowsI rfl
    have hP := (hT11.sub (List.sublist_append_right _ _)).rdI 1 rfl
    have p1 := q14 v q7 q8
    have p2 := q15 v q7 q8
    skip
    refine Cd.draw [.ex (.int .i64 ((0 : Int))), .ex (.bool (false)), .ex (.bool (false)), .ex (.int .i64 ((0 : Int))), .ex (.bool (false)), .ex (.bool (false)), .ex (.bool (false)), .ex (.int .i64 ((0 : Int))), .ex (.bool (false)), .ex (.bool (false)), .ex (.bool (false)), .ex (.int .i64 ((0 : Int))), .ex (.bool (false)), .ex (.bool (false)), .ex (.bool (false)), .ex (.slice (A12) (a.length) (c12)), .ex (.int .i64 (((a.length : Nat) : Int))), .ex (.int .i64 (((G.length : Nat) : Int))), .ex (.bool (false)), .ex (.bool (false)), .ex (.bool (false)), .ex (.slice (A14) (b.length) (c14)), .ex (.int .i64 (((b.length : Nat) : Int))), .ex (.int .i64 (((G.length : Nat) : Int))), .ex (.bool (false)), .ex (.bool (false)), .ex (.bool (false)), .ex (.slice (A12) (a.length) (c12)), .ex (.int .i64 (u)), .ex (.pointer (ptrAt (A12) (u).toNat)), .ex (.int .i64 (gi (a) (u))), .ex (.bool (false)), .ex (.bool (false)), .ex (.bool (false)), .ex (.slice (A12) (a.length) (c12)), .ex (.int .i64 (v)), .ex (.pointer (ptrAt (A12) (v).toNat)), .ex (.int .i64 (gi (a) (v))), .ex (.slice (A14) (b.length) (c14)), .ex (.int .i64 (u)), .ex (.pointer (ptrAt (A14) (u).toNat)), .ex (.int .i64 (gi (b) (u))), .ex (.bool (false)), .ex (.bool (false)), .ex (.bool (false)), .ex (.slice (A6) (path.length) (c6)), .ex (.int .i64 (((path.length : Nat) : Int))), .ex (.slice (A12) (a.length) (c12)), .ex (.int .i64 (v)), .ex (.pointer (ptrAt (A12) (v).toNat)), .ex (.int .i64 (gi (a) (v))), .ex (.int .i64 ((gi (a) (v)) + ((1 : Int)))), .ex (.bool (false)), .ex (.bool (false))] (by kernel_rfl) (by kernel_rfl) rfl (List.forall_mem_cons.2 ⟨Yd.lasts_ex _, (List.forall_mem_cons.2 ⟨Yd.lasts_ex _, (List.forall_mem_cons.2 ⟨Yd.lasts_ex _, (List.forall_mem_cons.2 ⟨Yd.lasts_ex _, (List.forall_mem_cons.2 ⟨Yd.lasts_ex _, (List.forall_mem_cons.2 ⟨Yd.lasts_ex _, (List.forall_mem_cons.2 ⟨Yd.lasts_ex _, (List.forall_mem_cons.2 ⟨Yd.lasts_ex _, (List.forall_mem_cons.2 ⟨Yd.lasts_ex _, (List.forall_mem_cons.2 ⟨Yd.lasts_ex _, (List.forall_mem_cons.2 ⟨Yd.lasts_ex _, (List.forall_mem_cons.2 ⟨Yd.lasts_ex _, (List.forall_mem_cons.2 ⟨Yd.lasts_ex _, (List.forall_mem_cons.2 ⟨Yd.lasts_ex _, (List.forall_mem_cons.2 ⟨Yd.lasts_ex _, (List.forall_mem_cons.2 ⟨Yd.lasts_ex _, (List.forall_mem_cons.2 ⟨Yd.lasts_ex _, (List.forall_mem_cons.2 ⟨Yd.lasts_ex _, (List.forall_mem_cons.2 ⟨Yd.lasts_ex _, (List.forall_mem_cons.2 ⟨Yd.lasts_ex _, (List.forall_mem_cons.2 ⟨Yd.lasts_ex _, (List.forall_mem_cons.2 ⟨Yd.lasts_ex _, (List.forall_mem_cons.2 ⟨Yd.lasts_ex _, (List.forall_mem_cons.2 ⟨Yd.lasts_ex _, (List.forall_mem_cons.2 ⟨Yd.lasts_ex _, (List.forall_mem_cons.2 ⟨Yd.lasts_ex _, (List.forall_mem_cons.2 ⟨Yd.lasts_ex _, (List.forall_mem_cons.2 ⟨Yd.lasts_ex _, (List.forall_mem_cons.2 ⟨Yd.lasts_ex _, (List.forall_mem_cons.2 ⟨Yd.lasts_ex _, (List.forall_mem_cons.2 ⟨Yd.lasts_ex _, (List.forall_mem_cons.2 ⟨Yd.lasts_ex _, (List.forall_mem_cons.2 ⟨Yd.lasts_ex _, (List.forall_mem_cons.2 ⟨Yd.lasts_ex _, (List.forall_mem_cons.2 ⟨Yd.lasts_ex _, (List.forall_mem_cons.2 ⟨Yd.lasts_ex _, (List.forall_mem_cons.2 ⟨Yd.lasts_ex _, (List.forall_mem_cons.2 ⟨Yd.lasts_ex _, (List.forall_mem_cons.2 ⟨Yd.lasts_ex _, (List.forall_mem_cons.2 ⟨Yd.lasts_ex _, (List.forall_mem_cons.2 ⟨Yd.lasts_ex _, (List.forall_mem_cons.2 ⟨Yd.lasts_ex _, (List.forall_mem_cons.2 ⟨Yd.lasts_ex _, (List.forall_mem_cons.2 ⟨Yd.lasts_ex _, (List.forall_mem_cons.2 ⟨Yd.lasts_ex _, (List.forall_mem_cons.2 ⟨Yd.lasts_ex _, (List.forall_mem_cons.2 ⟨Yd.lasts_ex _, (List.forall_mem_cons.2 ⟨Yd.lasts_ex _, (List.forall_mem_cons.2 ⟨Yd.lasts_ex _, (List.forall_mem_cons.2 ⟨Yd.lasts_ex _, (List.forall_mem_cons.2 ⟨Yd.lasts_ex _, (List.forall_mem_cons.2 ⟨Yd.lasts_ex _, (List.forall_mem_cons.2 ⟨Yd.lasts_ex _, (List.forall_mem_cons.2 ⟨Yd.lasts_ex _, (fun _ h => by cases h)⟩)⟩)⟩)⟩)⟩)⟩)⟩)⟩)⟩)⟩)⟩)⟩)⟩)⟩)⟩)⟩)⟩)⟩)⟩)⟩)⟩)⟩)⟩)⟩)⟩)⟩)⟩)⟩)⟩)⟩)⟩)⟩)⟩)⟩)⟩)⟩)⟩)⟩)⟩)⟩)⟩)⟩)⟩)⟩)⟩)⟩)⟩)⟩)⟩)⟩)⟩)⟩)⟩)⟩) ⟨?_, ?_, ?_, ?_, ?_, ?_, ?_, ?_, ?_, ?_, ?_, ?_, ?_, ?_, ?_, ?_, ?_, ?_, ?_, ?_, ?_, ?_, ?_, ?_, ?_, ?_, ?_, ?_, ?_, ?_, ?_, ?_, ?_, ?_, ?_, ?_, ?_, ?_, ?_, ?_, ?_, ?_, ?_, ?_, ?_, ?_, ?_, ?_, ?_, ?_, ?_, ?_, ?_, ?_, trivial⟩ ?_
    ·intro e1 w1 hb hp hun
     refine Ops.mv_int rfl rfl rfl ?_
     refine Ops.nil ?_
     exact After.dn (Below.refl _ _) (by exact rfl)
    ·intro e1 w1 hb hp hun
     refine Ops.neq rfl rfl rfl ?_
     refine Ops.nil ?_
     exact After.dn (Below.refl _ _) (by exact congrArg Value.bool (decide_eq_false (fun h => h rfl)))
    ·intro e1 w1 hb hp hun
     refine Ops.mv_bool rfl rfl rfl ?_
     refine Ops.nil ?_
     exact After.dn (Below.refl _ _) (by exact rfl)
    ·intro e1 w1 hb hp hun
     refine Ops.rung rfl rfl rfl ?_
     refine Ops.mv_int rfl rfl rfl ?_
     refine Ops.nil ?_
     exact After.dn (Below.refl _ _) (by exact rfl)
    ·intro e1 w1 hb hp hun
     refine Ops.rung rfl rfl rfl ?_
     refine Ops.neq rfl rfl rfl ?_
     refine Ops.nil ?_
     exact After.dn (Below.refl _ _) (by exact congrArg Value.bool (decide_eq_false (fun h => h rfl)))
    ·intro e1 w1 hb hp hun
     refine Ops.pick_f rfl rfl rfl ?_
     refine Ops.nil ?_
     exact After.dn (Below.refl _ _) (by exact rfl)
    ·intro e1 w1 hb hp hun
     refine Ops.mv_bool rfl rfl rfl ?_
     refine Ops.nil ?_
     exact After.dn (Below.refl _ _) (by exact rfl)
    ·intro e1 w1 hb hp hun
     refine Ops.rung rfl rfl rfl ?_
     refine Ops.mv_int rfl rfl rfl ?_
     refine Ops.nil ?_
     exact After.dn (Below.refl _ _) (by exact rfl)
    ·intro e1 w1 hb hp hun
     refine Ops.rung rfl rfl rfl ?_
     refine Ops.neq rfl rfl rfl ?_
     refine Ops.nil ?_
     exact After.dn (Below.refl _ _) (by exact congrArg Value.bool (decide_eq_false (fun h => h rfl)))
    ·intro e1 w1 hb hp hun
     refine Ops.pick_f rfl rfl rfl ?_
     refine Ops.nil ?_
     exact After.dn (Below.refl _ _) (by exact rfl)
    ·intro e1 w1 hb hp hun
     refine Ops.mv_bool rfl rfl rfl ?_
     refine Ops.nil ?_
     exact After.dn (Below.refl _ _) (by exact rfl)
    ·intro e1 w1 hb hp hun
     refine Ops.rung rfl rfl rfl ?_
     refine Ops.mv_int rfl rfl rfl ?_
     refine Ops.nil ?_
     exact After.dn (Below.refl _ _) (by exact rfl)
    ·intro e1 w1 hb hp hun
     refine Ops.rung rfl rfl rfl ?_
     refine Ops.neq rfl rfl rfl ?_
     refine Ops.nil ?_
     exact After.dn (Below.refl _ _) (by exact congrArg Value.bool (decide_eq_false (fun h => h rfl)))
    ·intro e1 w1 hb hp hun
     refine Ops.pick_f rfl rfl rfl ?_
     refine Ops.nil ?_
     exact After.dn (Below.refl _ _) (by exact rfl)
    ·intro e1 w1 hb hp hun
     refine Ops.mv_bool rfl rfl rfl ?_
     refine Ops.nil ?_
     exact After.dn (Below.refl _ _) (by exact rfl)
    ·intro e1 w1 hb hp hun
     refine Ops.rung rfl rfl rfl ?_
     refine Ops.mv_sl rfl rfl rfl ?_
     refine Ops.nil ?_
     exact After.dn (Below.refl _ _) (by exact rfl)
    ·intro e1 w1 hb hp hun
     refine Ops.rung rfl rfl rfl ?_
     refine Ops.len rfl rfl ?_
     refine Ops.nil ?_
     exact After.dn (Below.refl _ _) (by exact rfl)
    ·intro e1 w1 hb hp hun
     refine Ops.rung rfl rfl rfl ?_
     refine Ops.mv_int rfl rfl rfl ?_
     refine Ops.nil ?_
     exact After.dn (Below.refl _ _) (by exact rfl)
    ·intro e1 w1 hb hp hun
     refine Ops.rung rfl rfl rfl ?_
     refine Ops.neq rfl rfl rfl ?_
     refine Ops.nil ?_
     exact After.dn (Below.refl _ _) (by exact congrArg Value.bool (decide_eq_false (by omega)))
    ·intro e1 w1 hb hp hun
     refine Ops.pick_f rfl rfl rfl ?_
     refine Ops.nil ?_
     exact After.dn (Below.refl _ _) (by exact rfl)
    ·intro e1 w1 hb hp hun
     refine Ops.mv_bool rfl rfl rfl ?_
     refine Ops.nil ?_
     exact After.dn (Below.refl _ _) (by exact rfl)
    ·intro e1 w1 hb hp hun
     refine Ops.rung rfl rfl rfl ?_
     refine Ops.mv_sl rfl rfl rfl ?_
     refine Ops.nil ?_
     exact After.dn (Below.refl _ _) (by exact rfl)
    ·intro e1 w1 hb hp hun
     refine Ops.rung rfl rfl rfl ?_
     refine Ops.len rfl rfl ?_
     refine Ops.nil ?_
     exact After.dn (Below.refl _ _) (by exact rfl)
    ·intro e1 w1 hb hp hun
     refine Ops.rung rfl rfl rfl ?_
     refine Ops.mv_int rfl rfl rfl ?_
     refine Ops.nil ?_
     exact After.dn (Below.refl _ _) (by exact rfl)
    ·intro e1 w1 hb hp hun
     refine Ops.rung rfl rfl rfl ?_
     refine Ops.neq rfl rfl rfl ?_
     refine Ops.nil ?_
     exact After.dn (Below.refl _ _) (by exact congrArg Value.bool (decide_eq_false (by omega)))
    ·intro e1 w1 hb hp hun
     refine Ops.pick_f rfl rfl rfl ?_
     refine Ops.nil ?_
     exact After.dn (Below.refl _ _) (by exact rfl)
    ·intro e1 w1 hb hp hun
     refine Ops.mv_bool rfl rfl rfl ?_
     refine Ops.nil ?_
     exact After.dn (Below.refl _ _) (by exact rfl)
    ·intro e1 w1 hb hp hun
     refine Ops.rung rfl rfl rfl ?_
     refine Ops.mv_sl rfl rfl rfl ?_
     refine Ops.nil ?_
     exact After.dn (Below.refl _ _) (by exact rfl)
    ·intro e1 w1 hb hp hun
     refine Ops.rung rfl rfl rfl ?_
     refine Ops.mv_int rfl rfl rfl ?_
     refine Ops.nil ?_
     exact After.dn (Below.refl _ _) (by exact rfl)
    ·intro e1 w1 hb hp hun
     refine Ops.rung rfl rfl rfl ?_
     refine Ops.idx (hA.later hb).2 rfl rfl rfl (by omega) (by omega) ?_
     refine Ops.nil ?_
     exact After.dn (Below.refl _ _) (by exact rfl)
    ·intro e1 w1 hb hp hun
     refine Ops.rung rfl rfl rfl ?_
     refine Ops.ld_int (hA.later hb) rfl (by omega) rfl rfl ?_
     refine Ops.nil ?_
     exact After.dn (Below.refl _ _) (by exact rfl)
    ·intro e1 w1 hb hp hun
     refine Ops.rung rfl rfl rfl ?_
     refine Ops.neq rfl rfl rfl ?_
     refine Ops.nil ?_
     exact After.dn (Below.refl _ _) (by exact congrArg Value.bool (decide_eq_false (fun h => h q9)))
    ·intro e1 w1 hb hp hun
     refine Ops.pick_f rfl rfl rfl ?_
     refine Ops.nil ?_
     exact After.dn (Below.refl _ _) (by exact rfl)
    ·intro e1 w1 hb hp hun
     refine Ops.mv_bool rfl rfl rfl ?_
     refine Ops.nil ?_
     exact After.dn (Below.refl _ _) (by exact rfl)
    ·intro e1 w1 hb hp hun
     refine Ops.rung rfl rfl rfl ?_
     refine Ops.mv_sl rfl rfl rfl ?_
     refine Ops.nil ?_
     exact After.dn (Below.refl _ _) (by exact rfl)
    ·intro e1 w1 hb hp hun
     refine Ops.rung rfl rfl rfl ?_
     refine Ops.mv_int rfl rfl rfl ?_
     refine Ops.nil ?_
     exact After.dn (Below.refl _ _) (by exact rfl)
    ·intro e1 w1 hb hp hun
     refine Ops.rung rfl rfl rfl ?_
     refine Ops.idx (hA.later hb).2 rfl rfl rfl (by omega) (by omega) ?_
     refine Ops.nil ?_
     exact After.dn (Below.refl _ _) (by exact rfl)
    ·intro e1 w1 hb hp hun
     refine Ops.rung rfl rfl rfl ?_
     refine Ops.ld_int (hA.later hb) rfl (by omega) rfl rfl ?_
     refine Ops.nil ?_
     exact After.dn (Below.refl _ _) (by exact rfl)
    ·intro e1 w1 hb hp hun
     refine Ops.rung rfl rfl rfl ?_
     refine Ops.mv_sl rfl rfl rfl ?_
     refine Ops.nil ?_
     exact After.dn (Below.refl _ _) (by exact rfl)
    ·intro e1 w1 hb hp hun
     refine Ops.rung rfl rfl rfl ?_
     refine Ops.mv_int rfl rfl rfl ?_
     refine Ops.nil ?_
     exact After.dn (Below.refl _ _) (by exact rfl)
    ·intro e1 w1 hb hp hun
     refine Ops.rung rfl rfl rfl ?_
     refine Ops.idx (hB.later hb).2 rfl rfl rfl (by omega) (by omega) ?_
     refine Ops.nil ?_
     exact After.dn (Below.refl _ _) (by exact rfl)
    ·intro e1 w1 hb hp hun
     refine Ops.rung rfl rfl rfl ?_
     refine Ops.ld_int (hB.later hb) rfl (by omega) rfl rfl ?_
     refine Ops.nil ?_
     exact After.dn (Below.refl _ _) (by exact rfl)
    ·intro e1 w1 hb hp hun
     refine Ops.rung rfl rfl rfl ?_
     refine Ops.neq rfl rfl rfl ?_
     refine Ops.nil ?_
     exact After.dn (Below.refl _ _) (by exact congrArg Value.bool (decide_eq_false (fun h => h q10)))
    ·intro e1 w1 hb hp hun
     refine Ops.pick_f rfl rfl rfl ?_
     refine Ops.nil ?_
     exact After.dn (Below.refl _ _) (by exact rfl)
    ·intro e1 w1 hb hp hun
     refine Ops.mv_bool rfl rfl rfl ?_
     refine Ops.nil ?_
     exact After.dn (Below.refl _ _) (by exact rfl)
    ·intro e1 w1 hb hp hun
     refine Ops.rung rfl rfl rfl ?_
     refine Ops.mv_sl rfl rfl rfl ?_
     refine Ops.nil ?_
     exact After.dn (Below.refl _ _) (by exact rfl)
    ·intro e1 w1 hb hp hun
     refine Ops.rung rfl rfl rfl ?_
     refine Ops.len rfl rfl ?_
     refine Ops.nil ?_
     exact After.dn (Below.refl _ _) (by exact rfl)
    ·intro e1 w1 hb hp hun
     refine Ops.rung rfl rfl rfl ?_
     refine Ops.mv_sl rfl rfl rfl ?_
     refine Ops.nil ?_
     exact After.dn (Below.refl _ _) (by exact rfl)
    ·intro e1 w1 hb hp hun
     refine Ops.rung rfl rfl rfl ?_
     refine Ops.mv_int rfl rfl rfl ?_
     refine Ops.nil ?_
     exact After.dn (Below.refl _ _) (by exact rfl)
    ·intro e1 w1 hb hp hun
     refine Ops.rung rfl rfl rfl ?_
     refine Ops.idx (hA.later hb).2 rfl rfl rfl (by omega) (by omega) ?_
     refine Ops.nil ?_
     exact After.dn (Below.refl _ _) (by exact rfl)
    ·intro e1 w1 hb hp hun
     refine Ops.rung rfl rfl rfl ?_
     refine Ops.ld_int (hA.later hb) rfl (by omega) rfl rfl ?_
     refine Ops.nil ?_
     exact After.dn (Below.refl _ _) (by exact rfl)
    ·intro e1 w1 hb hp hun
     refine Ops.rung rfl rfl rfl ?_
     refine Ops.add rfl rfl rfl (by omega) ?_
     refine Ops.nil ?_
     exact After.dn (Below.refl _ _) (by exact rfl)
    ·intro e1 w1 hb hp hun
     refine Ops.rung rfl rfl rfl ?_
     refine Ops.neq rfl rfl rfl ?_
     refine Ops.nil ?_
     exact After.dn (Below.refl _ _) (by exact congrArg Value.bool (decide_eq_false (fun h => h q11)))
    ·intro e1 w1 hb hp hun
     refine Ops.pick_f rfl rfl rfl ?_
     refine Ops.nil ?_
     exact After.dn (Below.refl _ _) (by exact rfl)
    intro uu w12 hb12 _
    have hS12 := hS11.later hb12
    have hB := hB.later hb12
    have hA := hA.later hb12
    have hGr := hS'.later hb12
    have hP := hP.later hb12
    have hlen : path.length ≤ 500 := by omega
    refine thenQ_n ?_
    refine Cd.cond_f rfl ?_
    refine Cd.skip ?_
    refine thenQ_n ?_
    refine Cd.seq ?_
    refine Cd.seq ?_
    refine Cd.region ?_
    refine Ops.mv_int rfl rfl rfl ?_
    refine Ops.nil ?_
    refine thenQ_n ?_
    refine Cd.block ?_
    refine Cd.loop (α := Nat) (fun i => [(5, .int .i64 v), (6, .slice A6 path.length c6), (10, .slice A10 G.length c10), (12, .slice A12 a.length c12), (14, .slice A14 b.length c14), (16, .int .i64 most), (18, .int .i64 (G.length : Int)), (19, .int .i64 (i : Int))]) (fun i w' => Below w12.heap.size w12 w' ∧ 1 ≤ i) (fun i => path.length - i) 1 ⟨rfl, rfl, rfl, rfl, rfl, rfl, rfl, rfl, trivial⟩ ⟨Below.refl _ _, Nat.le_refl _⟩ ?_
    rintro i e w13 ⟨hb13, hi⟩
    refine Cd.seq ?_
    refine Cd.seq ?_
    refine Cd.region ?_
    refine Ops.mv_int rfl rfl rfl ?_
    refine Ops.mv_sl rfl rfl rfl ?_
    refine Ops.len rfl rfl ?_
    refine Ops.lss rfl rfl rfl ?_
    refine Ops.nil ?_
    refine thenQ_n ?_
    refine Cd.cond_p _ rfl (fun hi2 => ?_) (fun hi2 => ?_)
    ·obtain ⟨k, rfl⟩ : ∃ k, i = k + 1 := ⟨i - 1, by omega⟩
     have hk : k + 1 < path.length := by omega
     have r1 := q12 k hk
     have r2 := q13 k hk
     have hek : ((k + 1 : Nat) : Int) - 1 = (k : Int) := by omega
     rw [← hek] at r1 r2
     have r3 := q24 _ r1.1
     have hP := hP.later hb13
     have hGr := hGr.later hb13
     refine Cd.skip ?_
     refine thenQ_n ?_
     refine Cd.seq ?_
     refine Cd.block ?_
     refine Cd.seq ?_
     refine Cd.draw [.ex (.slice (A10) (G.length) (c10)), .ex (.slice (A6) (path.length) (c6)), .ex (.int .i64 (((k + 1 : Nat) : Int))), .ex (.int .i64 ((((k + 1 : Nat) : Int)) - ((1 : Int)))), .ex (.pointer (ptrAt (A6) ((((k + 1 : Nat) : Int)) - ((1 : Int))).toNat)), .ex (.int .i64 (gi (path) ((((k + 1 : Nat) : Int)) - ((1 : Int))))), .ex (.pointer (ptrAt (A10) (gi (path) ((((k + 1 : Nat) : Int)) - ((1 : Int)))).toNat)), .ex (.slice ((rg (r10) (gi (path) ((((k + 1 : Nat) : Int)) - ((1 : Int))))).a) ((rg (r10) (gi (path) ((((k + 1 : Nat) : Int)) - ((1 : Int))))).n) ((rg (r10) (gi (path) ((((k + 1 : Nat) : Int)) - ((1 : Int))))).c)), .ex (.slice (A6) (path.length) (c6)), .ex (.int .i64 (((k + 1 : Nat) : Int))), .ex (.pointer (ptrAt (A6) (((k + 1 : Nat) : Int)).toNat)), .ex (.int .i64 (gi (path) (((k + 1 : Nat) : Int)))), .ex (.bool (decide (gi (path) (((k + 1 : Nat) : Int)) ∈ gl G (gi (path) ((((k + 1 : Nat) : Int)) - ((1 : Int))))))), .ex (.bool (false))] (by kernel_rfl) (by kernel_rfl) rfl (List.forall_mem_cons.2 ⟨Yd.lasts_ex _, (List.forall_mem_cons.2 ⟨Yd.lasts_ex _, (List.forall_mem_cons.2 ⟨Yd.lasts_ex _, (List.forall_mem_cons.2 ⟨Yd.lasts_ex _, (List.forall_mem_cons.2 ⟨Yd.lasts_ex _, (List.forall_mem_cons.2 ⟨Yd.lasts_ex _, (List.forall_mem_cons.2 ⟨Yd.lasts_ex _, (List.forall_mem_cons.2 ⟨Yd.lasts_ex _, (List.forall_mem_cons.2 ⟨Yd.lasts_ex _, (List.forall_mem_cons.2 ⟨Yd.lasts_ex _, (List.forall_mem_cons.2 ⟨Yd.lasts_ex _, (List.forall_mem_cons.2 ⟨Yd.lasts_ex _, (List.forall_mem_cons.2 ⟨Yd.lasts_ex _, (List.forall_mem_cons.2 ⟨Yd.lasts_ex _, (fun _ h => by cases h)⟩)⟩)⟩)⟩)⟩)⟩)⟩)⟩)⟩)⟩)⟩)⟩)⟩)⟩) ⟨?_, ?_, ?_, ?_, ?_, ?_, ?_, ?_, ?_, ?_, ?_, ?_, ?_, ?_, trivial⟩ ?_
     ·intro e1 w1 hb hp hun
      refine Ops.mv_sl rfl rfl rfl ?_
      refine Ops.nil ?_
      exact After.dn (Below.refl _ _) (by exact rfl)
     ·intro e1 w1 hb hp hun
      refine Ops.mv_sl rfl rfl rfl ?_
      refine Ops.nil ?_
      exact After.dn (Below.refl _ _) (by exact rfl)
     ·intro e1 w1 hb hp hun
      refine Ops.mv_int rfl rfl rfl ?_
      refine Ops.nil ?_
      exact After.dn (Below.refl _ _) (by exact rfl)
     ·intro e1 w1 hb hp hun
      refine Ops.sub rfl rfl rfl (by omega) ?_
      refine Ops.nil ?_
      exact After.dn (Below.refl _ _) (by exact rfl)
     ·intro e1 w1 hb hp hun
      refine Ops.idx (hP.later hb).2 rfl rfl rfl (by omega) (by omega) ?_
      refine Ops.nil ?_
      exact After.dn (Below.refl _ _) (by exact rfl)
     ·intro e1 w1 hb hp hun
      refine Ops.ld_int (hP.later hb) rfl (by omega) rfl rfl ?_
      refine Ops.nil ?_
      exact After.dn (Below.refl _ _) (by exact rfl)
     ·intro e1 w1 hb hp hun
      refine Ops.idx (hGr.top.later hb).2 rfl rfl rfl (by omega) (by omega) ?_
      refine Ops.nil ?_
      exact After.dn (Below.refl _ _) (by exact rfl)
     ·intro e1 w1 hb hp hun
      refine Ops.ld_sl (hGr.top.later hb) rfl (by omega) rfl rfl ?_
      refine Ops.nil ?_
      exact After.dn (Below.refl _ _) (by exact rfl)
     ·intro e1 w1 hb hp hun
      refine Ops.mv_sl rfl rfl rfl ?_
      refine Ops.nil ?_
      exact After.dn (Below.refl _ _) (by exact rfl)
     ·intro e1 w1 hb hp hun
      refine Ops.mv_int rfl rfl rfl ?_
      refine Ops.nil ?_
      exact After.dn (Below.refl _ _) (by exact rfl)
     ·intro e1 w1 hb hp hun
      refine Ops.idx (hP.later hb).2 rfl rfl rfl (by omega) (by omega) ?_
      refine Ops.nil ?_
      exact After.dn (Below.refl _ _) (by exact rfl)
     ·intro e1 w1 hb hp hun
      refine Ops.ld_int (hP.later hb) rfl (by omega) rfl rfl ?_
      refine Ops.nil ?_
      exact After.dn (Below.refl _ _) (by exact rfl)
     ·intro e1 w1 hb hp hun
      refine Ops.call (hasInt_c _ _ _ _ _ _ ((hGr.later hb).at_ r1.1 (by omega)) (by have := ((hGr.later hb).at_ r1.1 (by omega)).1; omega)) rfl rfl rfl ?_
      rintro _ w2 ⟨rfl, hst⟩
      refine Ops.nil ?_
      exact After.dn hst.below (by exact rfl)
     ·intro e1 w1 hb hp hun
      refine Ops.not_p rfl rfl ?_
      refine Ops.nil ?_
      exact After.dn (Below.refl _ _) (by exact congrArg Value.bool (decide_eq_false (fun h => h r2)))
     intro uu' w14 hb14 _
     refine thenQ_n ?_
     refine Cd.cond_f rfl ?_
     refine Cd.skip ?_
     refine blockQ_n ?_
     refine thenQ_n ?_
     refine Cd.region ?_
     refine Ops.mv_int rfl rfl rfl ?_
     refine Ops.add rfl rfl rfl (by omega) ?_
     refine Ops.mv_int rfl rfl rfl ?_
     refine Ops.nil ?_
     refine thenQ_n ?_
     exact ⟨k + 2, by show path.length - (k + 2) < path.length - (k + 1); omega, ⟨rfl, rfl, rfl, rfl, rfl, rfl, rfl, rfl, trivial⟩, hb13.trans (hb14.mono hb13.size), by omega⟩
    ·refine Cd.exit ?_
     refine thenQ_x ?_
     refine thenQ_x ?_
     refine blockQ_x ?_
     refine thenQ_n ?_
     refine Cd.seq ?_
     refine Cd.seq ?_
     refine Cd.region ?_
     refine Ops.mv_int rfl rfl rfl ?_
     refine Ops.nil ?_
     refine thenQ_n ?_
     refine Cd.block ?_
     refine Cd.loop (α := Nat) (fun i => [(5, .int .i64 v), (6, .slice A6 path.length c6), (10, .slice A10 G.length c10), (12, .slice A12 a.length c12), (14, .slice A14 b.length c14), (16, .int .i64 most), (18, .int .i64 (G.length : Int)), (20, .int .i64 (i : Int))]) (fun i w' => Below w12.heap.size w12 w') (fun i => G.length - i) 0 ⟨rfl, rfl, rfl, rfl, rfl, rfl, rfl, rfl, trivial⟩ hb13 ?_
     rintro x e w14 hb14
     refine Cd.seq ?_
     refine Cd.seq ?_
     refine Cd.region ?_
     refine Ops.mv_int rfl rfl rfl ?_
     refine Ops.mv_int rfl rfl rfl ?_
     refine Ops.lss rfl rfl rfl ?_
     refine Ops.nil ?_
     refine thenQ_n ?_
     refine Cd.cond_p _ rfl (fun hx => ?_) (fun hx => ?_)
     ·have hx0 : (0 : Int) ≤ (x : Int) := by omega
      have hx1 : (x : Int) < (m : Int) := by omega
      have x1 := q14 x hx0 hx1
      have x2 := q15 x hx0 hx1
      have x3 := q16 x hx0 hx1
      have x4 := q17 x hx0 hx1
      have x5 := q18 x hx0 hx1
      have x6 := q19 x hx0 hx1
      have x7 := q24 x hx0
      have hA' := hA.later hb14
      have hB' := hB.later hb14
      refine Cd.skip ?_
      refine thenQ_n ?_
      refine Cd.seq ?_
      refine Cd.block ?_
      refine Cd.seq ?_
      refine Cd.seq ?_
      refine Cd.draw [.ex (.slice (A12) (a.length) (c12)), .ex (.int .i64 ((x : Int))), .ex (.pointer (ptrAt (A12) ((x : Int)).toNat)), .ex (.int .i64 (gi (a) ((x : Int)))), .ex (.bool (false)), .ex (.bool (false)), .ex (.slice (A12) (a.length) (c12)), .ex (.int .i64 ((x : Int))), .ex (.pointer (ptrAt (A12) ((x : Int)).toNat)), .ex (.int .i64 (gi (a) ((x : Int)))), .ex (.int .i64 (most)), .ex (.bool (false)), .ex (.bool (false)), .ex (.bool (false)), .ex (.slice (A12) (a.length) (c12)), .ex (.int .i64 ((x : Int))), .ex (.pointer (ptrAt (A12) ((x : Int)).toNat)), .ex (.int .i64 (gi (a) ((x : Int)))), .ex (.slice (A12) (a.length) (c12)), .ex (.int .i64 (v)), .ex (.pointer (ptrAt (A12) (v).toNat)), .ex (.int .i64 (gi (a) (v))), .ex (.slice (A14) (b.length) (c14)), .ex (.int .i64 ((x : Int))), .ex (.pointer (ptrAt (A14) ((x : Int)).toNat)), .ex (.int .i64 (gi (b) ((x : Int)))), .ex (.int .i64 ((gi (a) (v)) + (gi (b) ((x : Int))))), .ex (.bool (false)), .ex (.bool (false))] (by kernel_rfl) (by kernel_rfl) rfl (List.forall_mem_cons.2 ⟨Yd.lasts_ex _, (List.forall_mem_cons.2 ⟨Yd.lasts_ex _, (List.forall_mem_cons.2 ⟨Yd.lasts_ex _, (List.forall_mem_cons.2 ⟨Yd.lasts_ex _, (List.forall_mem_cons.2 ⟨Yd.lasts_ex _, (List.forall_mem_cons.2 ⟨Yd.lasts_ex _, (List.forall_mem_cons.2 ⟨Yd.lasts_ex _, (List.forall_mem_cons.2 ⟨Yd.lasts_ex _, (List.forall_mem_cons.2 ⟨Yd.lasts_ex _, (List.forall_mem_cons.2 ⟨Yd.lasts_ex _, (List.forall_mem_cons.2 ⟨Yd.lasts_ex _, (List.forall_mem_cons.2 ⟨Yd.lasts_ex _, (List.forall_mem_cons.2 ⟨Yd.lasts_ex _, (List.forall_mem_cons.2 ⟨Yd.lasts_ex _, (List.forall_mem_cons.2 ⟨Yd.lasts_ex _, (List.forall_mem_cons.2 ⟨Yd.lasts_ex _, (List.forall_mem_cons.2 ⟨Yd.lasts_ex _, (List.forall_mem_cons.2 ⟨Yd.lasts_ex _, (List.forall_mem_cons.2 ⟨Yd.lasts_ex _, (List.forall_mem_cons.2 ⟨Yd.lasts_ex _, (List.forall_mem_cons.2 ⟨Yd.lasts_ex _, (List.forall_mem_cons.2 ⟨Yd.lasts_ex _, (List.forall_mem_cons.2 ⟨Yd.lasts_ex _, (List.forall_mem_cons.2 ⟨Yd.lasts_ex _, (List.forall_mem_cons.2 ⟨Yd.lasts_ex _, (List.forall_mem_cons.2 ⟨Yd.lasts_ex _, (List.forall_mem_cons.2 ⟨Yd.lasts_ex _, (List.forall_mem_cons.2 ⟨Yd.lasts_ex _, (List.forall_mem_cons.2 ⟨Yd.lasts_ex _, (fun _ h => by cases h)⟩)⟩)⟩)⟩)⟩)⟩)⟩)⟩)⟩)⟩)⟩)⟩)⟩)⟩)⟩)⟩)⟩)⟩)⟩)⟩)⟩)⟩)⟩)⟩)⟩)⟩)⟩)⟩)⟩) ⟨?_, ?_, ?_, ?_, ?_, ?_, ?_, ?_, ?_, ?_, ?_, ?_, ?_, ?_, ?_, ?_, ?_, ?_, ?_, ?_, ?_, ?_, ?_, ?_, ?_, ?_, ?_, ?_, ?_, trivial⟩ ?_
      ·intro e1 w1 hb hp hun
       refine Ops.mv_sl rfl rfl rfl ?_
       refine Ops.nil ?_
       exact After.dn (Below.refl _ _) (by exact rfl)
      ·intro e1 w1 hb hp hun
       refine Ops.mv_int rfl rfl rfl ?_
       refine Ops.nil ?_
       exact After.dn (Below.refl _ _) (by exact rfl)
      ·intro e1 w1 hb hp hun
       refine Ops.idx (hA'.later hb).2 rfl rfl rfl (by omega) (by omega) ?_
       refine Ops.nil ?_
       exact After.dn (Below.refl _ _) (by exact rfl)
      ·intro e1 w1 hb hp hun
       refine Ops.ld_int (hA'.later hb) rfl (by omega) rfl rfl ?_
       refine Ops.nil ?_
       exact After.dn (Below.refl _ _) (by exact rfl)
      ·intro e1 w1 hb hp hun
       refine Ops.lss rfl rfl rfl ?_
       refine Ops.nil ?_
       exact After.dn (Below.refl _ _) (by exact congrArg Value.bool (decide_eq_false (by omega)))
      ·intro e1 w1 hb hp hun
       refine Ops.mv_bool rfl rfl rfl ?_
       refine Ops.nil ?_
       exact After.dn (Below.refl _ _) (by exact rfl)
      ·intro e1 w1 hb hp hun
       refine Ops.rung rfl rfl rfl ?_
       refine Ops.mv_sl rfl rfl rfl ?_
       refine Ops.nil ?_
       exact After.dn (Below.refl _ _) (by exact rfl)
      ·intro e1 w1 hb hp hun
       refine Ops.rung rfl rfl rfl ?_
       refine Ops.mv_int rfl rfl rfl ?_
       refine Ops.nil ?_
       exact After.dn (Below.refl _ _) (by exact rfl)
      ·intro e1 w1 hb hp hun
       refine Ops.rung rfl rfl rfl ?_
       refine Ops.idx (hA'.later hb).2 rfl rfl rfl (by omega) (by omega) ?_
       refine Ops.nil ?_
       exact After.dn (Below.refl _ _) (by exact rfl)
      ·intro e1 w1 hb hp hun
       refine Ops.rung rfl rfl rfl ?_
       refine Ops.ld_int (hA'.later hb) rfl (by omega) rfl rfl ?_
       refine Ops.nil ?_
       exact After.dn (Below.refl _ _) (by exact rfl)
      ·intro e1 w1 hb hp hun
       refine Ops.rung rfl rfl rfl ?_
       refine Ops.mv_int rfl rfl rfl ?_
       refine Ops.nil ?_
       exact After.dn (Below.refl _ _) (by exact rfl)
      ·intro e1 w1 hb hp hun
       refine Ops.rung rfl rfl rfl ?_
       refine Ops.gtr rfl rfl rfl ?_
       refine Ops.nil ?_
       exact After.dn (Below.refl _ _) (by exact congrArg Value.bool (decide_eq_false (by omega)))
      ·intro e1 w1 hb hp hun
       refine Ops.pick_f rfl rfl rfl ?_
       refine Ops.nil ?_
       exact After.dn (Below.refl _ _) (by exact rfl)
      ·intro e1 w1 hb hp hun
       refine Ops.mv_bool rfl rfl rfl ?_
       refine Ops.nil ?_
       exact After.dn (Below.refl _ _) (by exact rfl)
      ·intro e1 w1 hb hp hun
       refine Ops.rung rfl rfl rfl ?_
       refine Ops.mv_sl rfl rfl rfl ?_
       refine Ops.nil ?_
       exact After.dn (Below.refl _ _) (by exact rfl)
      ·intro e1 w1 hb hp hun
       refine Ops.rung rfl rfl rfl ?_
       refine Ops.mv_int rfl rfl rfl ?_
       refine Ops.nil ?_
       exact After.dn (Below.refl _ _) (by exact rfl)
      ·intro e1 w1 hb hp hun
       refine Ops.rung rfl rfl rfl ?_
       refine Ops.idx (hA'.later hb).2 rfl rfl rfl (by omega) (by omega) ?_
       refine Ops.nil ?_
       exact After.dn (Below.refl _ _) (by exact rfl)
      ·intro e1 w1 hb hp hun
       refine Ops.rung rfl rfl rfl ?_
       refine Ops.ld_int (hA'.later hb) rfl (by omega) rfl rfl ?_
       refine Ops.nil ?_
       exact After.dn (Below.refl _ _) (by exact rfl)
      ·intro e1 w1 hb hp hun
       refine Ops.rung rfl rfl rfl ?_
       refine Ops.mv_sl rfl rfl rfl ?_
       refine Ops.nil ?_
       exact After.dn (Below.refl _ _) (by exact rfl)
      ·intro e1 w1 hb hp hun
       refine Ops.rung rfl rfl rfl ?_
       refine Ops.mv_int rfl rfl rfl ?_
       refine Ops.nil ?_
       exact After.dn (Below.refl _ _) (by exact rfl)
      ·intro e1 w1 hb hp hun
       refine Ops.rung rfl rfl rfl ?_
       refine Ops.idx (hA'.later hb).2 rfl rfl rfl (by omega) (by omega) ?_
       refine Ops.nil ?_
       exact After.dn (Below.refl _ _) (by exact rfl)
      ·intro e1 w1 hb hp hun
       refine Ops.rung rfl rfl rfl ?_
       refine Ops.ld_int (hA'.later hb) rfl (by omega) rfl rfl ?_
       refine Ops.nil ?_
       exact After.dn (Below.refl _ _) (by exact rfl)
      ·intro e1 w1 hb hp hun
       refine Ops.rung rfl rfl rfl ?_
       refine Ops.mv_sl rfl rfl rfl ?_
       refine Ops.nil ?_
       exact After.dn (Below.refl _ _) (by exact rfl)
      ·intro e1 w1 hb hp hun
       refine Ops.rung rfl rfl rfl ?_
       refine Ops.mv_int rfl rfl rfl ?_
       refine Ops.nil ?_
       exact After.dn (Below.refl _ _) (by exact rfl)
      ·intro e1 w1 hb hp hun
       refine Ops.rung rfl rfl rfl ?_
       refine Ops.idx (hB'.later hb).2 rfl rfl rfl (by omega) (by omega) ?_
       refine Ops.nil ?_
       exact After.dn (Below.refl _ _) (by exact rfl)
      ·intro e1 w1 hb hp hun
       refine Ops.rung rfl rfl rfl ?_
       refine Ops.ld_int (hB'.later hb) rfl (by omega) rfl rfl ?_
       refine Ops.nil ?_
       exact After.dn (Below.refl _ _) (by exact rfl)
      ·intro e1 w1 hb hp hun
       refine Ops.rung rfl rfl rfl ?_
       refine Ops.add rfl rfl rfl (by omega) ?_
       refine Ops.nil ?_
       exact After.dn (Below.refl _ _) (by exact rfl)
      ·intro e1 w1 hb hp hun
       refine Ops.rung rfl rfl rfl ?_
       refine Ops.gtr rfl rfl rfl ?_
       refine Ops.nil ?_
       exact After.dn (Below.refl _ _) (by exact congrArg Value.bool (decide_eq_false (by omega)))
      ·intro e1 w1 hb hp hun
       refine Ops.pick_f rfl rfl rfl ?_
       refine Ops.nil ?_
       exact After.dn (Below.refl _ _) (by exact rfl)
      intro uu' w15 hb15 _
      have hb15 := hb14.trans (hb15.mono hb14.size)
      refine thenQ_n ?_
      refine Cd.cond_f rfl ?_
      refine Cd.skip ?_
      refine thenQ_n ?_
      refine Cd.seq ?_
      refine Cd.region ?_
      refine Ops.mv_int rfl rfl rfl ?_
      refine Ops.nil ?_
      refine thenQ_n ?_
      refine Cd.block ?_
      refine Cd.loop (α := Nat) (fun j => [(5, .int .i64 v), (6, .slice A6 path.length c6), (10, .slice A10 G.length c10), (12, .slice A12 a.length c12), (14, .slice A14 b.length c14), (16, .int .i64 most), (18, .int .i64 (G.length : Int)), (20, .int .i64 (x : Int)), (21, .int .i64 (j : Int))]) (fun j w' => Below w12.heap.size w12 w') (fun j => (gl G (x : Int)).length - j) 0 ⟨rfl, rfl, rfl, rfl, rfl, rfl, rfl, rfl, rfl, trivial⟩ hb15 ?_
      rintro j e w16 hb16
      have hGr' := hGr.later hb16
      have hrow := hGr'.at_ (i := (x : Int)) hx0 (by omega)
      have hrl := hrow.1
      refine Cd.seq ?_
      refine Cd.seq ?_
      refine Cd.region ?_
      refine Ops.mv_int rfl rfl rfl ?_
      refine Ops.mv_sl rfl rfl rfl ?_
      refine Ops.mv_int rfl rfl rfl ?_
      refine Ops.idx hGr'.top.2 rfl rfl rfl (by omega) (by omega) ?_
      refine Ops.ld_sl hGr'.top rfl (by omega) rfl rfl ?_
      refine Ops.len rfl rfl ?_
      refine Ops.lss rfl rfl rfl ?_
      refine Ops.nil ?_
      refine thenQ_n ?_
      refine Cd.cond_p _ rfl (fun hj => ?_) (fun hj => ?_)
      ·refine Cd.skip ?_
       refine thenQ_n ?_
       refine Cd.seq ?_
       refine Cd.block ?_
       refine Cd.seq ?_
       refine Cd.region ?_
       refine Ops.mv_sl rfl rfl rfl ?_
       refine Ops.mv_int rfl rfl rfl ?_
       refine Ops.idx hGr'.top.2 rfl rfl rfl (by omega) (by omega) ?_
       refine Ops.ld_sl hGr'.top rfl (by omega) rfl rfl ?_
       refine Ops.mv_int rfl rfl rfl ?_
       refine Ops.idx hrow.2 rfl rfl rfl (by omega) (by omega) ?_
       refine Ops.ld_int hrow rfl (by omega) rfl rfl ?_
       have hym : gi (gl G (x : Int)) (j : Int) ∈ gl G (x : Int) := gi_in (by omega)
       generalize gi (gl G (x : Int)) (j : Int) = y at hym ⊢
       have y1 := q20 x hx0 hx1 y hym
       have y2 := q21 x hx0 hx1 y hym
       have y3 := q22 x hx0 hx1 y hym
       have y4 := q23 x hx0 hx1 y hym
       have y5 := q24 y y1.1
       have hA' := hA.later hb16
       refine Ops.mv_int rfl rfl rfl ?_
       refine Ops.nil ?_
       refine thenQ_n ?_
       refine Cd.seq ?_
       refine Cd.draw [.ex (.int .i64 (y)), .ex (.bool (false)), .ex (.bool (false)), .ex (.int .i64 (y)), .ex (.int .i64 (((G.length : Nat) : Int))), .ex (.bool (false)), .ex (.bool (false)), .ex (.bool (false)), .ex (.int .i64 (y)), .ex (.int .i64 ((x : Int))), .ex (.bool (false)), .ex (.bool (false)), .ex (.bool (false)), .ex (.slice (A10) (G.length) (c10)), .ex (.int .i64 (y)), .ex (.pointer (ptrAt (A10) (y).toNat)), .ex (.slice ((rg (r10) (y)).a) ((rg (r10) (y)).n) ((rg (r10) (y)).c)), .ex (.int .i64 ((x : Int))), .ex (.bool (decide ((x : Int) ∈ gl G y))), .ex (.bool (false)), .ex (.bool (false)), .ex (.bool (false)), .ex (.slice (A12) (a.length) (c12)), .ex (.int .i64 (y)), .ex (.pointer (ptrAt (A12) (y).toNat)), .ex (.int .i64 (gi (a) (y))), .ex (.slice (A12) (a.length) (c12)), .ex (.int .i64 ((x : Int))), .ex (.pointer (ptrAt (A12) ((x : Int)).toNat)), .ex (.int .i64 (gi (a) ((x : Int)))), .ex (.int .i64 ((gi (a) ((x : Int))) + ((1 : Int)))), .ex (.bool (false)), .ex (.bool (false))] (by kernel_rfl) (by kernel_rfl) rfl (List.forall_mem_cons.2 ⟨Yd.lasts_ex _, (List.forall_mem_cons.2 ⟨Yd.lasts_ex _, (List.forall_mem_cons.2 ⟨Yd.lasts_ex _, (List.forall_mem_cons.2 ⟨Yd.lasts_ex _, (List.forall_mem_cons.2 ⟨Yd.lasts_ex _, (List.forall_mem_cons.2 ⟨Yd.lasts_ex _, (List.forall_mem_cons.2 ⟨Yd.lasts_ex _, (List.forall_mem_cons.2 ⟨Yd.lasts_ex _, (List.forall_mem_cons.2 ⟨Yd.lasts_ex _, (List.forall_mem_cons.2 ⟨Yd.lasts_ex _, (List.forall_mem_cons.2 ⟨Yd.lasts_ex _, (List.forall_mem_cons.2 ⟨Yd.lasts_ex _, (List.forall_mem_cons.2 ⟨Yd.lasts_ex _, (List.forall_mem_cons.2 ⟨Yd.lasts_ex _, (List.forall_mem_cons.2 ⟨Yd.lasts_ex _, (List.forall_mem_cons.2 ⟨Yd.lasts_ex _, (List.forall_mem_cons.2 ⟨Yd.lasts_ex _, (List.forall_mem_cons.2 ⟨Yd.lasts_ex _, (List.forall_mem_cons.2 ⟨Yd.lasts_ex _, (List.forall_mem_cons.2 ⟨Yd.lasts_ex _, (List.forall_mem_cons.2 ⟨Yd.lasts_ex _, (List.forall_mem_cons.2 ⟨Yd.lasts_ex _, (List.forall_mem_cons.2 ⟨Yd.lasts_ex _, (List.forall_mem_cons.2 ⟨Yd.lasts_ex _, (List.forall_mem_cons.2 ⟨Yd.lasts_ex _, (List.forall_mem_cons.2 ⟨Yd.lasts_ex _, (List.forall_mem_cons.2 ⟨Yd.lasts_ex _, (List.forall_mem_cons.2 ⟨Yd.lasts_ex _, (List.forall_mem_cons.2 ⟨Yd.lasts_ex _, (List.forall_mem_cons.2 ⟨Yd.lasts_ex _, (List.forall_mem_cons.2 ⟨Yd.lasts_ex _, (List.forall_mem_cons.2 ⟨Yd.lasts_ex _, (List.forall_mem_cons.2 ⟨Yd.lasts_ex _, (fun _ h => by cases h)⟩)⟩)⟩)⟩)⟩)⟩)⟩)⟩)⟩)⟩)⟩)⟩)⟩)⟩)⟩)⟩)⟩)⟩)⟩)⟩)⟩)⟩)⟩)⟩)⟩)⟩)⟩)⟩)⟩)⟩)⟩)⟩)⟩) ⟨?_, ?_, ?_, ?_, ?_, ?_, ?_, ?_, ?_, ?_, ?_, ?_, ?_, ?_, ?_, ?_, ?_, ?_, ?_, ?_, ?_, ?_, ?_, ?_, ?_, ?_, ?_, ?_, ?_, ?_, ?_, ?_, ?_, trivial⟩ ?_
       ·intro e1 w1 hb hp hun
        refine Ops.mv_int rfl rfl rfl ?_
        refine Ops.nil ?_
        exact After.dn (Below.refl _ _) (by exact rfl)
       ·intro e1 w1 hb hp hun
        refine Ops.lss rfl rfl rfl ?_
        refine Ops.nil ?_
        exact After.dn (Below.refl _ _) (by exact congrArg Value.bool (decide_eq_false (by omega)))
       ·intro e1 w1 hb hp hun
        refine Ops.mv_bool rfl rfl rfl ?_
        refine Ops.nil ?_
        exact After.dn (Below.refl _ _) (by exact rfl)
       ·intro e1 w1 hb hp hun
        refine Ops.rung rfl rfl rfl ?_
        refine Ops.mv_int rfl rfl rfl ?_
        refine Ops.nil ?_
        exact After.dn (Below.refl _ _) (by exact rfl)
       ·intro e1 w1 hb hp hun
        refine Ops.rung rfl rfl rfl ?_
        refine Ops.mv_int rfl rfl rfl ?_
        refine Ops.nil ?_
        exact After.dn (Below.refl _ _) (by exact rfl)
       ·intro e1 w1 hb hp hun
        refine Ops.rung rfl rfl rfl ?_
        refine Ops.geq rfl rfl rfl ?_
        refine Ops.nil ?_
        exact After.dn (Below.refl _ _) (by exact congrArg Value.bool (decide_eq_false (by omega)))
       ·intro e1 w1 hb hp hun
        refine Ops.pick_f rfl rfl rfl ?_
        refine Ops.nil ?_
        exact After.dn (Below.refl _ _) (by exact rfl)
       ·intro e1 w1 hb hp hun
        refine Ops.mv_bool rfl rfl rfl ?_
        refine Ops.nil ?_
        exact After.dn (Below.refl _ _) (by exact rfl)
       ·intro e1 w1 hb hp hun
        refine Ops.rung rfl rfl rfl ?_
        refine Ops.mv_int rfl rfl rfl ?_
        refine Ops.nil ?_
        exact After.dn (Below.refl _ _) (by exact rfl)
       ·intro e1 w1 hb hp hun
        refine Ops.rung rfl rfl rfl ?_
        refine Ops.mv_int rfl rfl rfl ?_
        refine Ops.nil ?_
        exact After.dn (Below.refl _ _) (by exact rfl)
       ·intro e1 w1 hb hp hun
        refine Ops.rung rfl rfl rfl ?_
        refine Ops.eql rfl rfl rfl ?_
        refine Ops.nil ?_
        exact After.dn (Below.refl _ _) (by exact congrArg Value.bool (decide_eq_false y2))
       ·intro e1 w1 hb hp hun
        refine Ops.pick_f rfl rfl rfl ?_
        refine Ops.nil ?_
        exact After.dn (Below.refl _ _) (by exact rfl)
       ·intro e1 w1 hb hp hun
        refine Ops.mv_bool rfl rfl rfl ?_
        refine Ops.nil ?_
        exact After.dn (Below.refl _ _) (by exact rfl)
       ·intro e1 w1 hb hp hun
        refine Ops.rung rfl rfl rfl ?_
        refine Ops.mv_sl rfl rfl rfl ?_
        refine Ops.nil ?_
        exact After.dn (Below.refl _ _) (by exact rfl)
       ·intro e1 w1 hb hp hun
        refine Ops.rung rfl rfl rfl ?_
        refine Ops.mv_int rfl rfl rfl ?_
        refine Ops.nil ?_
        exact After.dn (Below.refl _ _) (by exact rfl)
       ·intro e1 w1 hb hp hun
        refine Ops.rung rfl rfl rfl ?_
        refine Ops.idx (hGr'.top.later hb).2 rfl rfl rfl (by omega) (by omega) ?_
        refine Ops.nil ?_
        exact After.dn (Below.refl _ _) (by exact rfl)
       ·intro e1 w1 hb hp hun
        refine Ops.rung rfl rfl rfl ?_
        refine Ops.ld_sl (hGr'.top.later hb) rfl (by omega) rfl rfl ?_
        refine Ops.nil ?_
        exact After.dn (Below.refl _ _) (by exact rfl)
       ·intro e1 w1 hb hp hun
        refine Ops.rung rfl rfl rfl ?_
        refine Ops.mv_int rfl rfl rfl ?_
        refine Ops.nil ?_
        exact After.dn (Below.refl _ _) (by exact rfl)
       ·intro e1 w1 hb hp hun
        refine Ops.rung rfl rfl rfl ?_
        refine Ops.call (hasInt_c _ _ _ _ _ _ ((hGr'.later hb).at_ y1.1 (by omega)) (by have := ((hGr'.later hb).at_ y1.1 (by omega)).1; omega)) rfl rfl rfl ?_
        rintro _ w2 ⟨rfl, hst⟩
        refine Ops.nil ?_
        exact After.dn hst.below (by exact rfl)
       ·intro e1 w1 hb hp hun
        refine Ops.rung rfl rfl rfl ?_
        refine Ops.not_p rfl rfl ?_
        refine Ops.nil ?_
        exact After.dn (Below.refl _ _) (by exact congrArg Value.bool (decide_eq_false (fun h => h y3)))
       ·intro e1 w1 hb hp hun
        refine Ops.pick_f rfl rfl rfl ?_
        refine Ops.nil ?_
        exact After.dn (Below.refl _ _) (by exact rfl)
       ·intro e1 w1 hb hp hun
        refine Ops.mv_bool rfl rfl rfl ?_
        refine Ops.nil ?_
        exact After.dn (Below.refl _ _) (by exact rfl)
       ·intro e1 w1 hb hp hun
        refine Ops.rung rfl rfl rfl ?_
        refine Ops.mv_sl rfl rfl rfl ?_
        refine Ops.nil ?_
        exact After.dn (Below.refl _ _) (by exact rfl)
       ·intro e1 w1 hb hp hun
        refine Ops.rung rfl rfl rfl ?_
        refine Ops.mv_int rfl rfl rfl ?_
        refine Ops.nil ?_
        exact After.dn (Below.refl _ _) (by exact rfl)
       ·intro e1 w1 hb hp hun
        refine Ops.rung rfl rfl rfl ?_
        refine Ops.idx (hA'.later hb).2 rfl rfl rfl (by omega) (by omega) ?_
        refine Ops.nil ?_
        exact After.dn (Below.refl _ _) (by exact rfl)
       ·intro e1 w1 hb hp hun
        refine Ops.rung rfl rfl rfl ?_
        refine Ops.ld_int (hA'.later hb) rfl (by omega) rfl rfl ?_
        refine Ops.nil ?_
        exact After.dn (Below.refl _ _) (by exact rfl)
       ·intro e1 w1 hb hp hun
        refine Ops.rung rfl rfl rfl ?_
        refine Ops.mv_sl rfl rfl rfl ?_
        refine Ops.nil ?_
        exact After.dn (Below.refl _ _) (by exact rfl)
       ·intro e1 w1 hb hp hun
        refine Ops.rung rfl rfl rfl ?_
        refine Ops.mv_int rfl rfl rfl ?_
        refine Ops.nil ?_
        exact After.dn (Below.refl _ _) (by exact rfl)
       ·intro e1 w1 hb hp hun
        refine Ops.rung rfl rfl rfl ?_
        refine Ops.idx (hA'.later hb).2 rfl rfl rfl (by omega) (by omega) ?_
        refine Ops.nil ?_
        exact After.dn (Below.refl _ _) (by exact rfl)
       ·intro e1 w1 hb hp hun
        refine Ops.rung rfl rfl rfl ?_
        refine Ops.ld_int (hA'.later hb) rfl (by omega) rfl rfl ?_
        refine Ops.nil ?_
        exact After.dn (Below.refl _ _) (by exact rfl)
       ·intro e1 w1 hb hp hun
        refine Ops.rung rfl rfl rfl ?_
        refine Ops.add rfl rfl rfl (by omega) ?_
        refine Ops.nil ?_
        exact After.dn (Below.refl _ _) (by exact rfl)
       ·intro e1 w1 hb hp hun
        refine Ops.rung rfl rfl rfl ?_
        refine Ops.gtr rfl rfl rfl ?_
        refine Ops.nil ?_
        exact After.dn (Below.refl _ _) (by exact congrArg Value.bool (decide_eq_false (by omega)))
       ·intro e1 w1 hb hp hun
        refine Ops.pick_f rfl rfl rfl ?_
        refine Ops.nil ?_
        exact After.dn (Below.refl _ _) (by exact rfl)
       intro uu'' w17 hb17 _
       refine thenQ_n ?_
       refine Cd.cond_f rfl ?_
       refine Cd.skip ?_
       refine blockQ_n ?_
       refine thenQ_n ?_
       refine Cd.region ?_
       refine Ops.mv_int rfl rfl rfl ?_
       refine Ops.add rfl rfl rfl (by omega) ?_
       refine Ops.mv_int rfl rfl rfl ?_
       refine Ops.nil ?_
       refine thenQ_n ?_
       exact ⟨j + 1, by show (gl G (x : Int)).length - (j + 1) < (gl G (x : Int)).length - j; omega, ⟨rfl, rfl, rfl, rfl, rfl, rfl, rfl, rfl, rfl, trivial⟩, hb16.trans (hb17.mono hb16.size)⟩
      ·refine Cd.exit ?_
       refine thenQ_x ?_
       refine thenQ_x ?_
       refine blockQ_x ?_
       refine blockQ_n ?_
       refine thenQ_n ?_
       refine Cd.region ?_
       refine Ops.mv_int rfl rfl rfl ?_
       refine Ops.add rfl rfl rfl (by omega) ?_
       refine Ops.mv_int rfl rfl rfl ?_
       refine Ops.nil ?_
       refine thenQ_n ?_
       exact ⟨x + 1, by show G.length - (x + 1) < G.length - x; omega, ⟨rfl, rfl, rfl, rfl, rfl, rfl, rfl, rfl, trivial⟩, hb16⟩
     ·refine Cd.exit ?_
      refine thenQ_x ?_
      refine thenQ_x ?_
      refine blockQ_x ?_
      refine thenQ_n ?_
      refine Cd.seq ?_
      refine Cd.region ?_
      refine Ops.mv_bool rfl rfl rfl ?_
      refine Ops.nil ?_
      refine thenQ_n ?_
      refine Cd.ret ?_
      refine ret1_b rfl ?_
      exact ⟨rfl, ((hT1.call hS2).call (hS12.later hb14)).none⟩
end Go.Proofs.YtjpkmpihmilgoaaGreat.Vc
/-
 A statement's frame: the arguments opened, and what a walk gives told in the statement's own words. Conditions: as each states them.
-/
namespace Go.Proofs.YtjpkmpihmilgoaaGreat.Vc
open Go.RowKit Go.ChangeShapes Go.WideShapes

theorem laid : laidOutB Tryz.prog = true := by kernel_rfl
theorem own : ownKnob Tryz.prog.godebug = none := by kernel_rfl

section
variable {H : Type} {enc : TypeId × Value → H} {P : Program}
theorem trodAll_stays (hl : laidOutB P = true) {W W' : World} (hb : Below W.heap.size W W') {sp : Nat → Bool} : ∀ {ts : List TypeId} {vs : List Value} {ds : List (DataW H)} {ps : List MemPlace}, (ts.all fun t => P.readableRec t && Nat.blt t P.types.size) = true → (∀ p ∈ ps, p.block < W.heap.size) → (∀ p ∈ ps, sp p.block = true) →
  DataW.TrodAll enc P W 0 (fun _ => true) true ts vs ds ps → DataW.TrodAll enc P W' 0 sp true ts vs ds ps
 | [], [], [], _, _, _, _, h => h
 | t :: ts, v :: vs, d :: ds, ps, hr, hlt, hsp, h => by
  obtain ⟨p, q, h1, h2, rfl⟩ := h
  simp only [List.all_cons, Bool.and_eq_true] at hr
  exact ⟨p, q, WideElems.Trod_stays hl hr.1.1 (by simpa [Nat.blt_eq] using hr.1.2) h1 (fun x hx => hb.same (hlt x (by simp [hx]))) (fun x hx => hsp x (by simp [hx])), trodAll_stays hl hb hr.2 (fun x hx => hlt x (by simp [hx])) (fun x hx => hsp x (by simp [hx])) h2, rfl⟩
 | [], [], _ :: _, _, _, _, _, h => h.elim
 | [], _ :: _, _, _, _, _, _, h => by cases h
 | _ :: _, [], _, _, _, _, _, h => by cases h
 | _ :: _, _ :: _, [], _, _, _, _, h => by cases h

/-- what a law's walk gives, in its statement's words: it returns true, and its arguments read as they did -/
theorem post_law {f : Func} {s : ChangeSpec} {apart : Bool} {W W' : World} {args : Array Value} {ds gs : List (DataW H)} {before : List MemPlace} (hl : laidOutB P = true) {b : TypeId} (hu : P.underlying b = some .bool) (hres : f.resultTypes = #[b]) (hv : s.vars = [])
    (hr : (f.params.toList.all fun t => P.readableRec t && Nat.blt t P.types.size) = true) (hfn : (s.fn H (ds ++ gs)).results = [.lit (.bool true)] ∧ (s.fn H (ds ++ gs)).args = ds ∧ (s.fn H (ds ++ gs)).vars = [])
    (hW : DataW.Whole enc P f.params.toList s.vars apart W args.toList ds gs before) (hb : Below W.heap.size W W') : s.post enc P f apart true false false W args (.bool true) W' := by
  have hlt : ∀ x ∈ before, x.block < W.heap.size := fun x hx => hW.lt x hx
  have hW0 := hW
  obtain ⟨p, q, hA, hV, rfl, hz, hn⟩ := hW
  rw [hv] at hV
  obtain ⟨rfl, rfl⟩ := trodVars_none hV
  have hlp : ∀ x ∈ p, x.block < W.heap.size := fun x hx => hlt x (by simp [hx])
  have hA' : ∀ sp : Nat → Bool, (∀ x ∈ p, sp x.block = true) → DataW.TrodAll enc P W' 0 sp true f.params.toList args.toList (s.fn H (ds ++ [])).args p := fun sp hsp => by
    rw [hfn.2.1]
    exact trodAll_stays hl hb hr hlp hsp hA
  have hR' : ∀ (b0 : Nat) (sp : Nat → Bool) (hd : Bool), DataW.TrodAll enc P W' b0 sp hd f.resultTypes.toList ((Value.bool true).resultList f.resultTypes.size) (s.fn H (ds ++ [])).results [] := fun b0 sp hd => by
    rw [hfn.1, hres]
    exact trodAll_cons_mk (shut_bool hu _) trodAll_mk0
  have hV' : ∀ sp : Nat → Bool, DataW.TrodVars enc P W' sp s.vars (s.fn H (ds ++ [])).vars [] := fun sp => by
    rw [hfn.2.2, hv]; rfl
  refine ⟨ds, [], p ++ [], [], p, [], hW0, hR' _ _ _, hA' _ (fun x hx => by simpa using hlp x hx), hV' _, World.keptBut_mono (fun x hx => ⟨hx, by simpa using hx⟩) (hb.frame (· ∈ p ++ [])), fun _ => ⟨fun j t r h1 h2 => ?_, _, _, ([] ++ p) ++ [], ⟨[] ++ p, [], trodAll_append (hA' _ fun _ _ => rfl) (hR' _ _ _), hV' _, rfl, fun c off hc => ?_, fun ha => by simpa using hn ha⟩, fun x hx _ => by simpa using hx⟩⟩
  · rw [hres] at h1 h2
    cases j with
    | zero =>
      simp at h1
      subst h1
      simp [Value.resultList] at h2
      subst h2
      exact okWide_bool_mk hu _
    | succ j => simp at h1
  · have hin : MemPlace.cell c off ∈ p ++ [] := by simpa using hc
    rw [hb.frozen (hlt _ hin)]
    exact hz c off hin
end
end Go.Proofs.YtjpkmpihmilgoaaGreat.Vc
/-
 Arguments opened: a struct of one matrix, a list of integers. Conditions: as each states them.
-/
namespace Go.Proofs.YtjpkmpihmilgoaaGreat.Vc
open Go.RowKit Go.ChangeShapes Go.WideShapes

section
variable {H : Type} {enc : TypeId × Value → H} {P : Program}
end
end Go.Proofs.YtjpkmpihmilgoaaGreat.Vc
/-
 An argument that is a list of bytes, opened. Conditions: as stated.
-/
namespace Go.Proofs.YtjpkmpihmilgoaaGreat.Vc
open Go.RowKit Go.ChangeShapes Go.WideShapes
section
variable {H : Type} {enc : TypeId × Value → H} {P : Program}
theorem open_ybs {w : World} {r : Go.Reach} {b0 : Nat} {t e : TypeId} {v : Value} {d : DataW H} {p : List MemPlace} (ht : P.underlying t = some (.slice e)) (he : P.underlying e = some (.int .u8)) (ce : P.cellsOf e = 1)
    (hval : Value.okWide P w r b0 t v) (h : DataW.Trod enc P w 0 (fun _ => true) true t v d p) : ∃ A n c bs, v = .slice A n c ∧ RdY w A n bs ∧ n ≤ c ∧ c ≤ 9223372036854775807 := by
  obtain ⟨a, len, cap, rfl⟩ := okWide_slice ht hval
  obtain ⟨fuel, hf⟩ := h
  have hcs : (Value.slice a len cap).cells.toList = [Value.slice a len cap] := rfl
  rw [hcs] at hf
  rcases open_ints ht he ce hf with ⟨h1, _⟩ | ⟨b, n, c, zs, h1, _, hl, hm, hz, _, hc, hwz⟩
  · simp only [List.cons.injEq, and_true] at h1
    exact ⟨none, 0, 0, [], h1, ⟨rfl, fun x hx => (nomatch hx), fun k hk => absurd hk (Nat.not_lt_zero _)⟩, Nat.le_refl _, by omega⟩
  · simp only [List.cons.injEq, and_true] at h1
    rw [if_pos rfl] at hz
    refine ⟨some b, n, c, zs.take n, h1, ⟨?_, fun x hx => ?_, fun k hk => ?_⟩, hl, by simpa [maxLen] using hm⟩
    · simp; omega
    · have := hwz x (List.mem_of_mem_take hx)
      simpa [Lit.wf, IntKind.min, IntKind.max, IntKind.signed, IntKind.bits] using this
    · refine ⟨b.add k, rfl, ?_⟩
      rw [hc k (by omega)]
      simp [List.getD_eq_getElem?_getD, List.getElem?_take, hk]
end
end Go.Proofs.YtjpkmpihmilgoaaGreat.Vc
