/-
  The texts H1, Dfi, Drp, E8, Gir, E6, Gp1, Map in one. Conditions: as each part states them.
-/
import Derived.Test.YtbhnfehcpnnjcaaGreatDoorZd
import Derived.Test.YtbhnfehcpnnjcaaGreatDoorZe
import Derived.Test.YtbhnfehcpnnjcaaGreatDoorZc
import Derived.Test.YtbhnfehcpnnjcaaGreatDoorZa
import Derived.MapKept
import Derived.Carry
/-
 The walks of the search for a Hamiltonian cycle on both sides. Conditions: as each states them.
-/
namespace Go.Proofs.YtbhnfehcpnnjcaaGreatDoor.Vc
open Go.RowKit

/-- a list in memory of one's own, nil if it is empty -/
def HamO (w : World) (L : List Int) (v : Value) (w' : World) : Prop :=
  (v = .slice none 0 0 ∧ L = [] ∧ St w w' []) ∨ (∃ A c, v = .slice A L.length c ∧ L ≠ [] ∧ St w w' [CkI 2 A L.length c L])
/-- .. or the list that came -/
def HamR (w : World) (Al : Option Addr) (cl : Nat) (list L : List Int) (v : Value) (w' : World) : Prop :=
 HamO w L v w' ∨ (v = .slice Al list.length cl ∧ L = list ∧ list ≠ [] ∧ St w w' [])
theorem HamR.own {w0 w w' : World} {Al : Option Addr} {cl : Nat} {list L : List Int} {v : Value} (hS : St w0 w [CkI 2 Al list.length cl list]) (h : HamR w Al cl list L v w') : HamO w0 L v w' := by
 rcases h with (⟨rfl, rfl, h⟩ | ⟨A, c, rfl, hne, h⟩) | ⟨rfl, rfl, hne, h⟩
 ·exact .inl ⟨rfl, rfl, (hS.later h.below).none⟩
 ·exact .inr ⟨A, c, rfl, hne, (hS.call h).sub (List.Sublist.cons_cons _ (List.nil_sublist _))⟩
 ·exact .inr ⟨Al, cl, rfl, hne, hS.later h.below⟩
/-- what is looked at: the slice, its length, whether it is nil -/
theorem HamO.open_ {w w' : World} {L : List Int} {v : Value} (h : HamO w L v w') : ∃ A c, v = .slice A L.length c ∧ (A.isNone = decide (L = [])) ∧ St w w' [CkI 2 A L.length c L] := by
 rcases h with ⟨rfl, rfl, h⟩ | ⟨A, c, rfl, hne, h⟩
 ·exact ⟨none, 0, rfl, rfl, h.nil _⟩
 ·refine ⟨A, c, rfl, ?_, h⟩
  have hl : 0 < L.length := List.length_pos_iff.2 hne
  obtain ⟨h1, h2, h3, h4⟩ := h.getC (i := 0) rfl (isM_I _)
  rcases h4 with ⟨_, h0⟩ | ⟨g, o, cur, hA, _⟩
  ·have h2 : L.length ≤ c := h2
   have h0 : c = 0 := h0
   omega
  ·have hA : A = some _ := hA
   rw [hA]
   simp [hne]

theorem Index_c (A : Option Addr) (n c : Nat) (xs : List Int) (v : Int) (w : World) (hR : RdI w A n xs) (hn : n ≤ 9223372036854775807) :
  Ret Tryz.prog 63 [.slice A n c, .int .i64 v] w (fun r w' => (∃ i : Int, r = .int .i64 i ∧ (0 ≤ i ↔ v ∈ xs)) ∧ w' = w) := by
 have hxl := hR.1
 refine Ret.of_cd Tryz.func63 rfl Tryz.ntmps63 rfl (post1 rfl) (Cd.seq (Cd.region (Ops.mi rfl rfl rfl (Ops.n (tQ (Cd.seq (Cd.seq (Cd.region (Ops.ms rfl rfl rfl ?_)))))))))
 refine Ops.len rfl rfl (Ops.mi rfl rfl rfl (Ops.n (tQ (Cd.block ?_))))
 refine Cd.loop (α := Nat) (fun k => [(0, .slice A n c), (1, .int .i64 v), (7, .int .i64 (n : Int)), (8, .int .i64 (k : Int))]) (fun k w' => w' = w ∧ k ≤ n ∧ ∀ j, j < k → gi xs (j : Nat) ≠ v) (fun k => n - k) 0 ⟨rfl, rfl, rfl, rfl, trivial⟩ ⟨rfl, Nat.zero_le _, fun j hj => by omega⟩ ?_
 rintro k e w ⟨rfl, hk, hK⟩
 refine Cd.seq (Cd.region (Ops.lss rfl rfl rfl (Ops.n (tQ (Cd.seq ?_)))))
 refine Cd.cond_p _ rfl (fun h3 => ?_) (fun h3 => ?_)
 ·refine Cd.skip (tQ (Cd.seq (Cd.block (Cd.seq (Cd.region (Ops.mi rfl rfl rfl (Ops.mi rfl rfl rfl (Ops.n (tQ ?_)))))))))
  refine Cd.seq (Cd.region (Ops.mi rfl rfl rfl (Ops.ms rfl rfl rfl (Ops.mi rfl rfl rfl (Ops.idx hR.2 rfl rfl rfl (by omega) (by omega) (Ops.ld_int hR rfl (by omega) rfl rfl (Ops.eql rfl rfl rfl (Ops.n (tQ ?_)))))))))
  refine Cd.cond_p _ rfl (fun h4 => ?_) (fun h4 => ?_)
  ·refine Cd.seq (Cd.region (Ops.mi rfl rfl rfl (Ops.mi rfl rfl rfl (Ops.n (tQ (Cd.ret (blockQ_r (thenQ_r (thenQ_r ?_)))))))))
   refine blockQ_r (thenQ_r (ret1_i rfl ?_))
   exact ⟨⟨(k : Int), rfl, ⟨fun _ => by rw [h4]; rw [gi_mem (by omega)]; exact List.getElem_mem _, fun _ => by omega⟩⟩, rfl⟩
  ·refine Cd.skip (blockQ_n (tQ (Cd.region (Ops.add rfl rfl rfl (by omega) (Ops.mi rfl rfl rfl (Ops.n (tQ ?_)))))))
   refine ⟨k + 1, by show n - (k + 1) < n - k; omega, ⟨rfl, rfl, rfl, rfl, trivial⟩, rfl, by omega, fun j hj => ?_⟩
   by_cases ej : j = k
   ·subst ej; exact fun h => h4 h.symm
   ·exact hK j (by omega)
 ·refine Cd.exit (thenQ_x (thenQ_x (blockQ_x (tQ (Cd.seq (Cd.region (Ops.mi rfl rfl rfl (Ops.n (tQ ?_)))))))))
  refine Cd.ret (ret1_i rfl ?_)
  refine ⟨⟨-1, rfl, ⟨fun h => absurd h (by decide), fun h => ?_⟩⟩, rfl⟩
  obtain ⟨j, hj, hjv⟩ := List.mem_iff_getElem.1 h
  exact absurd (by rw [gi_mem hj]; exact hjv) (hK j (by omega))

theorem Contains_c (A : Option Addr) (n c : Nat) (xs : List Int) (v : Int) (w : World) (hR : RdI w A n xs) (hn : n ≤ 9223372036854775807) :
  Ret Tryz.prog 41 [.slice A n c, .int .i64 v] w (fun r w' => r = .bool (decide (v ∈ xs)) ∧ w' = w) := by
 refine Ret.of_cd Tryz.func41 rfl Tryz.ntmps41 rfl (post1 rfl) (Cd.seq (Cd.region (Ops.mb rfl rfl rfl (Ops.n (tQ (Cd.seq (Cd.region (Ops.ms rfl rfl rfl (Ops.mi rfl rfl rfl ?_)))))))))
 refine Ops.call (Index_c A n c xs v _ hR hn) rfl rfl rfl ?_
 rintro _ w ⟨⟨i, rfl, hi⟩, rfl⟩
 refine Ops.geq rfl rfl rfl (Ops.mb rfl rfl rfl (Ops.n (tQ (Cd.ret (ret1_b rfl ?_)))))
 exact ⟨congrArg Value.bool (decide_eq_decide.2 hi), rfl⟩

/-- a path: its places lie among N -/
def PathI (N : Nat) (l : List Int) : Prop := 0 < l.length ∧ l.length ≤ N ∧ ∀ x ∈ l, 0 ≤ x ∧ x < (N : Int)
theorem PathI.last {N : Nat} {l : List Int} (h : PathI N l) : 0 ≤ lastI l ∧ lastI l < N := by
 have h0 := h.1
 unfold lastI
 rw [show ((l.length : Int) - 1) = ((l.length - 1 : Nat) : Int) by omega]
 exact h.2.2 _ (gi_in (by omega))
theorem PathI.more {N : Nat} {l : List Int} (h : PathI N l) {v : Int} (h0 : 0 ≤ v) (h1 : v < N) (hl : l.length < N) : PathI N (l ++ [v]) :=
 ⟨by simp, by simp; omega, fun x hx => by
  rcases List.mem_append.1 hx with hx | hx
  ·exact h.2.2 x hx
  ·simp at hx; subst hx; exact ⟨h0, h1⟩⟩

theorem l18Hamilton_c (N : Nat) (next : List (List Int)) (hg : Gr N next) : ∀ (f : Nat) (list : List Int), list.length + f = N + 1 → PathI N list → ∀ (A : Option Addr) (c : Nat) (rs : List SlV) (Al : Option Addr) (cl : Nat) (w : World), RowsI w A N rs next → RdI w Al list.length list →
  Ret Tryz.prog 25 [.slice A N c, .slice Al list.length cl] w (HamR w Al cl list (ham 0 next f list)) := by
 intro f
 induction f with
 | zero => intro list hf hp; have := hp.2.1; omega
 | succ f ih =>
 intro list hf hp A c rs Al cl w hN hL
 have hl := hg.len
 have hsm := hg.small
 have hp0 := hp.1
 have hpN := hp.2.1
 obtain ⟨hla0, hla1⟩ := hp.last
 have hla : gi list ((list.length : Int) - 1) = lastI list := rfl
 have hrow := hN.at_ hla0 (by omega)
 have hrn := hN.rowLen hla0 (by omega)
 have hgr := hg.row _ hla0
 have hham : ham 0 next (f + 1) list = if list.length = next.length then (if 0 < list.length ∧ gi list 0 ∈ gl next (lastI list) then list else []) else hamF (ham 0 next f) list (gl next (lastI list)) := rfl
 generalize hlast : lastI list = z at *
 refine Ret.of_cd Tryz.func25 rfl Tryz.ntmps25 rfl (post1 rfl) (Cd.seq (Cd.region (Ops.ms rfl rfl rfl (Ops.n (tQ (Cd.seq (Cd.region (Ops.ms rfl rfl rfl (Ops.ms rfl rfl rfl ?_)))))))))
 refine Ops.len rfl rfl (Ops.sub rfl rfl rfl (by omega) (Ops.idx hL.2 rfl rfl rfl (by omega) (by omega) (Ops.ld_int hL rfl (by omega) rfl rfl ?_)))
 rw [hla]
 refine Ops.mi rfl rfl rfl (Ops.n (tQ (Cd.seq (Cd.seq (Cd.region (Ops.ms rfl rfl rfl (Ops.len rfl rfl (Ops.ms rfl rfl rfl (Ops.len rfl rfl ?_)))))))))
 refine Ops.eql rfl rfl rfl (Ops.n (tQ ?_))
 refine Cd.cond_p _ rfl (fun h1 => ?_) (fun h1 => ?_)
 ·refine Cd.seq (Cd.seq ?_)
  refine Cd.draw [.ex (.slice (A) (N) (c)), .ex (.int .i64 (z)), .ex (.pointer (ptrAt (A) (z).toNat)), .ex (.slice ((rg (rs) (z)).a) ((rg (rs) (z)).n) ((rg (rs) (z)).c)), .ex (.slice (Al) (list.length) (cl)), .ex (.pointer (ptrAt (Al) ((0 : Int)).toNat)), .ex (.int .i64 (gi (list) ((0 : Int)))), .ex (.bool (decide (gi list 0 ∈ gl next z)))] (by kernel_rfl) (by kernel_rfl) rfl (lx (lx (lx (lx (lx (lx (lx (lx (fun _ h => by cases h))))))))) ⟨?_, ?_, ?_, ?_, ?_, ?_, ?_, ?_, trivial⟩ ?_
  ·intro e1 w1 hb hp hun
   refine Ops.ms rfl rfl rfl (Ops.n (d0 (by exact rfl)))
  ·intro e1 w1 hb hp hun
   refine Ops.mi rfl rfl rfl (Ops.n (d0 (by exact rfl)))
  ·intro e1 w1 hb hp hun
   refine Ops.idx (hN.top.later hb).2 rfl rfl rfl (by omega) (by omega) (Ops.n (d0 (by exact rfl)))
  ·intro e1 w1 hb hp hun
   refine Ops.ld_sl (hN.top.later hb) rfl (by omega) rfl rfl (Ops.n (d0 (by exact rfl)))
  ·intro e1 w1 hb hp hun
   refine Ops.ms rfl rfl rfl (Ops.n (d0 (by exact rfl)))
  ·intro e1 w1 hb hp hun
   refine Ops.idx (hL.later hb).2 rfl rfl rfl (by omega) (by omega) (Ops.n (d0 (by exact rfl)))
  ·intro e1 w1 hb hp hun
   refine Ops.ld_int (hL.later hb) rfl (by omega) rfl rfl (Ops.n (d0 (by exact rfl)))
  ·intro e1 w1 hb hp hun
   refine Ops.call (l01Has_c _ _ _ _ _ _ (hrow.later hb) (by omega)) rfl rfl rfl ?_
   rintro _ w2 ⟨rfl, hst⟩
   subst hst
   refine Ops.n (d0 (by exact rfl))
  intro u w1 hb1 _
  refine tQ ?_
  refine Cd.cond_p _ rfl (fun h2 => ?_) (fun h2 => ?_)
  ·refine Cd.seq (Cd.region (Ops.ms rfl rfl rfl (Ops.ms rfl rfl rfl (Ops.n (tQ (Cd.ret (thenQ_r (thenQ_r (ret1_s rfl ?_)))))))))
   rw [hham, if_pos (by omega), if_pos ⟨hp0, h2⟩]
   exact .inr ⟨rfl, rfl, List.ne_nil_of_length_pos hp0, (St.refl w).later hb1⟩
  ·refine Cd.skip (tQ (Cd.seq (Cd.region (Ops.ms rfl rfl rfl (Ops.n (tQ (Cd.ret (thenQ_r (ret1_s rfl ?_)))))))))
   rw [hham, if_pos (by omega), if_neg (fun h => h2 h.2)]
   exact .inl (.inl ⟨rfl, rfl, (St.refl w).later hb1⟩)
 ·have hham2 : ham 0 next (f + 1) list = hamF (ham 0 next f) list ((gl next z).drop 0) := by rw [hham, if_neg (by omega)]; rfl
  refine Cd.skip (tQ (Cd.seq (Cd.seq (Cd.region (Ops.mi rfl rfl rfl (Ops.n (tQ (Cd.block ?_))))))))
  refine Cd.loop (α := Nat) (fun k => [(0, .slice A N c), (1, .slice Al list.length cl), (5, .int .i64 z), (6, .int .i64 (k : Int))]) (fun k w' => St w w' [] ∧ k ≤ (gl next z).length ∧ ham 0 next (f + 1) list = hamF (ham 0 next f) list ((gl next z).drop k)) (fun k => (gl next z).length - k) 0 ⟨rfl, rfl, rfl, rfl, trivial⟩ ⟨St.refl w, Nat.zero_le _, hham2⟩ ?_
  rintro k e w2 ⟨hS2, hk, hH⟩
  have hN2 := hS2.oldRows hN
  have hL2 := hS2.oldI hL
  have hrow2 := hS2.oldI hrow
  refine Cd.seq (Cd.seq (Cd.region (Ops.mi rfl rfl rfl (Ops.ms rfl rfl rfl (Ops.mi rfl rfl rfl (Ops.idx hN2.top.2 rfl rfl rfl hla0 (by omega) (Ops.ld_sl hN2.top rfl (by omega) rfl rfl (Ops.len rfl rfl (Ops.lss rfl rfl rfl ?_)))))))))
  refine Ops.n (tQ ?_)
  refine Cd.cond_p _ rfl (fun h2 => ?_) (fun h2 => ?_)
  ·have hk' : k < (gl next z).length := by omega
   have hv := hgr.1 (gi (gl next z) (k : Int)) (gi_in hk')
   rw [hamF_drop hk'] at hH
   refine Cd.skip (tQ (Cd.seq (Cd.block (Cd.seq (Cd.region (Ops.ms rfl rfl rfl (Ops.mi rfl rfl rfl (Ops.idx hN2.top.2 rfl rfl rfl hla0 (by omega) (Ops.ld_sl hN2.top rfl (by omega) rfl rfl ?_)))))))))
   refine Ops.mi rfl rfl rfl (Ops.idx hrow2.2 rfl rfl rfl (by omega) (by omega) (Ops.ld_int hrow2 rfl (by omega) rfl rfl ?_))
   generalize hve : gi (gl next z) (k : Int) = v at *
   refine Ops.mi rfl rfl rfl (Ops.n (tQ (Cd.seq (Cd.region (Ops.ms rfl rfl rfl (Ops.mi rfl rfl rfl (Ops.call (l01Has_c Al _ _ list v _ hL2 (by omega)) rfl rfl rfl ?_)))))))
   rintro _ w2 ⟨rfl, rfl⟩
   first | refine Ops.not_p rfl rfl ?_ | refine Ops.not rfl rfl ?_
   refine Ops.n (tQ ?_)
   refine Cd.cond_p _ rfl (fun h3 => ?_) (fun h3 => ?_)
   ·refine Cd.seq (Cd.region (Ops.ms rfl rfl rfl (Ops.ms rfl rfl rfl (Ops.call (l01Own_c Al _ cl list _ hL2 (by omega)) rfl rfl rfl ?_))))
    rintro _ w3 ⟨A3, c3, rfl, hst3⟩
    have hS3 := hS2.call hst3
    refine Ops.mi rfl rfl rfl (Ops.bs1I hS3 rfl rfl rfl ?_)
    intro A4 w4 hS4
    refine Ops.appI 1 hS4 rfl (hS4.rdI 0 rfl) rfl rfl rfl (by omega) (by omega) rfl ?_
    intro A5 c5 w5 hS5
    have hS5 : St w w5 [CkI 2 A5 (list ++ [v]).length c5 (list ++ [v])] := by
     rw [List.length_append, List.length_singleton]
     exact (hS5.tail).sub (List.Sublist.refl _)
    have hp5 := hp.more hv.1 hv.2 (by omega)
    refine Ops.call (ih (list ++ [v]) (by rw [List.length_append, List.length_singleton]; omega) hp5 A c rs A5 c5 _ (hS5.oldRows hN) (hS5.rdI 0 rfl)) rfl (by rw [List.length_append, List.length_singleton]; rfl) rfl ?_
    intro r6 w6 hr6
    obtain ⟨A6, c6, rfl, hnone, hS6⟩ := (hr6.own hS5).open_
    refine Ops.ms rfl rfl rfl (Ops.n (tQ (Cd.seq (Cd.region (Ops.ms rfl rfl rfl (Ops.len rfl rfl (Ops.gtr rfl rfl rfl (Ops.n (tQ ?_)))))))))
    refine Cd.cond_p _ rfl (fun h4 => ?_) (fun h4 => ?_)
    ·have hne : ham 0 next f (list ++ [v]) ≠ [] := List.ne_nil_of_length_pos (by omega)
     rw [if_pos ⟨h3, hne⟩] at hH
     refine Cd.seq (Cd.region (Ops.ms rfl rfl rfl (Ops.ms rfl rfl rfl (Ops.n (tQ (Cd.ret (blockQ_r (thenQ_r (thenQ_r ?_)))))))))
     refine blockQ_r (thenQ_r (ret1_s rfl ?_))
     rw [hH]
     exact .inl (.inr ⟨A6, c6, rfl, hne, hS6⟩)
    ·have hnil : ham 0 next f (list ++ [v]) = [] := List.eq_nil_of_length_eq_zero (by omega)
     rw [if_neg (fun h => h.2 hnil)] at hH
     refine Cd.skip (blockQ_n (tQ (Cd.region (Ops.mi rfl rfl rfl (Ops.add rfl rfl rfl (by omega) (Ops.mi rfl rfl rfl (Ops.n (tQ ?_))))))))
     exact ⟨k + 1, by show (gl next z).length - (k + 1) < (gl next z).length - k; omega, ⟨rfl, rfl, rfl, rfl, trivial⟩, hS6.none, by omega, hH⟩
   ·rw [if_neg (fun h => h3 h.1)] at hH
    refine Cd.skip (blockQ_n (tQ (Cd.region (Ops.mi rfl rfl rfl (Ops.add rfl rfl rfl (by omega) (Ops.mi rfl rfl rfl (Ops.n (tQ ?_))))))))
    exact ⟨k + 1, by show (gl next z).length - (k + 1) < (gl next z).length - k; omega, ⟨rfl, rfl, rfl, rfl, trivial⟩, hS2, by omega, hH⟩
  ·refine Cd.exit (thenQ_x (thenQ_x (blockQ_x (tQ (Cd.seq (Cd.region (Ops.ms rfl rfl rfl (Ops.n (tQ ?_)))))))))
   refine Cd.ret (ret1_s rfl ?_)
   have hke : k = (gl next z).length := by omega
   rw [hH, hke, List.drop_length]
   exact .inl (.inl ⟨rfl, rfl, hS2.none⟩)

theorem hamiltonian_c (N : Nat) (next : List (List Int)) (hg : Gr N next) : ∀ (f : Nat) (list : List Int), list.length + f = N + 1 → PathI N list → ∀ (A : Option Addr) (c : Nat) (rs : List SlV) (Al : Option Addr) (cl : Nat) (w : World), RowsI w A N rs next → RdI w Al list.length list →
  Ret Tryz.prog 22 [.slice A N c, .slice Al list.length cl] w (HamR w Al cl list (ham 2 next f list)) := by
 intro f
 induction f with
 | zero => intro list hf hp; have := hp.2.1; omega
 | succ f ih =>
 intro list hf hp A c rs Al cl w hN hL
 have hl := hg.len
 have hsm := hg.small
 have hp0 := hp.1
 have hpN := hp.2.1
 obtain ⟨hla0, hla1⟩ := hp.last
 have hla : gi list ((list.length : Int) - 1) = lastI list := rfl
 have hrow := hN.at_ hla0 (by omega)
 have hrn := hN.rowLen hla0 (by omega)
 have hgr := hg.row _ hla0
 have hham : ham 2 next (f + 1) list = if list.length = next.length then (if 2 < list.length ∧ gi list 0 ∈ gl next (lastI list) then list else []) else hamF (ham 2 next f) list (gl next (lastI list)) := rfl
 generalize hlast : lastI list = z at *
 refine Ret.of_cd Tryz.func22 rfl Tryz.ntmps22 rfl (post1 rfl) (Cd.seq (Cd.region (Ops.ms rfl rfl rfl (Ops.n (tQ (Cd.seq (Cd.region (Ops.ms rfl rfl rfl (Ops.ms rfl rfl rfl ?_)))))))))
 refine Ops.len rfl rfl (Ops.sub rfl rfl rfl (by omega) (Ops.idx hL.2 rfl rfl rfl (by omega) (by omega) (Ops.ld_int hL rfl (by omega) rfl rfl ?_)))
 rw [hla]
 refine Ops.mi rfl rfl rfl (Ops.n (tQ (Cd.seq (Cd.seq (Cd.region (Ops.ms rfl rfl rfl (Ops.len rfl rfl (Ops.ms rfl rfl rfl (Ops.len rfl rfl ?_)))))))))
 refine Ops.eql rfl rfl rfl (Ops.n (tQ ?_))
 refine Cd.cond_p _ rfl (fun h1 => ?_) (fun h1 => ?_)
 ·have hhz : ham 2 next (f + 1) list = if 2 < list.length ∧ gi list 0 ∈ gl next z then list else [] := by rw [hham, if_pos (by omega)]
  by_cases h5 : (list.length : Int) > 2 --dup 2
  ·refine Cd.seq (Cd.seq ?_)
   refine Cd.draw [.ex (.slice (Al) (list.length) (cl)), .ex (.int .i64 (((list.length : Nat) : Int))), .ex (.bool (decide (((2 : Int)) < (((list.length : Nat) : Int))))), .ex (.bool (true)), .ex (.slice (A) (N) (c)), .ex (.int .i64 (z)), .ex (.pointer (ptrAt (A) (z).toNat)), .ex (.slice ((rg (rs) (z)).a) ((rg (rs) (z)).n) ((rg (rs) (z)).c)), .ex (.slice (Al) (list.length) (cl)), .ex (.pointer (ptrAt (Al) ((0 : Int)).toNat)), .ex (.int .i64 (gi (list) ((0 : Int)))), .ex (.bool (decide (gi list 0 ∈ gl next z))), .ex (.bool (decide (gi list 0 ∈ gl next z)))] (by kernel_rfl) (by kernel_rfl) rfl (lx (lx (lx (lx (lx (lx (lx (lx (lx (lx (lx (lx (lx (fun _ h => by cases h)))))))))))))) ⟨?_, ?_, ?_, ?_, ?_, ?_, ?_, ?_, ?_, ?_, ?_, ?_, ?_, trivial⟩ ?_
   ·intro e1 w1 hb hp hun
    refine Ops.ms rfl rfl rfl (Ops.n (d0 (by exact rfl)))
   ·intro e1 w1 hb hp hun
    refine Ops.len rfl rfl (Ops.n (d0 (by exact rfl)))
   ·intro e1 w1 hb hp hun
    refine Ops.gtr rfl rfl rfl (Ops.n (d0 (by exact rfl)))
   ·intro e1 w1 hb hp hun
    refine Ops.mb rfl rfl rfl (Ops.n ?_)
    exact d0 (by exact congrArg Value.bool (decide_eq_true h5))
   ·intro e1 w1 hb hp hun
    refine Ops.g rfl rfl rfl (Ops.ms rfl rfl rfl (Ops.n (d0 (by exact rfl))))
   ·intro e1 w1 hb hp hun
    refine Ops.g rfl rfl rfl (Ops.mi rfl rfl rfl (Ops.n (d0 (by exact rfl))))
   ·intro e1 w1 hb hp hun
    refine Ops.g rfl rfl rfl (Ops.idx (hN.top.later hb).2 rfl rfl rfl (by omega) (by omega) (Ops.n (d0 (by exact rfl))))
   ·intro e1 w1 hb hp hun
    refine Ops.g rfl rfl rfl (Ops.ld_sl (hN.top.later hb) rfl (by omega) rfl rfl (Ops.n (d0 (by exact rfl))))
   ·intro e1 w1 hb hp hun
    refine Ops.g rfl rfl rfl (Ops.ms rfl rfl rfl (Ops.n (d0 (by exact rfl))))
   ·intro e1 w1 hb hp hun
    refine Ops.g rfl rfl rfl (Ops.idx (hL.later hb).2 rfl rfl rfl (by omega) (by omega) (Ops.n (d0 (by exact rfl))))
   ·intro e1 w1 hb hp hun
    refine Ops.g rfl rfl rfl (Ops.ld_int (hL.later hb) rfl (by omega) rfl rfl (Ops.n (d0 (by exact rfl))))
   ·intro e1 w1 hb hp hun
    refine Ops.g rfl rfl rfl (Ops.call (Contains_c _ _ _ _ _ _ (hrow.later hb) (by omega)) rfl rfl rfl ?_)
    rintro _ w2 ⟨rfl, hst⟩
    subst hst
    refine Ops.n (d0 (by exact rfl))
   ·intro e1 w1 hb hp hun
    refine Ops.pick_t rfl rfl rfl (Ops.n (d0 (by exact rfl)))
   intro u w1 hb1 _
   refine tQ ?_
   refine Cd.cond_p _ rfl (fun h2 => ?_) (fun h2 => ?_)
   ·refine Cd.seq (Cd.region (Ops.ms rfl rfl rfl (Ops.ms rfl rfl rfl (Ops.n (tQ (Cd.ret (thenQ_r (thenQ_r (ret1_s rfl ?_)))))))))
    rw [hhz, if_pos ⟨by omega, h2⟩]
    exact .inr ⟨rfl, rfl, List.ne_nil_of_length_pos hp0, (St.refl w).later hb1⟩
   ·refine Cd.skip (tQ (Cd.seq (Cd.region (Ops.ms rfl rfl rfl (Ops.n (tQ (Cd.ret (thenQ_r (ret1_s rfl ?_)))))))))
    rw [hhz, if_neg (fun h => h2 h.2)]
    exact .inl (.inl ⟨rfl, rfl, (St.refl w).later hb1⟩)
  ·refine Cd.seq (Cd.seq ?_)
   refine Cd.draw [.ex (.slice (Al) (list.length) (cl)), .ex (.int .i64 (((list.length : Nat) : Int))), .ex (.bool (decide (((2 : Int)) < (((list.length : Nat) : Int))))), .ex (.bool (false)), .ex (undef), .ex (undef), .ex (undef), .ex (undef), .ex (undef), .ex (undef), .ex (undef), .ex (undef), .ex (.bool (false))] (by kernel_rfl) (by kernel_rfl) rfl (lx (lx (lx (lx (lx (lx (lx (lx (lx (lx (lx (lx (lx (fun _ h => by cases h)))))))))))))) ⟨?_, ?_, ?_, ?_, ?_, ?_, ?_, ?_, ?_, ?_, ?_, ?_, ?_, trivial⟩ ?_
   ·intro e1 w1 hb hp hun
    refine Ops.ms rfl rfl rfl (Ops.n (d0 (by exact rfl)))
   ·intro e1 w1 hb hp hun
    refine Ops.len rfl rfl (Ops.n (d0 (by exact rfl)))
   ·intro e1 w1 hb hp hun
    refine Ops.gtr rfl rfl rfl (Ops.n (d0 (by exact rfl)))
   ·intro e1 w1 hb hp hun
    refine Ops.mb rfl rfl rfl (Ops.n ?_)
    exact d0 (by exact congrArg Value.bool (decide_eq_false h5))
   ·intro e1 w1 hb hp hun
    refine Ops.k rfl rfl rfl rfl rfl (Ops.n (d0 (by exact rfl)))
   ·intro e1 w1 hb hp hun
    refine Ops.k rfl rfl rfl rfl rfl (Ops.n (d0 (by exact rfl)))
   ·intro e1 w1 hb hp hun
    refine Ops.k rfl rfl rfl rfl rfl (Ops.n (d0 (by exact rfl)))
   ·intro e1 w1 hb hp hun
    refine Ops.k rfl rfl rfl rfl rfl (Ops.n (d0 (by exact rfl)))
   ·intro e1 w1 hb hp hun
    refine Ops.k rfl rfl rfl rfl rfl (Ops.n (d0 (by exact rfl)))
   ·intro e1 w1 hb hp hun
    refine Ops.k rfl rfl rfl rfl rfl (Ops.n (d0 (by exact rfl)))
   ·intro e1 w1 hb hp hun
    refine Ops.k rfl rfl rfl rfl rfl (Ops.n (d0 (by exact rfl)))
   ·intro e1 w1 hb hp hun
    refine Ops.k rfl rfl rfl rfl rfl (Ops.n (d0 (by exact rfl)))
   ·intro e1 w1 hb hp hun
    refine Ops.pick_f rfl rfl rfl (Ops.n (d0 (by exact rfl)))
   intro u w1 hb1 _
   refine tQ (Cd.cond_f rfl (Cd.skip (tQ (Cd.seq (Cd.region (Ops.ms rfl rfl rfl (Ops.n (tQ (Cd.ret ?_)))))))))
   refine thenQ_r (ret1_s rfl ?_)
   rw [hhz, if_neg (fun h => h5 (by omega))]
   exact .inl (.inl ⟨rfl, rfl, (St.refl w).later hb1⟩)
 ·have hham2 : ham 2 next (f + 1) list = hamF (ham 2 next f) list ((gl next z).drop 0) := by rw [hham, if_neg (by omega)]; rfl
  refine Cd.skip (tQ (Cd.seq (Cd.seq (Cd.region (Ops.ms rfl rfl rfl (Ops.mi rfl rfl rfl (Ops.idx hN.top.2 rfl rfl rfl hla0 (by omega) (Ops.ld_sl hN.top rfl (by omega) rfl rfl (Ops.len rfl rfl ?_)))))))))
  refine Ops.mi rfl rfl rfl (Ops.n (tQ (Cd.block ?_)))
  refine Cd.loop (α := Nat) (fun k => [(0, .slice A N c), (1, .slice Al list.length cl), (37, .slice (rg rs z).a (rg rs z).n (rg rs z).c), (38, .int .i64 ((rg rs z).n : Int)), (39, .int .i64 (k : Int))]) (fun k w' => St w w' [] ∧ k ≤ (gl next z).length ∧ ham 2 next (f + 1) list = hamF (ham 2 next f) list ((gl next z).drop k)) (fun k => (gl next z).length - k) 0 ⟨rfl, rfl, rfl, rfl, rfl, trivial⟩ ⟨St.refl w, Nat.zero_le _, hham2⟩ ?_
  rintro k e w2 ⟨hS2, hk, hH⟩
  have hN2 := hS2.oldRows hN
  have hL2 := hS2.oldI hL
  have hrow2 := hS2.oldI hrow
  refine Cd.seq (Cd.region (Ops.lss rfl rfl rfl (Ops.n (tQ (Cd.seq ?_)))))
  refine Cd.cond_p _ rfl (fun h2 => ?_) (fun h2 => ?_)
  ·have hk' : k < (gl next z).length := by omega
   have hv := hgr.1 (gi (gl next z) (k : Int)) (gi_in hk')
   rw [hamF_drop hk'] at hH
   refine Cd.skip (tQ (Cd.seq (Cd.block (Cd.seq (Cd.region (Ops.idx hrow2.2 rfl rfl rfl (by omega) (by omega) (Ops.ld_int hrow2 rfl (by omega) rfl rfl ?_)))))))
   generalize hve : gi (gl next z) (k : Int) = v at *
   refine Ops.mi rfl rfl rfl (Ops.n (tQ (Cd.seq (Cd.region (Ops.ms rfl rfl rfl (Ops.mi rfl rfl rfl (Ops.call (Contains_c Al _ _ list v _ hL2 (by omega)) rfl rfl rfl ?_)))))))
   rintro _ w2 ⟨rfl, rfl⟩
   first | refine Ops.not_p rfl rfl ?_ | refine Ops.not rfl rfl ?_
   refine Ops.n (tQ ?_)
   refine Cd.cond_p _ rfl (fun h3 => ?_) (fun h3 => ?_)
   ·refine Cd.seq (Cd.region (Ops.ms rfl rfl rfl (Ops.ms rfl rfl rfl (Ops.call (Clone_c Al _ cl list _ hL2 (by omega)) rfl rfl rfl ?_))))
    rintro _ w3 ⟨A3, c3, rfl, hst3⟩
    have hS3 := hS2.call hst3
    refine Ops.mi rfl rfl rfl (Ops.bs1I hS3 rfl rfl rfl ?_)
    intro A4 w4 hS4
    refine Ops.appI 1 hS4 rfl (hS4.rdI 0 rfl) rfl rfl rfl (by omega) (by omega) rfl ?_
    intro A5 c5 w5 hS5
    have hS5 : St w w5 [CkI 2 A5 (list ++ [v]).length c5 (list ++ [v])] := by
     rw [List.length_append, List.length_singleton]
     exact (hS5.tail).sub (List.Sublist.refl _)
    have hp5 := hp.more hv.1 hv.2 (by omega)
    refine Ops.call (ih (list ++ [v]) (by rw [List.length_append, List.length_singleton]; omega) hp5 A c rs A5 c5 _ (hS5.oldRows hN) (hS5.rdI 0 rfl)) rfl (by rw [List.length_append, List.length_singleton]; rfl) rfl ?_
    intro r6 w6 hr6
    obtain ⟨A6, c6, rfl, hnone, hS6⟩ := (hr6.own hS5).open_
    refine Ops.ms rfl rfl rfl (Ops.n (tQ (Cd.seq (Cd.region (Ops.ms rfl rfl rfl (Ops.neqNil rfl rfl rfl ?_))))))
    rw [hnone, ← decide_not]
    refine Ops.n (tQ ?_)
    refine Cd.cond_p _ rfl (fun hne => ?_) (fun hne => ?_)
    ·rw [if_pos ⟨h3, hne⟩] at hH
     refine Cd.seq (Cd.region (Ops.ms rfl rfl rfl (Ops.ms rfl rfl rfl (Ops.n (tQ (Cd.ret (blockQ_r (thenQ_r (thenQ_r ?_)))))))))
     refine blockQ_r (thenQ_r (ret1_s rfl ?_))
     rw [hH]
     exact .inl (.inr ⟨A6, c6, rfl, hne, hS6⟩)
    ·rw [if_neg (fun h => hne h.2)] at hH
     refine Cd.skip (blockQ_n (tQ (Cd.region (Ops.add rfl rfl rfl (by omega) (Ops.mi rfl rfl rfl (Ops.n (tQ ?_)))))))
     exact ⟨k + 1, by show (gl next z).length - (k + 1) < (gl next z).length - k; omega, ⟨rfl, rfl, rfl, rfl, rfl, trivial⟩, hS6.none, by omega, hH⟩
   ·rw [if_neg (fun h => h3 h.1)] at hH
    refine Cd.skip (blockQ_n (tQ (Cd.region (Ops.add rfl rfl rfl (by omega) (Ops.mi rfl rfl rfl (Ops.n (tQ ?_)))))))
    exact ⟨k + 1, by show (gl next z).length - (k + 1) < (gl next z).length - k; omega, ⟨rfl, rfl, rfl, rfl, rfl, trivial⟩, hS2, by omega, hH⟩
  ·refine Cd.exit (thenQ_x (thenQ_x (blockQ_x (tQ (Cd.seq (Cd.region (Ops.ms rfl rfl rfl (Ops.n (tQ ?_)))))))))
   refine Cd.ret (ret1_s rfl ?_)
   have hke : k = (gl next z).length := by omega
   rw [hH, hke, List.drop_length]
   exact .inl (.inl ⟨rfl, rfl, hS2.none⟩)

def hmC (xss : List (List Int)) : List Int := ham 2 (nbL xss) (vertsN xss) [0]
def hmK (xss : List (List Int)) : Int := if ¬ Grph xss then 1 else if 12 < vertsN xss then 3 else if hmC xss = [] then 4 else 0
def hmL (xss : List (List Int)) : List Int := if Grph xss ∧ ¬ 12 < vertsN xss then hmC xss else []
theorem hm_bd (xss : List (List Int)) : (hmL xss).length ≤ 1000 := by
 unfold hmL
 split
 ·rename_i h
  rcases ham_len (mn := 2) (next := nbL xss) (vertsN xss) [0] with h0 | h0
  ·rw [hmC, h0]; exact Nat.zero_le _
  ·rw [hmC, h0, nbL_len]; omega
 ·exact Nat.zero_le _

theorem specHamiltonianCycle_c (A : Option Addr) (n c : Nat) (rs : List SlV) (xss : List (List Int)) (w : World) (hR : RowsI w A n rs xss) (hn : n ≤ 9223372036854775807) :
  Ret Tryz.prog 7 [.agg #[.slice A n c]] w (AnsR (hmL xss) (hmK xss) w) := by
 refine Ret.of_cd Tryz.func7 rfl Tryz.ntmps7 rfl (post2 rfl) (Cd.seq (Cd.region (Ops.box1 (St.refl w) rfl rfl ?_)))
 intro Ab w1 hS1
 refine Ops.ms rfl rfl rfl (Ops.mi rfl rfl rfl (Ops.n (tQ (Cd.seq (Cd.seq (Cd.region (Ops.ld_agg 0 (hS1.rd 0 rfl) rfl rfl rfl (Ops.call (l18Is_c A n c rs xss _ (hS1.oldRows hR) hn) rfl rfl rfl ?_))))))))
 rintro _ w2 ⟨rfl, hst⟩
 have hS2 := hS1.later hst.below
 first | refine Ops.not_p rfl rfl ?_ | refine Ops.not rfl rfl ?_
 refine Ops.n (tQ ?_)
 refine Cd.cond_p _ rfl (fun h => ?_) (fun h => ?_)
 ·refine Cd.seq (Cd.region (Ops.ms rfl rfl rfl (Ops.mi rfl rfl rfl (Ops.n (tQ (Cd.ret (thenQ_r (ret2_si rfl rfl ?_))))))))
  rw [hmK, if_pos h, hmL, if_neg (fun h2 => h h2.1)]
  exact AnsR.none hS2
 ·have hG : Grph xss := Classical.not_not.1 h
  have hM := hG.1
  have hg := nb_gr hM
  have hsm := nb_small hM
  have hvp : 0 < vertsN xss := by
   have h0 := faces_in hM 0 0 (by have := hM.2.1; omega)
   unfold vertsN
   omega
  refine Cd.skip (tQ (Cd.seq (Cd.region (Ops.ld_agg 0 (hS2.rd 0 rfl) rfl rfl rfl (Ops.call (l18Neighbours_c A n c rs xss _ (hS2.oldRows hR) hG) rfl rfl rfl ?_)))))
  rintro _ w3 ⟨A3, rs3, rfl, hrl, hst3⟩
  have hN3 := hst3.rowsI (nbL_len xss)
  have hS3 := hS2.none.call hst3
  rw [List.append_nil] at hS3
  refine Ops.ms rfl rfl rfl (Ops.n (tQ (Cd.seq (Cd.seq (Cd.region (Ops.ms rfl rfl rfl (Ops.len rfl rfl (Ops.gtr rfl rfl rfl (Ops.n ?_)))))))))
  refine tQ ?_
  refine Cd.cond_p _ rfl (fun h2 => ?_) (fun h2 => ?_)
  ·refine Cd.seq (Cd.region (Ops.ms rfl rfl rfl (Ops.mi rfl rfl rfl (Ops.n (tQ (Cd.ret (thenQ_r (ret2_si rfl rfl ?_))))))))
   rw [hmK, if_neg h, if_pos (by omega), hmL, if_neg (fun h3 => h3.2 (by omega))]
   exact AnsR.none hS3
  ·have hK : hmK xss = if hmC xss = [] then 4 else 0 := by rw [hmK, if_neg h, if_neg (by omega)]
   have hLe : hmL xss = hmC xss := by rw [hmL, if_pos ⟨hG, by omega⟩]
   refine Cd.skip (tQ (Cd.seq (Cd.region (Ops.ms rfl rfl rfl (Ops.bs1I (St.refl w3) rfl rfl rfl ?_)))))
   intro A4 w4 hS4
   have hN4 := hS4.oldRows hN3
   refine Ops.call (l18Hamilton_c (vertsN xss) (nbL xss) hg (vertsN xss) [0] (by simp; omega) ⟨by simp, by simp; omega, fun x hx => by simp at hx; subst hx; omega⟩ A3 _ rs3 A4 1 _ hN4 (hS4.rdI 0 rfl)) rfl rfl rfl ?_
   intro r5 w5 hr5
   obtain ⟨A6, c6, rfl, hnone, hS6⟩ := (hr5.own hS4).open_
   have hS7 := hS3.none.call hS6
   rw [List.append_nil] at hS7
   have hboth := ham_both (next := nbL xss) (vertsN xss) [0]
   refine Ops.ms rfl rfl rfl (Ops.n (tQ (Cd.seq (Cd.seq (Cd.region (Ops.ms rfl rfl rfl (Ops.len rfl rfl (Ops.lss rfl rfl rfl (Ops.n ?_)))))))))
   refine tQ ?_
   refine Cd.cond_p _ rfl (fun h4 => ?_) (fun h4 => ?_)
   ·refine Cd.seq (Cd.region (Ops.ms rfl rfl rfl (Ops.mi rfl rfl rfl (Ops.n (tQ (Cd.ret (thenQ_r (ret2_si rfl rfl ?_))))))))
    rw [if_pos (by omega)] at hboth
    have hn : hmC xss = [] := hboth.symm
    rw [hK, hLe, hn, if_pos rfl]
    exact AnsR.none hS7
   ·refine Cd.skip (tQ (Cd.seq (Cd.region (Ops.ms rfl rfl rfl (Ops.ms rfl rfl rfl (Ops.mi rfl rfl rfl (Ops.n (tQ (Cd.ret ?_)))))))))
    refine ret2_si rfl rfl ?_
    rw [if_neg (by omega)] at hboth
    have hn : ham 0 (nbL xss) (vertsN xss) [0] = hmC xss := hboth
    rw [hn] at hS7 h4 ⊢
    rw [hK, hLe, if_neg (fun h5 => by rw [h5] at h4; exact h4 (by decide))]
    exact AnsR.mk rfl hS7

theorem implHamiltonianCycle_c (A : Option Addr) (n c : Nat) (rs : List SlV) (xss : List (List Int)) (w : World) (hR : RowsI w A n rs xss) (hn : n ≤ c) (hc : c ≤ 9223372036854775807) :
  Ret Tryz.prog 6 [.agg #[.slice A n c]] w (AnsR (hmL xss) (hmK xss) w) := by
 refine Ret.of_cd Tryz.func6 rfl Tryz.ntmps6 rfl (post2 rfl) (Cd.seq (Cd.region (Ops.box1 (St.refl w) rfl rfl ?_)))
 intro Ab w1 hS1
 refine Ops.ms rfl rfl rfl (Ops.mi rfl rfl rfl (Ops.n (tQ (Cd.seq (Cd.region (Ops.ld_agg 0 (hS1.rd 0 rfl) rfl rfl rfl (Ops.call (graphOf_c A n c rs xss none 0 0 [] _ (hS1.oldRows hR) hn hc RdI.nil (by omega)) rfl rfl rfl ?_)))))))
 rintro _ w3 ⟨A3, c3, rs3, rfl, hrl, hst3⟩
 have hS3 := hS1.later hst3.below
 rw [goK_nil] at *
 refine Ops.mv_tup rfl rfl rfl (Ops.extract rfl rfl rfl (Ops.extract rfl rfl rfl (Ops.ms rfl rfl rfl (Ops.mi rfl rfl rfl (Ops.n (tQ (Cd.seq (Cd.block (Cd.seq ?_)))))))))
 refine Cd.region (Ops.mi rfl rfl rfl (Ops.neq rfl rfl rfl (Ops.mb rfl rfl rfl (Ops.n (tQ ?_)))))
 refine Cd.cond_p _ rfl (fun h => ?_) (fun h => ?_)
 ·have hnG : ¬ Grph xss := fun hG => h (by rw [petrieK, if_pos hG])
  refine Cd.seq (Cd.region (Ops.mi rfl rfl rfl (Ops.ms rfl rfl rfl (Ops.mi rfl rfl rfl (Ops.n (tQ (Cd.ret (blockQ_r (thenQ_r ?_)))))))))
  refine ret2_si rfl rfl ?_
  rw [petrieK, if_neg hnG, hmK, if_pos hnG, hmL, if_neg (fun h2 => hnG h2.1)]
  exact AnsR.none hS3
 ·have hG : Grph xss := by
   apply Classical.byContradiction
   intro hG
   exact h (by rw [petrieK, if_neg hG]; decide)
  have hM := hG.1
  have hg := nb_gr hM
  have hsm := nb_small hM
  have hvp : 0 < vertsN xss := by
   have h0 := faces_in hM 0 0 (by have := hM.2.1; omega)
   unfold vertsN
   omega
  rw [goL_nil hG, nbL_len] at *
  have hN3 := hst3.rowsI (nbL_len xss)
  refine Cd.seq (Cd.region (Ops.ms rfl rfl rfl (Ops.len rfl rfl (Ops.gtr rfl rfl rfl (Ops.mb rfl rfl rfl (Ops.n (tQ ?_)))))))
  refine Cd.cond_p _ rfl (fun h2 => ?_) (fun h2 => ?_)
  ·refine Cd.seq (Cd.region (Ops.ms rfl rfl rfl (Ops.mi rfl rfl rfl (Ops.n (tQ (Cd.ret (blockQ_r (thenQ_r (ret2_si rfl rfl ?_)))))))))
   rw [hmK, if_neg (fun h => h hG), if_pos (by omega), hmL, if_neg (fun h3 => h3.2 (by omega))]
   exact AnsR.none hS3
  ·have hK : hmK xss = if hmC xss = [] then 4 else 0 := by rw [hmK, if_neg (fun h => h hG), if_neg (by omega)]
   have hLe : hmL xss = hmC xss := by rw [hmL, if_pos ⟨hG, by omega⟩]
   refine Cd.skip (blockQ_n (tQ (Cd.seq (Cd.region (Ops.ms rfl rfl rfl (Ops.bs1I (St.refl w3) rfl rfl rfl ?_))))))
   intro A4 w4 hS4
   refine Ops.call (hamiltonian_c (vertsN xss) (nbL xss) hg (vertsN xss) [0] (by simp; omega) ⟨by simp, by simp; omega, fun x hx => by simp at hx; subst hx; omega⟩ A3 _ rs3 A4 1 _ (hS4.oldRows hN3) (hS4.rdI 0 rfl)) rfl rfl rfl ?_
   intro r5 w5 hr5
   obtain ⟨A6, c6, rfl, hnone, hS6⟩ := (hr5.own hS4).open_
   have hS7 := hS3.none.call hS6
   rw [List.append_nil] at hS7
   change A6.isNone = decide (hmC xss = []) at hnone
   refine Ops.ms rfl rfl rfl (Ops.n (tQ (Cd.seq (Cd.seq (Cd.region (Ops.ms rfl rfl rfl (Ops.eqNil rfl rfl rfl ?_)))))))
   rw [hnone]
   refine Ops.n (tQ ?_)
   refine Cd.cond_p _ rfl (fun h4 => ?_) (fun h4 => ?_)
   ·refine Cd.seq (Cd.region (Ops.ms rfl rfl rfl (Ops.mi rfl rfl rfl (Ops.n (tQ (Cd.ret (thenQ_r (ret2_si rfl rfl ?_))))))))
    rw [hK, hLe, h4, if_pos rfl]
    exact AnsR.none hS7
   ·refine Cd.skip (tQ (Cd.seq (Cd.region (Ops.ms rfl rfl rfl (Ops.ms rfl rfl rfl (Ops.mi rfl rfl rfl (Ops.n (tQ (Cd.ret ?_)))))))))
    refine ret2_si rfl rfl ?_
    rw [hK, hLe, if_neg h4]
    exact AnsR.mk rfl hS7
end Go.Proofs.YtbhnfehcpnnjcaaGreatDoor.Vc
/-
 The library's IndexFunc and DeleteFunc at int64, by any predicate with a contract; a list less another one. Conditions: as each states them.
-/
namespace Go.Proofs.YtbhnfehcpnnjcaaGreatDoor.Vc
open Go.RowKit

theorem indexI_c (A : Option Addr) (n c : Nat) (xs : List Int) (G : FuncId) [hF : Fnc Tryz.prog G] (cv : List Value) (pd : Int → Bool) (w : World) (hR : RdI w A n xs) (hn : n ≤ 4000000000000)
    (hcall : ∀ (w' : World) (x : Int), Below w.heap.size w w' → x ∈ xs → Ret Tryz.prog G (.int .i64 x :: cv) w' (fun v w'' => v = .bool (pd x) ∧ St w' w'' [])) :
    Ret Tryz.prog 88 [.slice A n c, .func (.func G) #[] cv.toArray] w (fun v w' => (∃ i : Int, v = .int .i64 i ∧ ((i = -1 ∧ ∀ x ∈ xs, pd x = false) ∨ ∃ k : Nat, k < n ∧ i = k ∧ pd (gi xs k) = true ∧ ∀ j : Nat, j < k → pd (gi xs j) = false)) ∧ St w w' []) := by
  have hxl := hR.1
  refine Ret.of_cd Tryz.func88 rfl Tryz.ntmps88 rfl (post1 rfl) (Cd.seq (Cd.region (Ops.mi rfl rfl rfl (Ops.n (tQ (Cd.seq (Cd.seq (Cd.region (Ops.ms rfl rfl rfl ?_)))))))))
  refine Ops.len rfl rfl (Ops.mi rfl rfl rfl (Ops.n (tQ (Cd.block ?_))))
  refine Cd.loop (α := Nat) (fun k => [(0, .slice A n c), (1, .func (.func G) #[] cv.toArray), (7, .int .i64 (n : Int)), (8, .int .i64 (k : Int))]) (fun k w' => St w w' [] ∧ k ≤ n ∧ ∀ j : Nat, j < k → pd (gi xs j) = false) (fun k => n - k) 0 ⟨rfl, rfl, rfl, rfl, trivial⟩ ⟨St.refl w, Nat.zero_le _, fun j hj => by omega⟩ ?_
  rintro k e w1 ⟨hS, hk, hK⟩
  refine Cd.seq (Cd.region (Ops.lss rfl rfl rfl (Ops.n (tQ (Cd.seq ?_)))))
  refine Cd.cond_p _ rfl (fun h3 => ?_) (fun h3 => ?_)
  · have hk' : k < xs.length := by omega
    have hR1 := hR.later hS.below
    refine Cd.skip (tQ (Cd.seq (Cd.block (Cd.seq (Cd.region (Ops.mi rfl rfl rfl (Ops.mi rfl rfl rfl (Ops.n (tQ ?_)))))))))
    refine Cd.seq (Cd.region (Ops.mv_fn rfl rfl rfl (Ops.ms rfl rfl rfl (Ops.mi rfl rfl rfl (Ops.idx hR1.2 rfl rfl rfl (by omega) (by omega) (Ops.ld_int hR1 rfl (by omega) rfl rfl (Ops.call (hcall w1 (gi xs k) hS.below (gi_in hk')) rfl rfl rfl ?_)))))))
    rintro _ w2 ⟨rfl, hst⟩
    have hS2 := hS.later hst.below
    rw [show pd (gi xs k) = decide (pd (gi xs k) = true) by simp]
    refine Ops.n (tQ ?_)
    refine Cd.cond_p _ rfl (fun h4 => ?_) (fun h4 => ?_)
    · refine Cd.seq (Cd.region (Ops.mi rfl rfl rfl (Ops.mi rfl rfl rfl (Ops.n (tQ (Cd.ret (blockQ_r (thenQ_r (thenQ_r ?_)))))))))
      refine blockQ_r (thenQ_r (ret1_i rfl ?_))
      exact ⟨⟨(k : Int), rfl, .inr ⟨k, by omega, rfl, h4, hK⟩⟩, hS2⟩
    · refine Cd.skip (blockQ_n (tQ (Cd.region (Ops.add rfl rfl rfl (by omega) (Ops.mi rfl rfl rfl (Ops.n (tQ ?_)))))))
      refine ⟨k + 1, by show n - (k + 1) < n - k; omega, ⟨rfl, rfl, rfl, rfl, trivial⟩, hS2, by omega, fun j hj => ?_⟩
      by_cases ej : j = k
      · subst ej; simpa using h4
      · exact hK j (by omega)
  · refine Cd.exit (thenQ_x (thenQ_x (blockQ_x (tQ (Cd.seq (Cd.region (Ops.mi rfl rfl rfl (Ops.n (tQ ?_)))))))))
    refine Cd.ret (ret1_i rfl ?_)
    refine ⟨⟨-1, rfl, .inl ⟨rfl, fun x hx => ?_⟩⟩, hS⟩
    obtain ⟨j, hj, rfl⟩ := List.mem_iff_getElem.1 hx
    rw [← gi_mem hj]
    exact hK j (by omega)

theorem filter_take_succ {xs : List Int} {p : Int → Bool} {j : Nat} (hj : j < xs.length) : (xs.take (j + 1)).filter p = (xs.take j).filter p ++ (if p (gi xs j) = true then [gi xs j] else []) := by
 rw [take_succ_gi hj, List.filter_append]
 congr 1
 by_cases h : p (gi xs j) = true <;> simp [h]
theorem deleteI_c {w0 w : World} {ks : List Ck} (i : Nat) {t : TypeId} {A : Option Addr} {n c : Nat} {xs : List Int} (hS : St w0 w ks) (hk : ks[i]? = some (CkI t A n c xs)) (hn : n ≤ 4000000000000) (G : FuncId) [hF : Fnc Tryz.prog G] (cv : List Value) (pd : Int → Bool)
    (hcall : ∀ (w' : World) (L : List Int), St w0 w' (ks.set i (CkI t A n c L)) → ∀ x ∈ xs, Ret Tryz.prog G (.int .i64 x :: cv) w' (fun v w'' => v = .bool (pd x) ∧ St w' w'' [])) :
    Ret Tryz.prog 82 [.slice A n c, .func (.func G) #[] cv.toArray] w (fun v w' => v = .slice A (xs.filter fun x => !pd x).length c ∧ St w0 w' (ks.set i (CkI t A (xs.filter fun x => !pd x).length c (xs.filter fun x => !pd x)))) := by
  have hil : i < ks.length := (List.getElem?_eq_some_iff.1 hk).1
  have hxl : xs.length = n := hS.lenI i hk
  obtain ⟨h2, h3⟩ := hS.cap i hk
  have h2 : n ≤ c := h2
  have hid : ks.set i (CkI t A n c xs) = ks := set_id hk
  have hR := hS.rdI i hk
  have hSi : ∀ {w' : World}, St w0 w' ks → St w0 w' (ks.set i (CkI t A n c xs)) := fun h => by rw [hid]; exact h
  have get : ∀ l, (ks.set i l)[i]? = some l := fun l => by simp [hil]
  refine Ret.of_cd Tryz.func82 rfl Tryz.ntmps82 rfl (post1 rfl) (Cd.seq (Cd.region (Ops.ms rfl rfl rfl (Ops.n (tQ (Cd.seq (Cd.region (Ops.ms rfl rfl rfl (Ops.mv_fn rfl rfl rfl ?_)))))))))
  refine Ops.call (indexI_c A n c xs G cv pd _ hR hn (fun w' x hb hx => hcall w' xs (hSi (hS.later hb)) x hx)) rfl rfl rfl ?_
  rintro _ w1 ⟨⟨i0, rfl, hi0⟩, hst1⟩
  have hS1 := hS.later hst1.below
  refine Ops.mi rfl rfl rfl (Ops.n (tQ (Cd.seq (Cd.seq (Cd.region (Ops.mi rfl rfl rfl (Ops.eql rfl rfl rfl (Ops.n (tQ ?_)))))))))
  refine Cd.cond_p _ rfl (fun h5 => ?_) (fun h5 => ?_)
  · have hall : xs.filter (fun x => !pd x) = xs := by
      rw [List.filter_eq_self]
      rcases hi0 with ⟨_, h⟩ | ⟨k, _, e, _⟩
      · intro x hx; rw [h x hx]; rfl
      · omega
    refine Cd.seq (Cd.region (Ops.ms rfl rfl rfl (Ops.ms rfl rfl rfl (Ops.n (tQ (Cd.ret (thenQ_r (ret1_s rfl ?_))))))))
    rw [hall, hxl, hid]
    exact ⟨rfl, hS1⟩
  · obtain ⟨k0, hk0, rfl, hpk, hpl⟩ := hi0.resolve_left (fun h => h5 h.1)
    have hk00 : (xs.take k0).filter (fun x => !pd x) = xs.take k0 := by
      rw [List.filter_eq_self]
      intro x hx
      obtain ⟨j, hj, rfl⟩ := List.mem_iff_getElem.1 hx
      rw [List.length_take] at hj
      rw [List.getElem_take, ← gi_mem (show j < xs.length by omega), hpl j (by omega)]
      rfl
    have hk01 : (xs.take (k0 + 1)).filter (fun x => !pd x) = xs.take k0 := by
      rw [filter_take_succ (by omega), hk00, if_neg (by simp [hpk]), List.append_nil]
    refine Cd.skip (tQ (Cd.seq (Cd.seq (Cd.region (Ops.mi rfl rfl rfl (Ops.add rfl rfl rfl (by omega) (Ops.mi rfl rfl rfl (Ops.n (tQ ?_)))))))))
    refine Cd.block ?_
    refine Cd.loop (α := Nat × Nat × List Int) (fun z => [(0, .slice A n c), (1, .func (.func G) #[] cv.toArray), (5, .int .i64 (z.1 : Int)), (6, .int .i64 (z.2.1 : Int))])
      (fun z w' => St w0 w' (ks.set i (CkI t A n c z.2.2)) ∧ z.2.2.length = n ∧ z.1 < z.2.1 ∧ z.2.1 ≤ n ∧ z.2.2.take z.1 = (xs.take z.2.1).filter (fun x => !pd x) ∧ ∀ m, z.2.1 ≤ m → z.2.2[m]? = xs[m]?)
      (fun z => n - z.2.1) (k0, k0 + 1, xs) ⟨rfl, rfl, rfl, by show Value.int .i64 _ = .int .i64 _; congr 1, trivial⟩ ⟨hSi hS1, hxl, Nat.lt_succ_self _, hk0, hk01.symm, fun m _ => rfl⟩ ?_
    rintro ⟨a, j, L⟩ e w2 ⟨hS2, hLl, haj, hjn, hLt, hLr⟩
    dsimp only at hS2 hLl haj hjn hLt hLr ⊢
    refine Cd.seq (Cd.seq (Cd.region (Ops.mi rfl rfl rfl (Ops.ms rfl rfl rfl (Ops.len rfl rfl (Ops.lss rfl rfl rfl (Ops.n (tQ ?_))))))))
    refine Cd.cond_p _ rfl (fun h6 => ?_) (fun h6 => ?_)
    · have hj' : j < xs.length := by omega
      have hR2 := hS2.rdI i (get _)
      have hLj : gi L (j : Int) = gi xs (j : Int) := by simp only [gi, List.getD_eq_getElem?_getD, Int.toNat_natCast, hLr j (Nat.le_refl _)]
      refine Cd.skip (tQ (Cd.seq (Cd.block (Cd.seq (Cd.region (Ops.ms rfl rfl rfl (Ops.mi rfl rfl rfl (Ops.idx hR2.2 rfl rfl rfl (by omega) (by omega) (Ops.ld_int hR2 rfl (by omega) rfl rfl ?_)))))))))
      rw [hLj]
      refine Ops.mi rfl rfl rfl (Ops.n (tQ (Cd.seq (Cd.region (Ops.mv_fn rfl rfl rfl (Ops.mi rfl rfl rfl (Ops.call (hcall w2 L hS2 _ (gi_in hj')) rfl rfl rfl ?_)))))))
      rintro _ w3 ⟨rfl, hst3⟩
      have hS3 := hS2.later hst3.below
      rw [show pd (gi xs (j : Int)) = decide (pd (gi xs (j : Int)) = true) by simp]
      first | refine Ops.not_p rfl rfl ?_ | refine Ops.not rfl rfl ?_
      refine Ops.n (tQ ?_)
      refine Cd.cond_p _ rfl (fun h7 => ?_) (fun h7 => ?_)
      · have hpj : ¬ pd (gi xs (j : Int)) = true := h7
        refine Cd.seq (Cd.region (Ops.ms rfl rfl rfl (Ops.mi rfl rfl rfl (Ops.mi rfl rfl rfl (Ops.idx (hS3.rdI i (get _)).2 rfl rfl rfl (by omega) (by omega) ?_)))))
        skip
        refine Ops.st_int i hS3 (get _) rfl rfl (by omega) ?_
        intro w4 hS4
        rw [List.set_set] at hS4
        refine Ops.n (tQ (Cd.region (Ops.mi rfl rfl rfl (Ops.add rfl rfl rfl (by omega) (Ops.mi rfl rfl rfl (Ops.n (blockQ_n (tQ (Cd.region ?_)))))))))
        refine Ops.mi rfl rfl rfl (Ops.add rfl rfl rfl (by omega) (Ops.mi rfl rfl rfl (Ops.n (tQ ?_))))
        refine ⟨(a + 1, j + 1, L.set a (gi xs (j : Int))), by show n - (j + 1) < n - j; omega, ⟨rfl, rfl, rfl, rfl, trivial⟩, hS4, by show (L.set a _).length = n; rw [List.length_set]; exact hLl, by show a + 1 < j + 1; omega, by show j + 1 ≤ n; omega, ?_, fun m hm => ?_⟩
        · show (L.set a _).take (a + 1) = (xs.take (j + 1)).filter _
          rw [filter_take_succ hj', if_pos (by simp [hpj]), ← hLt, List.take_succ_eq_append_getElem (by rw [List.length_set]; omega), List.take_set_of_le (Nat.le_refl _), List.getElem_set_self]
        · show (L.set a _)[m]? = xs[m]?
          have hm : j + 1 ≤ m := hm
          rw [List.getElem?_set, if_neg (by omega)]
          exact hLr m (by omega)
      · have hpj : pd (gi xs (j : Int)) = true := Classical.not_not.1 h7
        refine Cd.skip (blockQ_n (tQ (Cd.region (Ops.mi rfl rfl rfl (Ops.add rfl rfl rfl (by omega) (Ops.mi rfl rfl rfl (Ops.n (tQ ?_))))))))
        exact ⟨(a, j + 1, L), by show n - (j + 1) < n - j; omega, ⟨rfl, rfl, rfl, rfl, trivial⟩, hS3, hLl, by show a < j + 1; omega, by show j + 1 ≤ n; omega, by show L.take a = (xs.take (j + 1)).filter _; rw [filter_take_succ hj', if_neg (by simp [hpj]), List.append_nil]; exact hLt, fun m hm => hLr m (by have hm : j + 1 ≤ m := hm; omega)⟩
    · have hje : j = n := by omega
      subst hje
      rw [show xs.take j = xs from List.take_of_length_le (by omega)] at hLt
      have hal : a = (xs.filter fun x => !pd x).length := by rw [← hLt, List.length_take]; omega
      refine Cd.exit (thenQ_x (thenQ_x (blockQ_x (tQ (Cd.seq (Cd.region (Ops.ms rfl rfl rfl (Ops.mi rfl rfl rfl (Ops.cut_l (A := A) (n := j) (c := c) (l := (a : Int)) rfl rfl rfl (by omega) ?_)))))))))
      skip
      refine Ops.clr i a hS2 (get _) (show a < j by omega) (by show j - _ = j - a; omega) rfl rfl rfl ?_
      intro w3 hS3
      rw [List.set_set] at hS3
      refine Ops.n (tQ (Cd.seq (Cd.region (Ops.ms rfl rfl rfl (Ops.mi rfl rfl rfl (Ops.cut_h (A := A) (n := j) (c := c) (h := (a : Int)) rfl rfl rfl (by omega) (Ops.ms rfl rfl rfl (Ops.n (tQ ?_)))))))))
      refine Cd.ret (ret1_s rfl ?_)
      rw [← hLt, List.length_take, Nat.min_eq_left (by omega)]
      refine ⟨rfl, ?_⟩
      have e9 : ({ CkI t A j c L with n := a, vs := (CkI t A j c L).vs.take a } : Ck) = CkI t A a c (L.take a) := by simp [CkI, List.map_take]
      rw [← e9]
      exact hS3

/-- a list less another one -/
def lessL (a b : List Int) : List Int := a.filter fun x => !decide (x ∈ b)
theorem lessOf1_c (x : Int) (Pb A : Option Addr) (n c : Nat) (b : List Int) (w : World) (hB : Rd w Pb 1 (fun _ => .slice A n c)) (hR : RdI w A n b) (hn : n ≤ 9223372036854775807) :
  Ret Tryz.prog 83 [.int .i64 x, .pointer Pb] w (fun v w' => v = .bool (decide (x ∈ b)) ∧ St w w' []) := by
 refine Ret.of_cd Tryz.func83 rfl Tryz.ntmps83 rfl (post1 rfl) (Cd.seq (Cd.region (Ops.mb rfl rfl rfl (Ops.n (tQ (Cd.seq (Cd.region (Ops.ld hB (j := 0) (by exact congrArg Value.pointer (ptrAt_zero Pb).symm) (by omega) rfl rfl rfl (Ops.mi rfl rfl rfl ?_)))))))))
 refine Ops.call (Contains_c A n c b x _ hR hn) rfl rfl rfl ?_
 rintro _ w ⟨rfl, rfl⟩
 refine Ops.mb rfl rfl rfl (Ops.n (tQ (Cd.ret (ret1_b rfl ?_))))
 exact ⟨rfl, St.refl _⟩
theorem lessOf_c (A : Option Addr) (n c : Nat) (a : List Int) (A' : Option Addr) (n' c' : Nat) (b : List Int) (w : World) (hA : RdI w A n a) (hB : RdI w A' n' b) (hn : n ≤ 1000000000) (hn' : n' ≤ 9223372036854775807) :
  Ret Tryz.prog 56 [.slice A n c, .slice A' n' c'] w (fun v w' => ∃ A2 c2, v = .slice A2 (lessL a b).length c2 ∧ St w w' [CkI 2 A2 (lessL a b).length c2 (lessL a b)]) := by
 refine Ret.of_cd Tryz.func56 rfl Tryz.ntmps56 rfl (post1 rfl) (Cd.seq (Cd.region ?_))
 refine Ops.box (v := .slice A' n' c') (St.refl w) rfl rfl (by show (1 : Nat) ≤ maxLen; simp [maxLen]) ?_
 intro Pb w1 hS1
 have hS1 : St w w1 [⟨Pb, 1, 1, 28, [.slice A' n' c']⟩] := hS1
 refine Ops.ms rfl rfl rfl (Ops.n (tQ (Cd.seq (Cd.region (Ops.ms rfl rfl rfl (Ops.call (Clone_c A n c a _ (hS1.oldI hA) (by omega)) rfl rfl rfl ?_))))))
 rintro _ w2 ⟨A2, c2, rfl, hst2⟩
 have hS2 := hS1.call hst2
 skip
 refine Ops.fn1 rfl rfl ?_
 skip
 refine Ops.call (deleteI_c 0 hS2 rfl (by omega) 83 [.pointer Pb] (fun x => decide (x ∈ b)) (fun w' L hL x hx => lessOf1_c x Pb A' n' c' b w' ((hL.rd 1 rfl).congr fun j hj => by obtain rfl : j = 0 := by { have : j < 1 := hj; omega }; rfl) (hL.oldI hB) hn')) rfl rfl rfl ?_
 rintro _ w3 ⟨rfl, hS3⟩
 refine Ops.ms rfl rfl rfl (Ops.n (tQ (Cd.ret (ret1_s rfl ?_))))
 exact ⟨A2, c2, rfl, hS3.sub (List.Sublist.cons_cons _ (List.nil_sublist _))⟩
end Go.Proofs.YtbhnfehcpnnjcaaGreatDoor.Vc
/-
 As the statement whose order Go leaves open, with properties of two operations' values together. Conditions: as each rule names them.
-/
namespace Go.Proofs.YtbhnfehcpnnjcaaGreatDoor.Vc
open Go.RowKit

inductive Ye where
 | ex (v : Value)
 | pr (p : Value → World → Prop)
 | p2 (j : Nat) (p : Value → Value → World → Prop)
 | al (q : Value → Prop) (p : Value → World → Prop)
/-- the operations' values -/
def vl (l : List Oper) (e : Env) (k : Nat) : Value := match l[k]? with
 | some o => valOf o e
 | none => undef
def Ye.holds (uu : Nat → Value) : Ye → Value → World → Prop
 | .ex v, u, _ => u = v
 | .pr p, u, w => p u w
 | .p2 j p, u, w => p (uu j) u w
 | .al q p, u, w => q u ∧ p u w
def Ye.lasts : Ye → Prop
 | .ex _ => True
 | .pr p => ∀ v w w', p v w → Below w.heap.size w w' → p v w'
 | .p2 _ p => ∀ a v w w', p a v w → Below w.heap.size w w' → p a v w'
 | .al _ p => ∀ v w w', p v w → Below w.heap.size w w' → p v w'
theorem Ye.lasts_ex (v : Value) : (Ye.ex v).lasts := True.intro
theorem ly {v : Value} {l : List Ye} (h : ∀ y ∈ l, y.lasts) : ∀ y ∈ Ye.ex v :: l, y.lasts := List.forall_mem_cons.2 ⟨True.intro, h⟩
theorem Ye.lasts_pr {p : Value → World → Prop} (h : ∀ v w w', p v w → Below w.heap.size w w' → p v w') : (Ye.pr p).lasts := h
theorem Ye.lasts_p2 {j : Nat} {p : Value → Value → World → Prop} (h : ∀ a v w w', p a v w → Below w.heap.size w w' → p a v w') : (Ye.p2 j p).lasts := h
theorem Ye.lasts_al {q : Value → Prop} {p : Value → World → Prop} (h : ∀ v w w', p v w → Below w.heap.size w w' → p v w') : (Ye.al q p).lasts := h
def isExP : Ye → Bool
 | .ex _ => true
 | .pr _ => false
 | .p2 .. => false
 | .al .. => false
def drawOkP (N : Nat) (l : List Oper) (ys : List Ye) (ms : List Nat) : Bool :=
 l.all (fun o => match o.dst with | some d => Nat.blt d N | none => true) && decide ((dsl l).Nodup) && (l.zipIdx.all fun p => (aft p.1).all fun ed => Nat.blt ed.on p.2) && Nat.beq l.length ys.length && (l.zip ys).all (fun p => p.1.dst.isSome || !isExP p.2) && decide ms.Nodup && ms.all (fun m => Nat.blt m l.length) && (ys.zipIdx.all fun p => !(isExP p.1) || !(ms.contains p.2)) && (ys.zipIdx.all fun p => match p.1 with | .p2 j _ => ancOf l l.length p.2 j && Nat.blt j l.length | _ => true)
def Ye.at_ (c ph : Nat) (uu : Nat → Value) : Ye → Value → World → Prop
 | .ex v, u, _ => u = v
 | .pr p, u, w => c = ph → p u w
 | .p2 j p, u, w => c = ph → p (uu j) u w
 | .al q p, u, w => q u ∧ (c = ph → p u w)
def endFrP : List Oper → List Ye → (Nat → Value) → Nat → List (Nat × Value)
 | o :: l, y :: ys, u, i => match o.dst, y with
  | some d, .ex v => (d, v) :: endFrP l ys u (i + 1)
  | some d, .pr _ => (d, u i) :: endFrP l ys u (i + 1)
  | some d, .p2 .. => (d, u i) :: endFrP l ys u (i + 1)
  | some d, .al .. => (d, u i) :: endFrP l ys u (i + 1)
  | none, _ => endFrP l ys u (i + 1)
 | _, _, _, _ => []
def depFrP (l : List Oper) (ys : List Ye) : List Edge → List (Nat × Value)
 | [] => []
 | ed :: r => match ys[ed.on]?, (l[ed.on]?).bind (·.dst) with
  | some (.ex v), some d => (d, v) :: depFrP l ys r
  | _, _ => depFrP l ys r

section
variable {P : Program} {N : Nat} {e : Env} {w : World}
def AfterP (o : Oper) (y : Ye) (uu : Nat → Value) (e1 : Env) (w1 : World) : Env → World → Prop := fun e2 w2 => Below w1.heap.size w1 w2 ∧ y.holds uu (valOf o e2) w2 ∧ ∀ j, o.dst ≠ some j → e2 j = e1 j
def AfterU (o : Oper) (y : Ye) (uu : Nat → Value) (e1 : Env) : Env → World → Prop := fun e2 w2 => y.holds uu (valOf o e2) w2 ∧ ∀ j, o.dst ≠ some j → e2 j = e1 j
theorem AfterP.dn {o : Oper} {y : Ye} {uu : Nat → Value} {e1 : Env} {w1 w2 : World} {d : Nat} {v : Value} (hd : o.dst = some d) (hb : Below w1.heap.size w1 w2) (hv : y.holds uu v w2) : AfterP o y uu e1 w1 (upd e1 d v) w2 := by
 refine ⟨hb, ?_, fun j hj => upd_ne e1 v (fun h => hj (by rw [hd, h]))⟩
 unfold valOf; rw [hd]
 show y.holds uu (upd e1 d v d) w2
 rw [upd_at]; exact hv
theorem p0_ {o : Oper} {y : Ye} {uu : Nat → Value} {e1 : Env} {w1 : World} {d : Nat} {v : Value} (hd : o.dst = some d) (hv : y.holds uu v w1) : AfterP o y uu e1 w1 (upd e1 d v) w1 := AfterP.dn hd (Below.refl _ _) hv
theorem AfterU.dn {o : Oper} {y : Ye} {uu : Nat → Value} {e1 : Env} {w2 : World} {d : Nat} {v : Value} (hd : o.dst = some d) (hv : y.holds uu v w2) : AfterU o y uu e1 (upd e1 d v) w2 := by
 refine ⟨?_, fun j hj => upd_ne e1 v (fun h => hj (by rw [hd, h]))⟩
 unfold valOf; rw [hd]
 show y.holds uu (upd e1 d v d) w2
 rw [upd_at]; exact hv
theorem AfterU.st {o : Oper} {y : Ye} {uu : Nat → Value} {e1 : Env} {w2 : World} (hd : o.dst = none) (hv : y.holds uu undef w2) : AfterU o y uu e1 e1 w2 := by
 refine ⟨?_, fun j _ => rfl⟩
 unfold valOf; rw [hd]; exact hv

def StepP (P : Program) (N : Nat) (l : List Oper) (ys : List Ye) (ms : List Nat) (e : Env) (w : World) (i : Nat) (o : Oper) : Prop :=
  ∀ (e1 : Env) (w1 : World) (c : Nat), loOf l ms i ≤ c → c ≤ hiOf l ms i → (c = 0 → Below w.heap.size w w1) →
    (∀ (j : Nat) (y : Ye) (o' : Oper), ancOf l l.length i j = true → ys[j]? = some y → l[j]? = some o' → y.at_ c (phOf l ms j) (vl l e1) (valOf o' e1) w1) →
    (∀ (j : Nat) (o' : Oper), l[j]? = some o' → ancOf l l.length j i = true → valOf o' e1 = valOf o' e) →
    (∀ (m : Nat) (y : Ye) (o' : Oper), memb ms m = true → chainAt l ms m = true → phOf l ms m = c → ys[m]? = some y → l[m]? = some o' → y.at_ c (phOf l ms m) (vl l e1) (valOf o' e1) w1) →
    bif memb ms i then Ops P N l.toArray (AfterU o (ys.getD i (.pr fun _ _ => True)) (vl l e1) (ext (mix e1 e (dsl l)) (depFrP l ys (aft o)))) [o] (ext (mix e1 e (dsl l)) (depFrP l ys (aft o))) w1
    else Ops P N l.toArray (AfterP o (ys.getD i (.pr fun _ _ => True)) (vl l e1) (ext (mix e1 e (dsl l)) (depFrP l ys (aft o))) w1) [o] (ext (mix e1 e (dsl l)) (depFrP l ys (aft o))) w1
def StepsP (P : Program) (N : Nat) (l : List Oper) (ys : List Ye) (ms : List Nat) (e : Env) (w : World) : Nat → List Oper → Prop
 | _, [] => True
 | i, o :: r => StepP P N l ys ms e w i o ∧ StepsP P N l ys ms e w (i + 1) r
theorem StepsP.get {l : List Oper} {ys : List Ye} {ms : List Nat} : ∀ {r : List Oper} {i : Nat}, StepsP P N l ys ms e w i r → ∀ k o, r[k]? = some o → StepP P N l ys ms e w (i + k) o
 | [], _, _, k, o, hk => by simp at hk
 | x :: r, i, h, 0, o, hk => by simp at hk; subst hk; exact h.1
 | x :: r, i, h, k + 1, o, hk => by
  have := StepsP.get h.2 k o (by simpa using hk)
  rw [show i + 1 + k = i + (k + 1) by omega] at this
  exact this

theorem depFrP_mt {l : List Oper} {ys : List Ye} {e1 : Env} : ∀ (af : List Edge), (∀ ed ∈ af, ∀ (v : Value) (o' : Oper), ys[ed.on]? = some (.ex v) → l[ed.on]? = some o' → valOf o' e1 = v) → Mt e1 (depFrP l ys af)
 | [], _ => trivial
 | ed :: r, h => by
  have hr := depFrP_mt r (fun x hx => h x (List.mem_cons_of_mem _ hx))
  unfold depFrP
  split
  ·rename_i v d hy hd
   refine ⟨?_, hr⟩
   cases ho : l[ed.on]? with
   | none => rw [ho] at hd; cases hd
   | some o' =>
    rw [ho] at hd
    have hd' : o'.dst = some d := hd
    have := h ed (by simp) v o' hy ho
    unfold valOf at this
    rw [hd'] at this
    exact this
  ·exact hr

theorem endFrP_eq {e1 e : Env} : ∀ (l : List Oper) (ys : List Ye) (i : Nat), l.length = ys.length → (dsl l).Nodup → (∀ (k : Nat) (v : Value) (o : Oper), ys[k]? = some (.ex v) → l[k]? = some o → valOf o e1 = v ∨ o.dst = none) →
  ∃ u : Nat → Value, ext e (endFrP l ys u i) = mix e1 e (dsl l) ∧ (∀ (k : Nat) (o : Oper), l[k]? = some o → u (i + k) = valOf o e1)
 | [], [], i, _, _, _ => ⟨fun _ => undef, by funext j; rfl, fun k o h => by simp at h⟩
 | [], y :: ys, i, hl, _, _ => by simp at hl
 | o :: l, [], i, hl, _, _ => by simp at hl
 | o :: l, y :: ys, i, hl, hn, h => by
  have hn' : (dsl l).Nodup := by
   unfold dsl at hn ⊢
   rw [List.filterMap_cons] at hn
   split at hn
   ·exact hn
   ·exact (List.nodup_cons.1 hn).2
  obtain ⟨u, hu, hu2⟩ := endFrP_eq (e1 := e1) (e := e) l ys (i + 1) (by simpa using hl) hn' (fun k v o' hy ho => h (k + 1) v o' (by simpa using hy) (by simpa using ho))
  have cng : ∀ (l : List Oper) (ys : List Ye) (i : Nat) (u u' : Nat → Value), (∀ k, i ≤ k → u k = u' k) → endFrP l ys u i = endFrP l ys u' i := by
   intro l
   induction l with
   | nil => intros; rfl
   | cons o l ih =>
    intro ys i u u' hk
    cases ys with
    | nil => rfl
    | cons y ys =>
     have h1 := ih ys (i + 1) u u' (fun k hk' => hk k (by omega))
     simp only [endFrP]
     rw [h1, hk i (by omega)]
  have hc := cng l ys (i + 1) (fun k => if k = i then valOf o e1 else u k) u (fun k hk => by show (if k = i then _ else _) = _; rw [if_neg (by omega)])
  refine ⟨fun k => if k = i then valOf o e1 else u k, ?_, fun k o' hk => ?_⟩
  ·cases hd : o.dst with
   | none =>
    have e1' : dsl (o :: l) = dsl l := by unfold dsl; rw [List.filterMap_cons, hd]
    simp only [endFrP, hd, hc, hu, e1']
   | some d =>
    have e1' : dsl (o :: l) = d :: dsl l := by unfold dsl; rw [List.filterMap_cons, hd]
    have hval : valOf o e1 = e1 d := by unfold valOf; rw [hd]
    have hstep : ∀ v, v = e1 d → upd (mix e1 e (dsl l)) d v = mix e1 e (d :: dsl l) := by
     intro v hv
     funext j
     simp only [upd, mix, memb]
     cases hb : Nat.beq j d with
     | true => rw [Nat.eq_of_beq_eq_true hb, hv]; rfl
     | false => rfl
    rw [e1']
    cases y with
    | ex v =>
     have h0 := h 0 v o rfl rfl
     simp only [endFrP, hd, ext, hc, hu]
     refine hstep v ?_
     rcases h0 with h0 | h0
     ·rw [← h0, hval]
     ·rw [hd] at h0; cases h0
    | pr p =>
     simp only [endFrP, hd, ext, hc, hu, if_pos]
     exact hstep _ hval
    | p2 j p =>
     simp only [endFrP, hd, ext, hc, hu, if_pos]
     exact hstep _ hval
    | al q p =>
     simp only [endFrP, hd, ext, hc, hu, if_pos]
     exact hstep _ hval
  ·cases k with
   | zero => simp at hk; subst hk; simp
   | succ k =>
    have := hu2 k o' (by simpa using hk)
    show (if i + (k + 1) = i then _ else u (i + (k + 1))) = _
    rw [if_neg (by omega), ← this]; congr 1; omega


theorem Cd.drawP {id : Nat} {l : List Oper} {Q : Post} (ms : List Nat) (ys : List Ye) (hm : P.follows .mixedOrders = true) (hok : drawOkP N l ys ms = true) (hlasts : ∀ y ∈ ys, y.lasts)
    (hsteps : StepsP P N l ys ms e w 0 l) (hend : ∀ u w1, (ms = [] → Below w.heap.size w w1) → (∀ (k : Nat) (p : Value → World → Prop), ys[k]? = some (Ye.pr p) → phOf l ms k = ms.length → p (u k) w1) → (∀ (k j : Nat) (p : Value → Value → World → Prop), ys[k]? = some (Ye.p2 j p) → phOf l ms k = ms.length → p (u j) (u k) w1) → (∀ (k : Nat) (q : Value → Prop) (p : Value → World → Prop), ys[k]? = some (Ye.al q p) → q (u k) ∧ (phOf l ms k = ms.length → p (u k) w1)) → Q .normal (ext e (endFrP l ys u 0)) w1) : Cd P N (.region id l.toArray true) Q e w := .mk' fun a ha => by
  simp only [drawOkP, Bool.and_eq_true, List.all_eq_true, decide_eq_true_eq] at hok
  obtain ⟨⟨⟨⟨⟨⟨⟨⟨h1, h2⟩, h3⟩, hlen⟩, hnone⟩, hmn⟩, hml⟩, hmy⟩, hp2⟩ := hok
  have hp2' : ∀ (k j : Nat) (p : Value → Value → World → Prop), ys[k]? = some (.p2 j p) → ancOf l l.length k j = true ∧ j < l.length := by
    intro k j p hk
    have := hp2 (.p2 j p, k) (by rw [List.mem_iff_getElem?]; exact ⟨k, by simp [hk]⟩)
    simpa [Nat.blt_eq] using this
  have hlen' : l.length = ys.length := Nat.eq_of_beq_eq_true hlen
  have hback : ∀ (i : Nat) (o : Oper), l[i]? = some o → ∀ ed ∈ aft o, ed.on < i := by
    intro i o ho ed hed
    have := h3 (o, i) (by
      obtain ⟨hi, hio⟩ := List.getElem?_eq_some_iff.1 ho
      rw [List.mem_iff_getElem?]
      exact ⟨i, by simp [ho]⟩)
    simpa [Nat.blt_eq] using this ed hed
  have hdN : ∀ (i : Nat) (o : Oper) (d : Nat), l[i]? = some o → o.dst = some d → d < N := by
    intro i o d ho hd
    have := h1 o (List.mem_of_getElem? ho)
    rw [hd] at this
    simpa [Nat.blt_eq] using this
  have hexd : ∀ (i : Nat) (o : Oper) (v : Value), l[i]? = some o → ys[i]? = some (.ex v) → o.dst ≠ none := by
    intro i o v ho hy hd
    have := hnone (o, .ex v) (by
      rw [List.mem_iff_getElem?]
      exact ⟨i, by rw [List.getElem?_zip_eq_some]; exact ⟨ho, hy⟩⟩)
    simp [hd, isExP] at this
  refine wp_region_any hm ?_
  let cnt : Array Bool → Nat := fun listed => ms.countP fun m => listed.getD m false
  have key : ∀ (fuel : Nat) (listed : Array Bool) (a1 : Act) (e1 : Env) (w1 : World), Rep N a1 e1 → (cnt listed = 0 → Below w.heap.size w w1) → (∀ j, memb (dsl l) j = false → e1 j = e j) → listed.size = l.length →
      (∀ (i : Nat) (y : Ye) (o : Oper), listed.getD i false = true → ys[i]? = some y → l[i]? = some o → y.at_ (cnt listed) (phOf l ms i) (vl l e1) (valOf o e1) w1) → (∀ (i : Nat) (o : Oper), listed.getD i false = true → l[i]? = some o → ∀ ed ∈ aft o, listed.getD ed.on false = true) → (∀ (i : Nat) (o : Oper), listed.getD i false = false → l[i]? = some o → valOf o e1 = valOf o e) → (l.length - fuel ≤ (List.range l.length).countP fun i => listed.getD i false) →
      wpAny P .any l.toArray (low N Q) fuel listed a1 w1 := by
    have hfin : ∀ (listed : Array Bool) (a1 : Act) (e1 : Env) (w1 : World), Rep N a1 e1 → (cnt listed = 0 → Below w.heap.size w w1) → (∀ j, memb (dsl l) j = false → e1 j = e j) →
        (∀ (i : Nat) (y : Ye) (o : Oper), listed.getD i false = true → ys[i]? = some y → l[i]? = some o → y.at_ (cnt listed) (phOf l ms i) (vl l e1) (valOf o e1) w1) → (∀ i, i < l.length → listed.getD i false = true) → low N Q .normal a1 w1 := by
      intro listed a1 e1 w1 hr hb hag hS hall
      have hcnt : cnt listed = ms.length := by
        show ms.countP _ = ms.length
        rw [List.countP_eq_length]
        intro m hmm
        exact hall m (by simpa [Nat.blt_eq] using hml m hmm)
      obtain ⟨u, hu, hu2⟩ := endFrP_eq (e1 := e1) (e := e) l ys 0 hlen' h2 (fun k v o hy ho => .inl (hS k _ o (hall k (List.getElem?_eq_some_iff.1 ho).1) hy ho))
      refine ⟨e1, hr, ?_⟩
      have := hend u w1 (fun h0 => hb (by rw [hcnt, h0]; rfl)) (fun k p hk hph => by
        have hkl : k < l.length := by rw [hlen']; exact (List.getElem?_eq_some_iff.1 hk).1
        have h5 := hS k _ l[k] (hall k hkl) hk (List.getElem?_eq_getElem hkl)
        have h6 := hu2 k l[k] (List.getElem?_eq_getElem hkl)
        rw [Nat.zero_add] at h6
        rw [h6]; exact h5 (by rw [hcnt, hph])) (fun k j p hk hph => by
        have hkl : k < l.length := by rw [hlen']; exact (List.getElem?_eq_some_iff.1 hk).1
        have hj := hp2' k j p hk
        have h5 := hS k _ l[k] (hall k hkl) hk (List.getElem?_eq_getElem hkl)
        have h6 := hu2 k l[k] (List.getElem?_eq_getElem hkl)
        have h7 := hu2 j l[j] (List.getElem?_eq_getElem hj.2)
        rw [Nat.zero_add] at h6 h7
        have h8 : vl l e1 j = valOf l[j] e1 := by unfold vl; rw [List.getElem?_eq_getElem hj.2]
        rw [h6, h7, ← h8]; exact h5 (by rw [hcnt, hph])) (fun k q p hk => by
        have hkl : k < l.length := by rw [hlen']; exact (List.getElem?_eq_some_iff.1 hk).1
        have h5 := hS k _ l[k] (hall k hkl) hk (List.getElem?_eq_getElem hkl)
        have h6 := hu2 k l[k] (List.getElem?_eq_getElem hkl)
        rw [Nat.zero_add] at h6
        rw [h6]; exact ⟨h5.1, fun hph => h5.2 (by rw [hcnt, hph])⟩)
      rw [hu, mix_eq hag] at this
      exact this
    have hready : ∀ (listed : Array Bool), listed.size = l.length → Region.ready .any l.toArray listed = [] → ∀ i, i < l.length → listed.getD i false = true := by
      intro listed hsz hnil i
      induction i using Nat.strongRecOn with
      | _ i ih =>
        intro hi
        cases hli : listed.getD i false with
        | true => rfl
        | false =>
          exfalso
          have : i ∈ Region.ready .any l.toArray listed := by
            rw [mem_ready]
            refine ⟨?_, l[i], by simp [hi], fun ed hed hbd => ih ed.on (hback i _ (List.getElem?_eq_getElem hi) ed (mem_aft.2 ⟨hed, hbd⟩)) (by have := hback i _ (List.getElem?_eq_getElem hi) ed (mem_aft.2 ⟨hed, hbd⟩); omega)⟩
            rw [Array.getD_eq_getD_getElem?, Array.getElem?_eq_getElem (by omega)] at hli ⊢
            exact hli
          rw [hnil] at this
          cases this
    intro fuel
    induction fuel with
    | zero =>
      intro listed a1 e1 w1 hr hb hag hsz hS hcl hun0 hcnt
      have hall : ∀ i, i < l.length → listed.getD i false = true := by
        have h4 : (List.range l.length).countP (fun i => listed.getD i false) = (List.range l.length).length := by
          have := List.countP_le_length (p := fun i => listed.getD i false) (l := List.range l.length)
          simp at this hcnt ⊢; omega
        rw [List.countP_eq_length] at h4
        intro i hi
        exact h4 i (by simpa using hi)
      refine ⟨?_, hfin listed a1 e1 w1 hr hb hag hS hall⟩
      rw [List.eq_nil_iff_forall_not_mem]
      intro i hi
      obtain ⟨h5, o, ho, _⟩ := mem_ready.1 hi
      have hil : i < l.length := by
        rcases Nat.lt_or_ge i l.length with h | h
        · exact h
        · simp [List.getElem?_eq_none h] at ho
      have h6 := hall i hil
      rw [Array.getD_eq_getD_getElem?, Array.getElem?_eq_getElem (by omega)] at h5 h6
      simp at h5 h6
      rw [h5] at h6; cases h6
    | succ fuel ih =>
      intro listed a1 e1 w1 hr hb hag hsz hS hcl hun0 hcnt
      refine ⟨fun hnil => hfin listed a1 e1 w1 hr hb hag hS (hready listed hsz hnil), fun i hi => ?_⟩
      obtain ⟨hun, o, ho, haf⟩ := mem_ready.1 hi
      have ho' : l[i]? = some o := by simpa using ho
      have hil : i < l.length := (List.getElem?_eq_some_iff.1 ho').1
      have hrd : ∀ ed ∈ aft o, listed.getD ed.on false = true := fun ed hed => haf ed (mem_aft.1 hed).1 (mem_aft.1 hed).2
      have hun' : listed.getD i false = false := by
        have h5 := hun
        rw [Array.getD_eq_getD_getElem?, Array.getElem?_eq_getElem (by omega)] at h5 ⊢
        exact h5
      have hgs : ∀ k, (listed.setIfInBounds i true).getD k false = if k = i then true else listed.getD k false := by
        intro k
        rw [Array.getD_eq_getD_getElem?, Array.getElem?_setIfInBounds]
        by_cases hki : k = i
        · subst hki; rw [if_pos rfl, if_pos (by omega), if_pos rfl]; rfl
        · rw [if_neg (fun e => hki e.symm), if_neg hki, ← Array.getD_eq_getD_getElem?]
      have hlo : loOf l ms i ≤ cnt listed := countP_le_of fun m _ h => ancOf_ready hcl ho' hrd _ _ h
      have hhi : cnt listed ≤ hiOf l ms i := countP_le_of fun m _ h => by
        have hne : Nat.beq m i = false := by
          cases hb : Nat.beq m i with
          | false => rfl
          | true => rw [Nat.eq_of_beq_eq_true hb, hun'] at h; cases h
        have han : ancOf l l.length m i = false := by
          cases hb : ancOf l l.length m i with
          | false => rfl
          | true => have := ancOf_listed hcl _ _ _ hb h; rw [hun'] at this; cases this
        simp [hne, han]
      have hph : ∀ (j : Nat), listed.getD j false = true → phOf l ms j ≤ cnt listed := fun j hj => countP_le_of fun m _ h => by
        rw [Bool.or_eq_true] at h
        rcases h with h | h
        · rw [Nat.eq_of_beq_eq_true h]; exact hj
        · exact ancOf_listed hcl _ _ _ h hj
      have hst := hsteps.get i o ho' e1 w1 (cnt listed)
      rw [Nat.zero_add] at hst
      have hst := hst hlo hhi hb (fun j y o' han hy hoj => hS j y o' (ancOf_ready hcl ho' hrd _ _ han) hy hoj) (fun j o' hj han => by
        refine hun0 j o' ?_ hj
        cases hlj : listed.getD j false with
        | false => rfl
        | true => have := ancOf_listed hcl _ _ _ han hlj; rw [hun'] at this; cases this) (fun m y o' hm hch hphm hy hom => by
        refine hS m y o' ?_ hy hom
        cases hlm : listed.getD m false with
        | true => rfl
        | false =>
          exfalso
          have h8 := countP_one (fun k => listed.getD k false) (fun k => if k = m then true else listed.getD k false) m hlm (fun k => rfl) ms hmn (memb_iff.1 hm)
          have h9 : ms.countP (fun k => if k = m then true else listed.getD k false) ≤ phOf l ms m := countP_le_of fun m' hm' h => by
            by_cases e : m' = m
            · rw [e, Nat.beq_refl]; rfl
            · rw [if_neg e] at h
              simp only [chainAt, List.all_eq_true] at hch
              have h10 := hch m' hm'
              cases h11 : ancOf l l.length m m' with
              | true => rw [Bool.or_true]
              | false =>
                rw [h11, Bool.or_false, Bool.or_eq_true] at h10
                rcases h10 with h10 | h10
                · exact absurd (Nat.eq_of_beq_eq_true h10) e
                · have := ancOf_listed hcl _ _ _ h10 h
                  rw [hlm] at this; cases this
          have h12 : ms.countP (fun k => listed.getD k false) = cnt listed := rfl
          omega)
      rw [mix_eq hag, ext_of_mt (depFrP_mt (aft o) (fun ed hed v o' hy hoj => hS ed.on _ o' (hrd ed hed) hy hoj))] at hst
      let turns : Prop := memb ms i = true
      let KK : Env → World → Prop := fun e2 w2 => (memb ms i = false → Below w1.heap.size w1 w2) ∧ (ys.getD i (.pr fun _ _ => True)).holds (vl l e1) (valOf o e2) w2 ∧ ∀ j, o.dst ≠ some j → e2 j = e1 j
      have hwl' : ∃ K : Env → World → Prop, (∀ e2 w2, K e2 w2 → KK e2 w2) ∧ Ops P N l.toArray K [o] e1 w1 := by
        cases hmi : memb ms i with
        | true =>
          rw [hmi] at hst
          exact ⟨_, fun e2 w2 h => ⟨fun h0 => (by rw [hmi] at h0; cases h0), h.1, h.2⟩, hst⟩
        | false =>
          rw [hmi] at hst
          exact ⟨_, fun e2 w2 h => ⟨fun _ => h.1, h.2.1, h.2.2⟩, hst⟩
      obtain ⟨K, hKK, hst'⟩ := hwl'
      have hwl := hst'.run a1 hr
      have hcnt' : cnt (listed.setIfInBounds i true) = if memb ms i = true then cnt listed + 1 else cnt listed := by
        show ms.countP _ = _
        by_cases hmi : memb ms i = true
        · rw [if_pos hmi]
          exact countP_one (fun m => listed.getD m false) (fun m => (listed.setIfInBounds i true).getD m false) i hun' hgs ms hmn (memb_iff.1 hmi)
        · rw [if_neg hmi]
          refine List.countP_congr fun m hmm => ?_
          rw [hgs, if_neg (fun e => hmi (memb_iff.2 (by rw [← e]; exact hmm)))]
      have hnext : ∀ a2 w2, (∃ e2, Rep N a2 e2 ∧ K e2 w2) → wpAny P .any l.toArray (low N Q) fuel (listed.setIfInBounds i true) a2 w2 := by
        intro a2 w2 ⟨e2, hr2, hK2⟩
        obtain ⟨hbl, hy2, hag2⟩ := hKK _ _ hK2
        have hother : ∀ (k : Nat) (o' : Oper), l[k]? = some o' → k ≠ i → valOf o' e2 = valOf o' e1 := by
          intro k o' hok hki
          unfold valOf
          cases hd : o'.dst with
          | none => rfl
          | some d => exact hag2 d (fun h => hki (filterMap_inj _ l h2 k i o' o d hok ho' hd h))
        have hvl : ∀ j, j ≠ i → vl l e2 j = vl l e1 j := by
          intro j hj
          unfold vl
          cases hoj : l[j]? with
          | none => rfl
          | some o' => exact hother j o' hoj hj
        refine ih _ a2 e2 w2 hr2 (fun h0 => ?_) (fun j hj => ?_) (by simpa using hsz) (fun k y o' hk hy hok => ?_) (fun k o' hk hok ed hed => ?_) (fun k o' hk hok => ?_) ?_
        · rw [hcnt'] at h0
          by_cases hmi : memb ms i = true
          · rw [if_pos hmi] at h0; omega
          · rw [if_neg hmi] at h0
            have := hbl (by simpa using hmi)
            exact (hb h0).trans (this.mono (hb h0).size)
        · have hne : o.dst ≠ some j := by
            intro hd
            have : memb (dsl l) j = true := by rw [memb_iff]; exact List.mem_filterMap.2 ⟨o, List.mem_of_getElem? ho', hd⟩
            rw [this] at hj; cases hj
          rw [hag2 j hne]; exact hag j hj
        · by_cases hki : k = i
          · subst hki
            rw [ho'] at hok
            cases hok
            have : ys.getD k (.pr fun _ _ => True) = y := by simp [List.getD_eq_getElem?_getD, hy]
            rw [this] at hy2
            cases y with
            | ex v => exact hy2
            | pr p => exact fun _ => hy2
            | p2 j p =>
              have hj := hp2' k j p hy
              have hlj : listed.getD j false = true := ancOf_ready hcl ho' hrd _ _ hj.1
              have hji : j ≠ k := fun e => by rw [e, hun'] at hlj; cases hlj
              exact fun _ => by rw [hvl j hji]; exact hy2
            | al q p => exact ⟨hy2.1, fun _ => hy2.2⟩
          · have hk' : listed.getD k false = true := by rw [hgs, if_neg hki] at hk; exact hk
            have h7 := hS k y o' hk' hy hok
            rw [hother k o' hok hki]
            cases y with
            | ex v => exact h7
            | pr p =>
              intro hc
              rw [hcnt'] at hc
              by_cases hmi : memb ms i = true
              · rw [if_pos hmi] at hc
                have := hph k hk'
                omega
              · rw [if_neg hmi] at hc
                have hl := hlasts _ (List.mem_of_getElem? hy)
                exact hl _ _ _ (h7 hc) (hbl (by simpa using hmi))
            | p2 j p =>
              have hj := hp2' k j p hy
              have hlj : listed.getD j false = true := ancOf_listed hcl _ _ _ hj.1 hk'
              have hji : j ≠ i := fun e => by rw [e, hun'] at hlj; cases hlj
              intro hc
              rw [hvl j hji]
              rw [hcnt'] at hc
              by_cases hmi : memb ms i = true
              · rw [if_pos hmi] at hc
                have := hph k hk'
                omega
              · rw [if_neg hmi] at hc
                have hl := hlasts _ (List.mem_of_getElem? hy)
                exact hl _ _ _ _ (h7 hc) (hbl (by simpa using hmi))
            | al q p =>
              refine ⟨h7.1, fun hc => ?_⟩
              rw [hcnt'] at hc
              by_cases hmi : memb ms i = true
              · rw [if_pos hmi] at hc
                have := hph k hk'
                omega
              · rw [if_neg hmi] at hc
                have hl := hlasts _ (List.mem_of_getElem? hy)
                exact hl _ _ _ (h7.2 hc) (hbl (by simpa using hmi))
        · rw [hgs]
          by_cases hei : ed.on = i
          · rw [if_pos hei]
          · rw [if_neg hei]
            by_cases hki : k = i
            · subst hki
              rw [ho'] at hok; cases hok
              exact hrd ed hed
            · rw [hgs, if_neg hki] at hk
              exact hcl k o' hk hok ed hed
        · rw [hgs] at hk
          by_cases hki : k = i
          · rw [if_pos hki] at hk; cases hk
          · rw [if_neg hki] at hk
            rw [hother k o' hok hki]
            exact hun0 k o' hk hok
        · have hcount : (List.range l.length).countP (fun k => (listed.setIfInBounds i true).getD k false) = (List.range l.length).countP (fun k => listed.getD k false) + 1 :=
            countP_one (fun k => listed.getD k false) (fun k => (listed.setIfInBounds i true).getD k false) i hun' hgs _ List.nodup_range (by simpa using hil)
          rw [hcount]; omega
      unfold wpOp
      rw [ho]
      unfold wpList at hwl
      show if _ then _ else _
      by_cases hw : Region.wanted o (yielded l.toArray a1.tmps) = true
      · rw [if_pos hw] at hwl ⊢
        rcases hwl with h5 | ⟨_, a0, w0, h5⟩
        · refine .inl (Oper.wp_conv h5 (fun a2 w2 hx => ?_) (fun x a w hx hq => hx hq.1))
          exact hnext a2 w2 hx.2
        · exact absurd h5.1 (by simp)
      · rw [if_neg hw] at hwl ⊢
        exact hnext _ _ hwl.2
  refine key l.length (Array.replicate l.length false) a e _ ha (fun _ => ⟨⟨rfl, rfl, rfl, Nat.le_refl _, fun _ _ => rfl⟩, fun _ => Nat.le_add_right _ _⟩) (fun _ _ => rfl) (by simp) (fun i y o hi => ?_) (fun i o hi => ?_) (fun _ _ _ _ => rfl) (by omega)
  · exfalso
    rw [Array.getD_eq_getD_getElem?, Array.getElem?_replicate] at hi
    split at hi <;> simp at hi
  · exfalso
    rw [Array.getD_eq_getD_getElem?, Array.getElem?_replicate] at hi
    split at hi <;> simp at hi
end
end Go.Proofs.YtbhnfehcpnnjcaaGreatDoor.Vc
/-
 The parts of the graph on both sides. Conditions: as each states them.
-/
namespace Go.Proofs.YtbhnfehcpnnjcaaGreatDoor.Vc
open Go.RowKit
section
variable {P : Program} {N : Nat} {ops : Array Oper} {K : Env → World → Prop} {rest : List Oper} {e : Env} {w : World} {d : Nat} {ty xt yt : TypeId} {pos : String} {af : Array Edge} {x y : Operand} {i j : Int}
theorem Ops.remT (hx : ev e x = .int .i64 i) (hy : ev e y = .int .i64 j) (hb : Nat.blt d N = true) (hr : 1 ≤ j) (hK : Ops P N ops K rest (upd e d (.int .i64 (Int.tmod i j))) w) :
  Ops P N ops K (⟨some d, .binOp .rem xt x y yt, ty, pos, af, none⟩ :: rest) e w :=
 .val (by simp [execOp, hx, hy, eqGuard, binOp, Op.intDiv, show j ≠ 0 by omega]) hb hK
end

def p2L (l : List Int) : List Int := l.map fun x => Int.tmod x 2
def mixP (l : List Int) (v : Nat) : List Int := p2L (l.take v) ++ l.drop v
theorem mixP_len (l : List Int) (v : Nat) : (mixP l v).length = l.length := by simp [mixP, p2L]; omega
theorem mixP_get {l : List Int} {v : Nat} (h : v < l.length) : gi (mixP l v) (v : Int) = gi l (v : Int) := by
 have h1 : (p2L (l.take v)).length = v := by simp [p2L]; omega
 simp only [gi, mixP, Int.toNat_natCast, List.getD_eq_getElem?_getD]
 rw [List.getElem?_append_right (by omega), h1]
 simp
theorem mixP_step {l : List Int} {v : Nat} (h : v < l.length) : (mixP l v).set v (Int.tmod (gi l (v : Int)) 2) = mixP l (v + 1) := by
 have h1 : (p2L (l.take v)).length = v := by simp [p2L]; omega
 rw [gi_mem h]
 unfold mixP
 rw [List.set_append_right _ _ (by omega), h1, Nat.sub_self, List.take_succ_eq_append_getElem h, List.drop_eq_getElem_cons h]
 unfold p2L
 rw [List.map_append]
 simp only [List.set_cons_zero, List.map_cons, List.map_nil, List.append_assoc, List.cons_append, List.nil_append]
theorem mixP_zero (l : List Int) : mixP l 0 = l := by simp [mixP, p2L]
theorem mixP_all (l : List Int) : mixP l l.length = p2L l := by simp [mixP]
def partsP (xss : List (List Int)) : List Int := p2L (distP (nbL xss) (-1) 0).1
def Bd (En : List (List Int)) (parts : List Int) (e : Nat) : Prop := (gl En (e : Int)).length = 1 ∨ gi parts (gi (gl En (e : Int)) 0) = gi parts (gi (gl En (e : Int)) 1)
instance (En : List (List Int)) (parts : List Int) (e : Nat) : Decidable (Bd En parts e) := by unfold Bd; exact inferInstance
def ptBad (xss : List (List Int)) : Prop := ∃ e, e < edgesN xss ∧ Bd (endsL xss) (partsP xss) e
instance (xss : List (List Int)) : Decidable (ptBad xss) := by unfold ptBad; exact inferInstance
def ptK (xss : List (List Int)) : Int := if ¬ Grph xss then 1 else if ptBad xss then 4 else 0
def ptL (xss : List (List Int)) : List Int := if Grph xss ∧ ¬ ptBad xss then partsP xss else []
theorem verts_pos {xss : List (List Int)} (hM : Mani xss) : 0 < vertsN xss := by
 have h0 := faces_in hM 0 0 (by have := hM.2.1; omega)
 unfold vertsN
 omega
theorem parts_len {xss : List (List Int)} (hM : Mani xss) : (partsP xss).length = vertsN xss := by
 have hp := verts_pos hM
 have := (dist_BF (wo := -1) (v := 0) (nb_gr hM) (by omega) (by omega)).len
 simp [partsP, p2L, this]
theorem pt_bd (xss : List (List Int)) : (ptL xss).length ≤ 1000 := by
 unfold ptL
 split
 ·rename_i h
  have hsm := nb_small h.1.1
  rw [parts_len h.1.1]
  omega
 ·exact Nat.zero_le _
/-- each edge has an end -/
theorem ends_pos {xss : List (List Int)} (hM : Mani xss) (e : Nat) (he : e < edgesN xss) : 0 < (gl (endsL xss) (e : Int)).length := by
 have h1 : edgesN xss = (facesN xss 1).toNat := rfl
 have hpos := bag_pos (Vl := facesL xss 0) (El := facesL xss 1) (m := edgesN xss) (gl xss 0).length (fun k hk => by have := faces_in hM 1 k hk; omega) (e : Int) (by omega) (faces_hit hM 1 e (by omega) (by omega))
 rw [endsL, gl_ends]
 have hm : (gl (bag (facesL xss 0) (facesL xss 1) (edgesN xss) (gl xss 0).length) (e : Int))[0] ∈ cs (gl (bag (facesL xss 0) (facesL xss 1) (edgesN xss) (gl xss 0).length) (e : Int)) := (cs_mem _ _).2 (List.getElem_mem hpos)
 exact List.length_pos_of_mem hm

theorem specPartsOf_c (A : Option Addr) (n c : Nat) (rs : List SlV) (xss : List (List Int)) (w : World) (hR : RowsI w A n rs xss) (hn : n ≤ 9223372036854775807) :
  Ret Tryz.prog 13 [.agg #[.slice A n c]] w (AnsR (ptL xss) (ptK xss) w) := by
 refine Ret.of_cd Tryz.func13 rfl Tryz.ntmps13 rfl (post2 rfl) (Cd.seq (Cd.region (Ops.box1 (St.refl w) rfl rfl ?_)))
 intro Ab w1 hS1
 refine Ops.ms rfl rfl rfl (Ops.mi rfl rfl rfl (Ops.n (tQ (Cd.seq (Cd.seq (Cd.region (Ops.ld_agg 0 (hS1.rd 0 rfl) rfl rfl rfl (Ops.call (l18Is_c A n c rs xss _ (hS1.oldRows hR) hn) rfl rfl rfl ?_))))))))
 rintro _ w2 ⟨rfl, hst⟩
 have hS2 := hS1.later hst.below
 first | refine Ops.not_p rfl rfl ?_ | refine Ops.not rfl rfl ?_
 refine Ops.n (tQ ?_)
 refine Cd.cond_p _ rfl (fun h => ?_) (fun h => ?_)
 ·refine Cd.seq (Cd.region (Ops.ms rfl rfl rfl (Ops.mi rfl rfl rfl (Ops.n (tQ (Cd.ret (thenQ_r (ret2_si rfl rfl ?_))))))))
  rw [ptK, if_pos h, ptL, if_neg (fun h2 => h h2.1)]
  exact AnsR.none hS2
 ·have hG : Grph xss := Classical.not_not.1 h
  have hM := hG.1
  have hg := nb_gr hM
  have hsm := nb_small hM
  have hvp := verts_pos hM
  have hdl := (dist_BF (wo := -1) (v := 0) hg (by omega) (by omega)).len
  have hpl := parts_len hM
  have hel := endsL_len xss
  have hmem : ∀ e : Nat, ∀ x ∈ gl (endsL xss) (e : Int), 0 ≤ x ∧ x < (vertsN xss : Int) := fun e => endsL_mem hM e (by omega)
  have hep := ends_pos hM
  have hfinK : ptK xss = if ptBad xss then 4 else 0 := by rw [ptK, if_neg h]
  have hfinL : ptL xss = if ptBad xss then [] else partsP xss := by
   unfold ptL
   by_cases hb : ptBad xss
   ·rw [if_neg (fun h2 => h2.2 hb), if_pos hb]
   ·rw [if_pos ⟨hG, hb⟩, if_neg hb]
  refine Cd.skip (tQ (Cd.seq ?_))
  refine Cd.drawP [] [.ex (.agg #[.slice (A) (n) (c)]), .pr (fun v w' => ∃ A1 rs1, v = .slice A1 (edgesN xss) (edgesN xss) ∧ RowsI w' A1 (edgesN xss) rs1 (endsL xss)), .ex (.agg #[.slice (A) (n) (c)]), .pr (fun v w' => ∃ A1 rs1, v = .slice A1 (vertsN xss) (vertsN xss) ∧ RowsI w' A1 (vertsN xss) rs1 (nbL xss)), .p2 1 (fun a v w' => ∃ A15, v = .slice A15 (vertsN xss) (vertsN xss) ∧ ∃ A12 rs12 wb, a = .slice A12 (edgesN xss) (edgesN xss) ∧ RowsI wb A12 (edgesN xss) rs12 (endsL xss) ∧ St wb w' [CkI 2 A15 (vertsN xss) (vertsN xss) (distP (nbL xss) (-1) 0).1] ∧ Below w2.heap.size w2 wb), .p2 1 (fun a v _ => v = a), .p2 4 (fun a v _ => v = a)] (by kernel_rfl) (by kernel_rfl) (ly (List.forall_mem_cons.2 ⟨Ye.lasts_pr (fun v w w' h hb => by obtain ⟨A1, rs1, hv, hT⟩ := h; exact ⟨A1, rs1, hv, hT.later hb⟩), (ly (List.forall_mem_cons.2 ⟨Ye.lasts_pr (fun v w w' h hb => by obtain ⟨A1, rs1, hv, hT⟩ := h; exact ⟨A1, rs1, hv, hT.later hb⟩), (List.forall_mem_cons.2 ⟨Ye.lasts_p2 (fun a v w w' h hb => by obtain ⟨A15, hv, A12, rs12, wb, h1, h2, h3, h4⟩ := h; exact ⟨A15, hv, A12, rs12, wb, h1, h2, h3.later hb, h4⟩), (List.forall_mem_cons.2 ⟨Ye.lasts_p2 (fun a v w w' h hb => h), (List.forall_mem_cons.2 ⟨Ye.lasts_p2 (fun a v w w' h hb => h), (fun _ h => by cases h)⟩)⟩)⟩)⟩))⟩)) ⟨?_, ?_, ?_, ?_, ?_, ?_, ?_, trivial⟩ ?_
  ·intro e1 w1 cc hlo hhi hb0 hp hun hq
   show Ops _ _ _ _ _ _ _
   obtain rfl := cc_of hlo hhi (b := 0) (by kernel_rfl) (by kernel_rfl); clear hlo hhi
   have hb := hb0 rfl
   refine Ops.ld_agg 0 ((hS2.rd 0 rfl).below hb) rfl rfl rfl (Ops.n (p0_ rfl (by exact rfl)))
  ·intro e1 w1 cc hlo hhi hb0 hp hun hq
   show Ops _ _ _ _ _ _ _
   obtain rfl := cc_of hlo hhi (b := 0) (by kernel_rfl) (by kernel_rfl); clear hlo hhi
   have hb := hb0 rfl
   refine Ops.call (l18Ends_c A n c rs xss _ ((hS2.later hb).oldRows hR) hG) rfl rfl rfl ?_
   rintro _ w9 ⟨A1, rs1, rfl, hrl, hst⟩
   refine Ops.n ?_
   exact AfterP.dn rfl hst.below ⟨A1, rs1, rfl, hst.rowsI hel⟩
  ·intro e1 w1 cc hlo hhi hb0 hp hun hq
   show Ops _ _ _ _ _ _ _
   obtain rfl := cc_of hlo hhi (b := 0) (by kernel_rfl) (by kernel_rfl); clear hlo hhi
   have hb := hb0 rfl
   refine Ops.ld_agg 0 ((hS2.rd 0 rfl).below hb) rfl rfl rfl (Ops.n (p0_ rfl (by exact rfl)))
  ·intro e1 w1 cc hlo hhi hb0 hp hun hq
   show Ops _ _ _ _ _ _ _
   obtain rfl := cc_of hlo hhi (b := 0) (by kernel_rfl) (by kernel_rfl); clear hlo hhi
   have hb := hb0 rfl
   refine Ops.call (l18Neighbours_c A n c rs xss _ ((hS2.later hb).oldRows hR) hG) rfl rfl rfl ?_
   rintro _ w9 ⟨A1, rs1, rfl, hrl, hst⟩
   refine Ops.n ?_
   exact AfterP.dn rfl hst.below ⟨A1, rs1, rfl, hst.rowsI (nbL_len xss)⟩
  ·intro e1 w1 cc hlo hhi hb0 hp hun hq
   show Ops _ _ _ _ _ _ _
   obtain rfl := cc_of hlo hhi (b := 0) (by kernel_rfl) (by kernel_rfl); clear hlo hhi
   have hb := hb0 rfl
   obtain ⟨A0, rs0, h14, hN⟩ := (hp 3 _ _ (by kernel_rfl) rfl rfl (by kernel_rfl))
   obtain ⟨A12, rs12, h12, hE⟩ := (hp 1 _ _ (by kernel_rfl) rfl rfl (by kernel_rfl))
   have hb := hb0 rfl
   refine Ops.call (l18Distances_c A0 _ _ rs0 (nbL xss) 0 (-1) _ hN hg (by omega) (by omega)) rfl (by exact congrArg (fun v => [v, Value.int .i64 0, Value.int .i64 (-1)]) h14) rfl ?_
   rintro _ w9 ⟨A15, rfl, hst⟩
   refine Ops.n ?_
   exact AfterP.dn rfl hst.below ⟨A15, rfl, A12, rs12, _, h12, hE, hst, hb⟩
  ·intro e1 w1 cc hlo hhi hb0 hp hun hq
   show Ops _ _ _ _ _ _ _
   obtain rfl := cc_of hlo hhi (b := 0) (by kernel_rfl) (by kernel_rfl); clear hlo hhi
   have hb := hb0 rfl
   obtain ⟨A1, rs1, h12, _⟩ := (hp 1 _ _ (by kernel_rfl) rfl rfl (by kernel_rfl))
   refine Ops.ms rfl (by exact h12) rfl (Ops.n ?_)
   exact AfterP.dn rfl (Below.refl _ _) h12.symm
  ·intro e1 w1 cc hlo hhi hb0 hp hun hq
   show Ops _ _ _ _ _ _ _
   obtain rfl := cc_of hlo hhi (b := 0) (by kernel_rfl) (by kernel_rfl); clear hlo hhi
   have hb := hb0 rfl
   obtain ⟨A15, h15, _⟩ := (hp 4 _ _ (by kernel_rfl) rfl rfl (by kernel_rfl))
   refine Ops.ms rfl (by exact h15) rfl (Ops.n ?_)
   exact AfterP.dn rfl (Below.refl _ _) h15.symm
  intro u w3 _ hu hu2 _
  obtain ⟨A15, h15, A12, rs12, wb, h12, hE, hT, hbl⟩ := hu2 4 1 _ rfl (by kernel_rfl)
  have h4 : u 5 = .slice A12 (edgesN xss) (edgesN xss) := (hu2 5 1 _ rfl (by kernel_rfl)).trans h12
  have h5 : u 6 = .slice A15 (vertsN xss) (vertsN xss) := (hu2 6 4 _ rfl (by kernel_rfl)).trans h15
  have hSb := (hS2.later hbl).none
  rw [pin2 u h4 h5]
  have hparts : partsP xss = p2L (distP (nbL xss) (-1) 0).1 := rfl
  have hbad : ptBad xss ↔ ∃ e, e < edgesN xss ∧ Bd (endsL xss) (partsP xss) e := Iff.rfl
  generalize hm : edgesN xss = m at *
  generalize hv : vertsN xss = N at *
  generalize hEn : endsL xss = En at *
  generalize hpt : partsP xss = parts at *
  generalize hdd : (distP (nbL xss) (-1) 0).1 = dl at *
  refine tQ (Cd.seq (Cd.seq (Cd.region (Ops.mi rfl rfl rfl (Ops.n (tQ (Cd.block ?_)))))))
  refine Cd.loop (α := Nat) (fun v => [(4, .slice A12 m m), (5, .slice A15 N N), (6, .int .i64 (v : Int))]) (fun v w' => St wb w' [CkI 2 A15 N N (mixP dl v)] ∧ v ≤ N) (fun v => N - v) 0 ⟨rfl, rfl, rfl, trivial⟩ ⟨by rw [mixP_zero]; exact hT, Nat.zero_le _⟩ ?_
  rintro v e w4 ⟨hS4, hv4⟩
  have hml := mixP_len dl v
  have hO := hS4.rdI 0 rfl
  refine Cd.seq (Cd.seq (Cd.region (Ops.mi rfl rfl rfl (Ops.ms rfl rfl rfl (Ops.len rfl rfl (Ops.lss rfl rfl rfl (Ops.n (tQ ?_))))))))
  refine Cd.cond_p _ rfl (fun h1 => ?_) (fun h1 => ?_)
  ·refine Cd.skip (tQ (Cd.seq (Cd.block (Cd.region (Ops.ms rfl rfl rfl (Ops.mi rfl rfl rfl (Ops.ms rfl rfl rfl (Ops.mi rfl rfl rfl (Ops.idx hO.2 rfl rfl rfl (by omega) (by omega) ?_)))))))))
   refine Ops.ld_int hO rfl (by omega) rfl rfl ?_
   rw [mixP_get (by omega)]
   refine Ops.remT rfl rfl rfl (by omega) (Ops.idx hO.2 rfl rfl rfl (by omega) (by omega) (Ops.st_int 0 hS4 rfl rfl rfl (by omega) ?_))
   intro w5 hS5
   refine Ops.n (blockQ_n (tQ (Cd.region (Ops.mi rfl rfl rfl (Ops.add rfl rfl rfl (by omega) (Ops.mi rfl rfl rfl (Ops.n (tQ ?_))))))))
   exact ⟨v + 1, by show N - (v + 1) < N - v; omega, ⟨rfl, rfl, rfl, trivial⟩, by rw [← mixP_step (by omega)]; exact hS5, by omega⟩
  ·refine Cd.exit (thenQ_x (thenQ_x (blockQ_x (tQ (Cd.seq (Cd.seq (Cd.region (Ops.mi rfl rfl rfl (Ops.n ?_)))))))))
   refine tQ (Cd.block ?_)
   have hvN : v = N := by omega
   subst hvN
   have hall : mixP dl v = parts := by rw [← hdl, mixP_all, hparts]
   rw [hall] at hS4
   refine Cd.loop (α := Nat) (fun e => [(4, .slice A12 m m), (5, .slice A15 v v), (7, .int .i64 (e : Int))]) (fun e w' => St wb w' [CkI 2 A15 v v parts] ∧ e ≤ m ∧ ∀ e', e' < e → ¬ Bd En parts e') (fun e => m - e) 0 ⟨rfl, rfl, rfl, trivial⟩ ⟨hS4, Nat.zero_le _, fun e' he' => by omega⟩ ?_
   rintro ed e w6 ⟨hS6, hed, hno⟩
   have hP := hS6.rdI 0 rfl
   have hE6 := hS6.oldRows hE
   refine Cd.seq (Cd.seq (Cd.region (Ops.mi rfl rfl rfl (Ops.ms rfl rfl rfl (Ops.len rfl rfl (Ops.lss rfl rfl rfl (Ops.n (tQ ?_))))))))
   refine Cd.cond_p _ rfl (fun h2 => ?_) (fun h2 => ?_)
   ·have hed' : ed < m := by omega
    have hrow := hE6.at_ (i := (ed : Int)) (by omega) h2
    have hrn := hE6.rowLen (k := (ed : Int)) (by omega) h2
    have hp := hep ed hed'
    have isbad : Bd En parts ed → ptBad xss := fun h => hbad.2 ⟨ed, hed', h⟩
    by_cases h3 : ((rg rs12 (ed : Int)).n : Int) = 1 --dup 2
    ·refine Cd.skip (tQ (Cd.seq (Cd.block (Cd.seq ?_))))
     refine Cd.draw [.ex (.slice (A12) (m) (m)), .ex (.int .i64 ((ed : Int))), .ex (.pointer (ptrAt (A12) ((ed : Int)).toNat)), .ex (.slice ((rg (rs12) ((ed : Int))).a) ((rg (rs12) ((ed : Int))).n) ((rg (rs12) ((ed : Int))).c)), .ex (.int .i64 ((((rg (rs12) ((ed : Int))).n : Nat) : Int))), .ex (.bool (decide (((((rg (rs12) ((ed : Int))).n : Nat) : Int)) = ((1 : Int))))), .ex (.bool (true)), .ex (undef), .ex (undef), .ex (undef), .ex (undef), .ex (undef), .ex (undef), .ex (undef), .ex (undef), .ex (undef), .ex (undef), .ex (undef), .ex (undef), .ex (undef), .ex (undef), .ex (undef), .ex (undef), .ex (undef), .ex (undef), .ex (undef), .ex (.bool (true))] (by kernel_rfl) (by kernel_rfl) rfl (lx (lx (lx (lx (lx (lx (lx (lx (lx (lx (lx (lx (lx (lx (lx (lx (lx (lx (lx (lx (lx (lx (lx (lx (lx (lx (lx (fun _ h => by cases h)))))))))))))))))))))))))))) ⟨?_, ?_, ?_, ?_, ?_, ?_, ?_, ?_, ?_, ?_, ?_, ?_, ?_, ?_, ?_, ?_, ?_, ?_, ?_, ?_, ?_, ?_, ?_, ?_, ?_, ?_, ?_, trivial⟩ ?_
     ·intro e1 w1 hb hp hun
      refine Ops.ms rfl rfl rfl (Ops.n (d0 (by exact rfl)))
     ·intro e1 w1 hb hp hun
      refine Ops.mi rfl rfl rfl (Ops.n (d0 (by exact rfl)))
     ·intro e1 w1 hb hp hun
      refine Ops.idx (hE6.top.later hb).2 rfl rfl rfl (by omega) (by omega) (Ops.n (d0 (by exact rfl)))
     ·intro e1 w1 hb hp hun
      refine Ops.ld_sl (hE6.top.later hb) rfl (by omega) rfl rfl (Ops.n (d0 (by exact rfl)))
     ·intro e1 w1 hb hp hun
      refine Ops.len rfl rfl (Ops.n (d0 (by exact rfl)))
     ·intro e1 w1 hb hp hun
      refine Ops.eql rfl rfl rfl (Ops.n (d0 (by exact rfl)))
     ·intro e1 w1 hb hp hun
      refine Ops.mb rfl rfl rfl (Ops.n ?_)
      exact d0 (by exact congrArg Value.bool (decide_eq_true h3))
     ·intro e1 w1 hb hp hun
      refine Ops.k rfl rfl rfl rfl rfl (Ops.n (d0 (by exact rfl)))
     ·intro e1 w1 hb hp hun
      refine Ops.k rfl rfl rfl rfl rfl (Ops.n (d0 (by exact rfl)))
     ·intro e1 w1 hb hp hun
      refine Ops.k rfl rfl rfl rfl rfl (Ops.n (d0 (by exact rfl)))
     ·intro e1 w1 hb hp hun
      refine Ops.k rfl rfl rfl rfl rfl (Ops.n (d0 (by exact rfl)))
     ·intro e1 w1 hb hp hun
      refine Ops.k rfl rfl rfl rfl rfl (Ops.n (d0 (by exact rfl)))
     ·intro e1 w1 hb hp hun
      refine Ops.k rfl rfl rfl rfl rfl (Ops.n (d0 (by exact rfl)))
     ·intro e1 w1 hb hp hun
      refine Ops.k rfl rfl rfl rfl rfl (Ops.n (d0 (by exact rfl)))
     ·intro e1 w1 hb hp hun
      refine Ops.k rfl rfl rfl rfl rfl (Ops.n (d0 (by exact rfl)))
     ·intro e1 w1 hb hp hun
      refine Ops.k rfl rfl rfl rfl rfl (Ops.n (d0 (by exact rfl)))
     ·intro e1 w1 hb hp hun
      refine Ops.k rfl rfl rfl rfl rfl (Ops.n (d0 (by exact rfl)))
     ·intro e1 w1 hb hp hun
      refine Ops.k rfl rfl rfl rfl rfl (Ops.n (d0 (by exact rfl)))
     ·intro e1 w1 hb hp hun
      refine Ops.k rfl rfl rfl rfl rfl (Ops.n (d0 (by exact rfl)))
     ·intro e1 w1 hb hp hun
      refine Ops.k rfl rfl rfl rfl rfl (Ops.n (d0 (by exact rfl)))
     ·intro e1 w1 hb hp hun
      refine Ops.k rfl rfl rfl rfl rfl (Ops.n (d0 (by exact rfl)))
     ·intro e1 w1 hb hp hun
      refine Ops.k rfl rfl rfl rfl rfl (Ops.n (d0 (by exact rfl)))
     ·intro e1 w1 hb hp hun
      refine Ops.k rfl rfl rfl rfl rfl (Ops.n (d0 (by exact rfl)))
     ·intro e1 w1 hb hp hun
      refine Ops.k rfl rfl rfl rfl rfl (Ops.n (d0 (by exact rfl)))
     ·intro e1 w1 hb hp hun
      refine Ops.k rfl rfl rfl rfl rfl (Ops.n (d0 (by exact rfl)))
     ·intro e1 w1 hb hp hun
      refine Ops.k rfl rfl rfl rfl rfl (Ops.n (d0 (by exact rfl)))
     ·intro e1 w1 hb hp hun
      refine Ops.pick_t rfl rfl rfl (Ops.n (d0 (by exact rfl)))
     intro u w7 hb7 _
     have hS7 := hS6.later hb7
     refine tQ (Cd.cond_t rfl (Cd.seq (Cd.region (Ops.ms rfl rfl rfl (Ops.mi rfl rfl rfl (Ops.n (tQ (Cd.ret (blockQ_r ?_)))))))))
     refine thenQ_r (thenQ_r (blockQ_r (thenQ_r (ret2_si rfl rfl ?_))))
     rw [hfinK, hfinL, if_pos (isbad (.inl (by omega))), if_pos (isbad (.inl (by omega)))]
     exact AnsR.none (hSb.later hS7.below)
    ·have hx0 := hmem ed (gi (gl En (ed : Int)) 0) (by rw [show (0 : Int) = ((0 : Nat) : Int) from rfl, gi_mem (by omega)]; exact List.getElem_mem _)
     have hx1 := hmem ed (gi (gl En (ed : Int)) 1) (by rw [show (1 : Int) = ((1 : Nat) : Int) from rfl, gi_mem (by omega)]; exact List.getElem_mem _)
     refine Cd.skip (tQ (Cd.seq (Cd.block (Cd.seq ?_))))
     refine Cd.draw [.ex (.slice (A12) (m) (m)), .ex (.int .i64 ((ed : Int))), .ex (.pointer (ptrAt (A12) ((ed : Int)).toNat)), .ex (.slice ((rg (rs12) ((ed : Int))).a) ((rg (rs12) ((ed : Int))).n) ((rg (rs12) ((ed : Int))).c)), .ex (.int .i64 ((((rg (rs12) ((ed : Int))).n : Nat) : Int))), .ex (.bool (decide (((((rg (rs12) ((ed : Int))).n : Nat) : Int)) = ((1 : Int))))), .ex (.bool (false)), .ex (.slice (A15) (v) (v)), .ex (.slice (A12) (m) (m)), .ex (.int .i64 ((ed : Int))), .ex (.pointer (ptrAt (A12) ((ed : Int)).toNat)), .ex (.slice ((rg (rs12) ((ed : Int))).a) ((rg (rs12) ((ed : Int))).n) ((rg (rs12) ((ed : Int))).c)), .ex (.pointer (ptrAt ((rg (rs12) ((ed : Int))).a) ((0 : Int)).toNat)), .ex (.int .i64 (gi (gl En (ed : Int)) ((0 : Int)))), .ex (.pointer (ptrAt (A15) (gi (gl En (ed : Int)) ((0 : Int))).toNat)), .ex (.int .i64 (gi (parts) (gi (gl En (ed : Int)) ((0 : Int))))), .ex (.slice (A15) (v) (v)), .ex (.slice (A12) (m) (m)), .ex (.int .i64 ((ed : Int))), .ex (.pointer (ptrAt (A12) ((ed : Int)).toNat)), .ex (.slice ((rg (rs12) ((ed : Int))).a) ((rg (rs12) ((ed : Int))).n) ((rg (rs12) ((ed : Int))).c)), .ex (.pointer (ptrAt ((rg (rs12) ((ed : Int))).a) ((1 : Int)).toNat)), .ex (.int .i64 (gi (gl En (ed : Int)) ((1 : Int)))), .ex (.pointer (ptrAt (A15) (gi (gl En (ed : Int)) ((1 : Int))).toNat)), .ex (.int .i64 (gi (parts) (gi (gl En (ed : Int)) ((1 : Int))))), .ex (.bool (decide ((gi (parts) (gi (gl En (ed : Int)) ((0 : Int)))) = (gi (parts) (gi (gl En (ed : Int)) ((1 : Int))))))), .ex (.bool (decide ((gi (parts) (gi (gl En (ed : Int)) ((0 : Int)))) = (gi (parts) (gi (gl En (ed : Int)) ((1 : Int)))))))] (by kernel_rfl) (by kernel_rfl) rfl (lx (lx (lx (lx (lx (lx (lx (lx (lx (lx (lx (lx (lx (lx (lx (lx (lx (lx (lx (lx (lx (lx (lx (lx (lx (lx (lx (fun _ h => by cases h)))))))))))))))))))))))))))) ⟨?_, ?_, ?_, ?_, ?_, ?_, ?_, ?_, ?_, ?_, ?_, ?_, ?_, ?_, ?_, ?_, ?_, ?_, ?_, ?_, ?_, ?_, ?_, ?_, ?_, ?_, ?_, trivial⟩ ?_
     ·intro e1 w1 hb hp hun
      refine Ops.ms rfl rfl rfl (Ops.n (d0 (by exact rfl)))
     ·intro e1 w1 hb hp hun
      refine Ops.mi rfl rfl rfl (Ops.n (d0 (by exact rfl)))
     ·intro e1 w1 hb hp hun
      refine Ops.idx (hE6.top.later hb).2 rfl rfl rfl (by omega) (by omega) (Ops.n (d0 (by exact rfl)))
     ·intro e1 w1 hb hp hun
      refine Ops.ld_sl (hE6.top.later hb) rfl (by omega) rfl rfl (Ops.n (d0 (by exact rfl)))
     ·intro e1 w1 hb hp hun
      refine Ops.len rfl rfl (Ops.n (d0 (by exact rfl)))
     ·intro e1 w1 hb hp hun
      refine Ops.eql rfl rfl rfl (Ops.n (d0 (by exact rfl)))
     ·intro e1 w1 hb hp hun
      refine Ops.mb rfl rfl rfl (Ops.n ?_)
      exact d0 (by exact congrArg Value.bool (decide_eq_false h3))
     ·intro e1 w1 hb hp hun
      refine Ops.g rfl rfl rfl (Ops.ms rfl rfl rfl (Ops.n (d0 (by exact rfl))))
     ·intro e1 w1 hb hp hun
      refine Ops.g rfl rfl rfl (Ops.ms rfl rfl rfl (Ops.n (d0 (by exact rfl))))
     ·intro e1 w1 hb hp hun
      refine Ops.g rfl rfl rfl (Ops.mi rfl rfl rfl (Ops.n (d0 (by exact rfl))))
     ·intro e1 w1 hb hp hun
      refine Ops.g rfl rfl rfl (Ops.idx (hE6.top.later hb).2 rfl rfl rfl (by omega) (by omega) (Ops.n (d0 (by exact rfl))))
     ·intro e1 w1 hb hp hun
      refine Ops.g rfl rfl rfl (Ops.ld_sl (hE6.top.later hb) rfl (by omega) rfl rfl (Ops.n (d0 (by exact rfl))))
     ·intro e1 w1 hb hp hun
      refine Ops.g rfl rfl rfl (Ops.idx (hrow.later hb).2 rfl rfl rfl (by omega) (by omega) (Ops.n (d0 (by exact rfl))))
     ·intro e1 w1 hb hp hun
      refine Ops.g rfl rfl rfl (Ops.ld_int (hrow.later hb) rfl (by omega) rfl rfl (Ops.n (d0 (by exact rfl))))
     ·intro e1 w1 hb hp hun
      refine Ops.g rfl rfl rfl (Ops.idx (hP.later hb).2 rfl rfl rfl (by omega) (by omega) (Ops.n (d0 (by exact rfl))))
     ·intro e1 w1 hb hp hun
      refine Ops.g rfl rfl rfl (Ops.ld_int (hP.later hb) rfl (by omega) rfl rfl (Ops.n (d0 (by exact rfl))))
     ·intro e1 w1 hb hp hun
      refine Ops.g rfl rfl rfl (Ops.ms rfl rfl rfl (Ops.n (d0 (by exact rfl))))
     ·intro e1 w1 hb hp hun
      refine Ops.g rfl rfl rfl (Ops.ms rfl rfl rfl (Ops.n (d0 (by exact rfl))))
     ·intro e1 w1 hb hp hun
      refine Ops.g rfl rfl rfl (Ops.mi rfl rfl rfl (Ops.n (d0 (by exact rfl))))
     ·intro e1 w1 hb hp hun
      refine Ops.g rfl rfl rfl (Ops.idx (hE6.top.later hb).2 rfl rfl rfl (by omega) (by omega) (Ops.n (d0 (by exact rfl))))
     ·intro e1 w1 hb hp hun
      refine Ops.g rfl rfl rfl (Ops.ld_sl (hE6.top.later hb) rfl (by omega) rfl rfl (Ops.n (d0 (by exact rfl))))
     ·intro e1 w1 hb hp hun
      refine Ops.g rfl rfl rfl (Ops.idx (hrow.later hb).2 rfl rfl rfl (by omega) (by omega) (Ops.n (d0 (by exact rfl))))
     ·intro e1 w1 hb hp hun
      refine Ops.g rfl rfl rfl (Ops.ld_int (hrow.later hb) rfl (by omega) rfl rfl (Ops.n (d0 (by exact rfl))))
     ·intro e1 w1 hb hp hun
      refine Ops.g rfl rfl rfl (Ops.idx (hP.later hb).2 rfl rfl rfl (by omega) (by omega) (Ops.n (d0 (by exact rfl))))
     ·intro e1 w1 hb hp hun
      refine Ops.g rfl rfl rfl (Ops.ld_int (hP.later hb) rfl (by omega) rfl rfl (Ops.n (d0 (by exact rfl))))
     ·intro e1 w1 hb hp hun
      refine Ops.g rfl rfl rfl (Ops.eql rfl rfl rfl (Ops.n (d0 (by exact rfl))))
     ·intro e1 w1 hb hp hun
      refine Ops.pick_f rfl rfl rfl (Ops.n (d0 (by exact rfl)))
     intro u w7 hb7 _
     have hS7 := hS6.later hb7
     refine tQ ?_
     refine Cd.cond_p _ rfl (fun h4 => ?_) (fun h4 => ?_)
     ·refine Cd.seq (Cd.region (Ops.ms rfl rfl rfl (Ops.mi rfl rfl rfl (Ops.n (tQ (Cd.ret (blockQ_r (thenQ_r (thenQ_r ?_)))))))))
      refine blockQ_r (thenQ_r (ret2_si rfl rfl ?_))
      rw [hfinK, hfinL, if_pos (isbad (.inr h4)), if_pos (isbad (.inr h4))]
      exact AnsR.none (hSb.later hS7.below)
     ·refine Cd.skip (blockQ_n (tQ (Cd.region (Ops.mi rfl rfl rfl (Ops.add rfl rfl rfl (by omega) (Ops.mi rfl rfl rfl (Ops.n (tQ ?_))))))))
      refine ⟨ed + 1, by show m - (ed + 1) < m - ed; omega, ⟨rfl, rfl, rfl, trivial⟩, hS7, by omega, fun e' he' => ?_⟩
      by_cases ee : e' = ed
      ·subst ee
       intro hb
       rcases hb with hb | hb
       ·omega
       ·exact h4 hb
      ·exact hno e' (by omega)
   ·refine Cd.exit (thenQ_x (thenQ_x (blockQ_x (tQ (Cd.seq (Cd.region (Ops.ms rfl rfl rfl (Ops.ms rfl rfl rfl (Ops.mi rfl rfl rfl ?_)))))))))
    refine Ops.n (tQ (Cd.ret (ret2_si rfl rfl ?_)))
    have hnb : ¬ ptBad xss := fun hb => by
     obtain ⟨e', he', hb'⟩ := hbad.1 hb
     exact hno e' (by omega) hb'
    rw [hfinK, hfinL, if_neg hnb, if_neg hnb]
    have := hSb.call hS6
    exact AnsR.mk (by omega) this
theorem implPartsOf_c (A : Option Addr) (n c : Nat) (rs : List SlV) (xss : List (List Int)) (w : World) (hR : RowsI w A n rs xss) (hn : n ≤ c) (hc : c ≤ 9223372036854775807) :
  Ret Tryz.prog 12 [.agg #[.slice A n c]] w (AnsR (ptL xss) (ptK xss) w) := by
 refine Ret.of_cd Tryz.func12 rfl Tryz.ntmps12 rfl (post2 rfl) (Cd.seq (Cd.region (Ops.box1 (St.refl w) rfl rfl ?_)))
 intro Ab w1 hS1
 refine Ops.ms rfl rfl rfl (Ops.mi rfl rfl rfl (Ops.n (tQ (Cd.seq (Cd.region (Ops.ld_agg 0 (hS1.rd 0 rfl) rfl rfl rfl (Ops.call (graphOf_c A n c rs xss none 0 0 [] _ (hS1.oldRows hR) hn hc RdI.nil (by omega)) rfl rfl rfl ?_)))))))
 rintro _ w3 ⟨A3, c3, rs3, rfl, hrl, hst3⟩
 have hS3 := hS1.later hst3.below
 rw [goK_nil] at *
 refine Ops.mv_tup rfl rfl rfl (Ops.extract rfl rfl rfl (Ops.extract rfl rfl rfl (Ops.ms rfl rfl rfl (Ops.mi rfl rfl rfl (Ops.n (tQ (Cd.seq (Cd.seq (Cd.region ?_)))))))))
 refine Ops.mi rfl rfl rfl (Ops.neq rfl rfl rfl (Ops.n (tQ ?_)))
 refine Cd.cond_p _ rfl (fun h => ?_) (fun h => ?_)
 ·have hnG : ¬ Grph xss := fun hG => h (by rw [petrieK, if_pos hG])
  refine Cd.seq (Cd.region (Ops.mi rfl rfl rfl (Ops.ms rfl rfl rfl (Ops.mi rfl rfl rfl (Ops.n (tQ (Cd.ret (thenQ_r (ret2_si rfl rfl ?_)))))))))
  rw [petrieK, if_neg hnG, ptK, if_pos hnG, ptL, if_neg (fun h2 => hnG h2.1)]
  exact AnsR.none hS3
 ·have hG : Grph xss := by
   apply Classical.byContradiction
   intro hG
   exact h (by rw [petrieK, if_neg hG]; decide)
  have hM := hG.1
  have hg := nb_gr hM
  have hsm := nb_small hM
  have hvp := verts_pos hM
  have hdl := (dist_BF (wo := -1) (v := 0) hg (by omega) (by omega)).len
  have hpl := parts_len hM
  have hel := endsL_len xss
  have hmem : ∀ e : Nat, ∀ x ∈ gl (endsL xss) (e : Int), 0 ≤ x ∧ x < (vertsN xss : Int) := fun e => endsL_mem hM e (by omega)
  have hep := ends_pos hM
  have hfinK : ptK xss = if ptBad xss then 4 else 0 := by rw [ptK, if_neg (fun h => h hG)]
  have hfinL : ptL xss = if ptBad xss then [] else partsP xss := by
   unfold ptL
   by_cases hb : ptBad xss
   ·rw [if_neg (fun h2 => h2.2 hb), if_pos hb]
   ·rw [if_pos ⟨hG, hb⟩, if_neg hb]
  have hparts : partsP xss = p2L (distP (nbL xss) (-1) 0).1 := rfl
  have hbad : ptBad xss ↔ ∃ e, e < edgesN xss ∧ Bd (endsL xss) (partsP xss) e := Iff.rfl
  rw [goL_nil hG, nbL_len] at *
  have hN3 := hst3.rowsI (nbL_len xss)
  refine Cd.skip (tQ (Cd.seq (Cd.region (Ops.ms rfl rfl rfl (Ops.call (graphDistances_c A3 _ _ rs3 (nbL xss) 0 _ hN3 hg (by omega) (by omega)) rfl rfl rfl ?_)))))
  rintro _ w4 ⟨A15, rfl, hst4⟩
  have hS4' := hS3.none.call hst4
  rw [List.append_nil] at hS4'
  generalize hv : vertsN xss = N at *
  generalize hdd : (distP (nbL xss) (-1) 0).1 = dl at *
  refine Ops.ms rfl rfl rfl (Ops.n (tQ (Cd.seq (Cd.seq (Cd.region (Ops.ms rfl rfl rfl (Ops.len rfl rfl (Ops.mi rfl rfl rfl (Ops.n ?_)))))))))
  refine tQ (Cd.block ?_)
  refine Cd.loop (α := Nat) (fun v => [(1, .pointer Ab), (6, .slice A15 N N), (21, .int .i64 (N : Int)), (22, .int .i64 (v : Int))]) (fun v w' => St w3 w' [CkI 2 A15 N N (mixP dl v)] ∧ v ≤ N) (fun v => N - v) 0 ⟨rfl, rfl, rfl, rfl, trivial⟩ ⟨by rw [mixP_zero]; exact hst4, Nat.zero_le _⟩ ?_
  rintro v e w4 ⟨hS4, hv4⟩
  have hml := mixP_len dl v
  have hO := hS4.rdI 0 rfl
  refine Cd.seq (Cd.region (Ops.lss rfl rfl rfl (Ops.n (tQ (Cd.seq ?_)))))
  refine Cd.cond_p _ rfl (fun h1 => ?_) (fun h1 => ?_)
  ·refine Cd.skip (tQ (Cd.seq (Cd.block (Cd.seq (Cd.region (Ops.mi rfl rfl rfl (Ops.mi rfl rfl rfl (Ops.n (tQ ?_)))))))))
   refine Cd.region (Ops.ms rfl rfl rfl (Ops.mi rfl rfl rfl (Ops.idx hO.2 rfl rfl rfl (by omega) (by omega) (Ops.ld_int hO rfl (by omega) rfl rfl ?_))))
   rw [mixP_get (by omega)]
   refine Ops.remT rfl rfl rfl (by omega) (Ops.idx hO.2 rfl rfl rfl (by omega) (by omega) (Ops.st_int 0 hS4 rfl rfl rfl (by omega) ?_))
   intro w5 hS5
   refine Ops.n (blockQ_n (tQ (Cd.region (Ops.add rfl rfl rfl (by omega) (Ops.mi rfl rfl rfl (Ops.n (tQ ?_)))))))
   exact ⟨v + 1, by show N - (v + 1) < N - v; omega, ⟨rfl, rfl, rfl, rfl, trivial⟩, by rw [← mixP_step (by omega)]; exact hS5, by omega⟩
  ·have hvN : v = N := by omega
   have hall : mixP dl v = partsP xss := by rw [hvN, show N = dl.length by omega, mixP_all, hparts]
   rw [hall] at hS4
   have hS4w := (hS3.later hS4.below)
   refine Cd.exit (thenQ_x (thenQ_x (blockQ_x (tQ (Cd.seq (Cd.seq (Cd.region (Ops.ld_agg 0 (hS4w.rd 0 rfl) rfl rfl rfl (Ops.call (endsOf_c A n c rs xss _ (hS4w.oldRows hR) hG) rfl rfl rfl ?_)))))))))
   rintro _ w6 ⟨A12, rs12, rfl, hrl2, hst6⟩
   have hE := hst6.rowsI hel
   have hP6 := hS3.none.call (hS4.call hst6 |>.sub (List.sublist_append_right _ _))
   have hPr := (hS4.later hst6.below).rdI 0 rfl
   rw [List.append_nil] at hP6
   generalize hm : edgesN xss = m at *
   generalize hEn : endsL xss = En at *
   generalize hpt : partsP xss = parts at *
   refine Ops.len rfl rfl (Ops.mi rfl rfl rfl (Ops.n (tQ (Cd.block ?_))))
   refine Cd.loop (α := Nat) (fun e => [(6, .slice A15 N N), (33, .slice A12 m m), (34, .int .i64 (m : Int)), (35, .int .i64 (e : Int))]) (fun e w' => St w6 w' [] ∧ e ≤ m ∧ ∀ e', e' < e → ¬ Bd En parts e') (fun e => m - e) 0 ⟨rfl, rfl, rfl, rfl, trivial⟩ ⟨St.refl w6, Nat.zero_le _, fun e' he' => by omega⟩ ?_
   rintro ed e w7 ⟨hS7, hed, hno⟩
   have hP := hS7.oldI hPr
   have hE7 := hS7.oldRows hE
   refine Cd.seq (Cd.region (Ops.lss rfl rfl rfl (Ops.n (tQ (Cd.seq ?_)))))
   refine Cd.cond_p _ rfl (fun h2 => ?_) (fun h2 => ?_)
   ·have hed' : ed < m := by omega
    have hrow := hE7.at_ (i := (ed : Int)) (by omega) h2
    have hrn := hE7.rowLen (k := (ed : Int)) (by omega) h2
    have hp := hep ed hed'
    have isbad : Bd En parts ed → ptBad xss := fun h => hbad.2 ⟨ed, hed', h⟩
    refine Cd.skip (tQ (Cd.seq (Cd.block (Cd.seq (Cd.region (Ops.idx hE7.top.2 rfl rfl rfl (by omega) (by omega) (Ops.ld_sl hE7.top rfl (by omega) rfl rfl ?_)))))))
    by_cases h3 : ((rg rs12 (ed : Int)).n : Int) = 1 --dup 2
    ·refine Ops.ms rfl rfl rfl (Ops.n (tQ (Cd.seq ?_)))
     refine Cd.draw [.ex (.slice ((rg rs12 (ed : Int)).a) ((rg rs12 (ed : Int)).n) ((rg rs12 (ed : Int)).c)), .ex (.int .i64 ((((rg rs12 (ed : Int)).n : Nat) : Int))), .ex (.bool (decide (((((rg rs12 (ed : Int)).n : Nat) : Int)) = ((1 : Int))))), .ex (.bool (true)), .ex (undef), .ex (undef), .ex (undef), .ex (undef), .ex (undef), .ex (undef), .ex (undef), .ex (undef), .ex (undef), .ex (undef), .ex (undef), .ex (undef), .ex (undef), .ex (.bool (true))] (by kernel_rfl) (by kernel_rfl) rfl (lx (lx (lx (lx (lx (lx (lx (lx (lx (lx (lx (lx (lx (lx (lx (lx (lx (lx (fun _ h => by cases h))))))))))))))))))) ⟨?_, ?_, ?_, ?_, ?_, ?_, ?_, ?_, ?_, ?_, ?_, ?_, ?_, ?_, ?_, ?_, ?_, ?_, trivial⟩ ?_
     ·intro e1 w1 hb hp hun
      refine Ops.ms rfl rfl rfl (Ops.n (d0 (by exact rfl)))
     ·intro e1 w1 hb hp hun
      refine Ops.len rfl rfl (Ops.n (d0 (by exact rfl)))
     ·intro e1 w1 hb hp hun
      refine Ops.eql rfl rfl rfl (Ops.n (d0 (by exact rfl)))
     ·intro e1 w1 hb hp hun
      refine Ops.mb rfl rfl rfl (Ops.n ?_)
      exact d0 (by exact congrArg Value.bool (decide_eq_true h3))
     ·intro e1 w1 hb hp hun
      refine Ops.k rfl rfl rfl rfl rfl (Ops.n (d0 (by exact rfl)))
     ·intro e1 w1 hb hp hun
      refine Ops.k rfl rfl rfl rfl rfl (Ops.n (d0 (by exact rfl)))
     ·intro e1 w1 hb hp hun
      refine Ops.k rfl rfl rfl rfl rfl (Ops.n (d0 (by exact rfl)))
     ·intro e1 w1 hb hp hun
      refine Ops.k rfl rfl rfl rfl rfl (Ops.n (d0 (by exact rfl)))
     ·intro e1 w1 hb hp hun
      refine Ops.k rfl rfl rfl rfl rfl (Ops.n (d0 (by exact rfl)))
     ·intro e1 w1 hb hp hun
      refine Ops.k rfl rfl rfl rfl rfl (Ops.n (d0 (by exact rfl)))
     ·intro e1 w1 hb hp hun
      refine Ops.k rfl rfl rfl rfl rfl (Ops.n (d0 (by exact rfl)))
     ·intro e1 w1 hb hp hun
      refine Ops.k rfl rfl rfl rfl rfl (Ops.n (d0 (by exact rfl)))
     ·intro e1 w1 hb hp hun
      refine Ops.k rfl rfl rfl rfl rfl (Ops.n (d0 (by exact rfl)))
     ·intro e1 w1 hb hp hun
      refine Ops.k rfl rfl rfl rfl rfl (Ops.n (d0 (by exact rfl)))
     ·intro e1 w1 hb hp hun
      refine Ops.k rfl rfl rfl rfl rfl (Ops.n (d0 (by exact rfl)))
     ·intro e1 w1 hb hp hun
      refine Ops.k rfl rfl rfl rfl rfl (Ops.n (d0 (by exact rfl)))
     ·intro e1 w1 hb hp hun
      refine Ops.k rfl rfl rfl rfl rfl (Ops.n (d0 (by exact rfl)))
     ·intro e1 w1 hb hp hun
      refine Ops.pick_t rfl rfl rfl (Ops.n (d0 (by exact rfl)))
     intro u w8 hb8 _
     have hS8 := hS7.later hb8
     refine tQ (Cd.cond_t rfl (Cd.seq (Cd.region (Ops.ms rfl rfl rfl (Ops.mi rfl rfl rfl (Ops.n (tQ (Cd.ret (blockQ_r ?_)))))))))
     refine thenQ_r (thenQ_r (blockQ_r (thenQ_r (ret2_si rfl rfl ?_))))
     rw [hfinK, hfinL, if_pos (isbad (.inl (by omega))), if_pos (isbad (.inl (by omega)))]
     exact AnsR.none (hP6.later hS8.below)
    ·have hx0 := hmem ed (gi (gl En (ed : Int)) 0) (by rw [show (0 : Int) = ((0 : Nat) : Int) from rfl, gi_mem (by omega)]; exact List.getElem_mem _)
     have hx1 := hmem ed (gi (gl En (ed : Int)) 1) (by rw [show (1 : Int) = ((1 : Nat) : Int) from rfl, gi_mem (by omega)]; exact List.getElem_mem _)
     refine Ops.ms rfl rfl rfl (Ops.n (tQ (Cd.seq ?_)))
     refine Cd.draw [.ex (.slice ((rg rs12 (ed : Int)).a) ((rg rs12 (ed : Int)).n) ((rg rs12 (ed : Int)).c)), .ex (.int .i64 ((((rg rs12 (ed : Int)).n : Nat) : Int))), .ex (.bool (decide (((((rg rs12 (ed : Int)).n : Nat) : Int)) = ((1 : Int))))), .ex (.bool (false)), .ex (.slice (A15) (N) (N)), .ex (.slice ((rg rs12 (ed : Int)).a) ((rg rs12 (ed : Int)).n) ((rg rs12 (ed : Int)).c)), .ex (.pointer (ptrAt ((rg rs12 (ed : Int)).a) ((0 : Int)).toNat)), .ex (.int .i64 (gi (gl En (ed : Int)) ((0 : Int)))), .ex (.pointer (ptrAt (A15) (gi (gl En (ed : Int)) ((0 : Int))).toNat)), .ex (.int .i64 (gi (parts) (gi (gl En (ed : Int)) ((0 : Int))))), .ex (.slice (A15) (N) (N)), .ex (.slice ((rg rs12 (ed : Int)).a) ((rg rs12 (ed : Int)).n) ((rg rs12 (ed : Int)).c)), .ex (.pointer (ptrAt ((rg rs12 (ed : Int)).a) ((1 : Int)).toNat)), .ex (.int .i64 (gi (gl En (ed : Int)) ((1 : Int)))), .ex (.pointer (ptrAt (A15) (gi (gl En (ed : Int)) ((1 : Int))).toNat)), .ex (.int .i64 (gi (parts) (gi (gl En (ed : Int)) ((1 : Int))))), .ex (.bool (decide ((gi (parts) (gi (gl En (ed : Int)) ((0 : Int)))) = (gi (parts) (gi (gl En (ed : Int)) ((1 : Int))))))), .ex (.bool (decide ((gi (parts) (gi (gl En (ed : Int)) ((0 : Int)))) = (gi (parts) (gi (gl En (ed : Int)) ((1 : Int)))))))] (by kernel_rfl) (by kernel_rfl) rfl (lx (lx (lx (lx (lx (lx (lx (lx (lx (lx (lx (lx (lx (lx (lx (lx (lx (lx (fun _ h => by cases h))))))))))))))))))) ⟨?_, ?_, ?_, ?_, ?_, ?_, ?_, ?_, ?_, ?_, ?_, ?_, ?_, ?_, ?_, ?_, ?_, ?_, trivial⟩ ?_
     ·intro e1 w1 hb hp hun
      refine Ops.ms rfl rfl rfl (Ops.n (d0 (by exact rfl)))
     ·intro e1 w1 hb hp hun
      refine Ops.len rfl rfl (Ops.n (d0 (by exact rfl)))
     ·intro e1 w1 hb hp hun
      refine Ops.eql rfl rfl rfl (Ops.n (d0 (by exact rfl)))
     ·intro e1 w1 hb hp hun
      refine Ops.mb rfl rfl rfl (Ops.n ?_)
      exact d0 (by exact congrArg Value.bool (decide_eq_false h3))
     ·intro e1 w1 hb hp hun
      refine Ops.g rfl rfl rfl (Ops.ms rfl rfl rfl (Ops.n (d0 (by exact rfl))))
     ·intro e1 w1 hb hp hun
      refine Ops.g rfl rfl rfl (Ops.ms rfl rfl rfl (Ops.n (d0 (by exact rfl))))
     ·intro e1 w1 hb hp hun
      refine Ops.g rfl rfl rfl (Ops.idx (hrow.later hb).2 rfl rfl rfl (by omega) (by omega) (Ops.n (d0 (by exact rfl))))
     ·intro e1 w1 hb hp hun
      refine Ops.g rfl rfl rfl (Ops.ld_int (hrow.later hb) rfl (by omega) rfl rfl (Ops.n (d0 (by exact rfl))))
     ·intro e1 w1 hb hp hun
      refine Ops.g rfl rfl rfl (Ops.idx (hP.later hb).2 rfl rfl rfl (by omega) (by omega) (Ops.n (d0 (by exact rfl))))
     ·intro e1 w1 hb hp hun
      refine Ops.g rfl rfl rfl (Ops.ld_int (hP.later hb) rfl (by omega) rfl rfl (Ops.n (d0 (by exact rfl))))
     ·intro e1 w1 hb hp hun
      refine Ops.g rfl rfl rfl (Ops.ms rfl rfl rfl (Ops.n (d0 (by exact rfl))))
     ·intro e1 w1 hb hp hun
      refine Ops.g rfl rfl rfl (Ops.ms rfl rfl rfl (Ops.n (d0 (by exact rfl))))
     ·intro e1 w1 hb hp hun
      refine Ops.g rfl rfl rfl (Ops.idx (hrow.later hb).2 rfl rfl rfl (by omega) (by omega) (Ops.n (d0 (by exact rfl))))
     ·intro e1 w1 hb hp hun
      refine Ops.g rfl rfl rfl (Ops.ld_int (hrow.later hb) rfl (by omega) rfl rfl (Ops.n (d0 (by exact rfl))))
     ·intro e1 w1 hb hp hun
      refine Ops.g rfl rfl rfl (Ops.idx (hP.later hb).2 rfl rfl rfl (by omega) (by omega) (Ops.n (d0 (by exact rfl))))
     ·intro e1 w1 hb hp hun
      refine Ops.g rfl rfl rfl (Ops.ld_int (hP.later hb) rfl (by omega) rfl rfl (Ops.n (d0 (by exact rfl))))
     ·intro e1 w1 hb hp hun
      refine Ops.g rfl rfl rfl (Ops.eql rfl rfl rfl (Ops.n (d0 (by exact rfl))))
     ·intro e1 w1 hb hp hun
      refine Ops.pick_f rfl rfl rfl (Ops.n (d0 (by exact rfl)))
     intro u w8 hb8 _
     have hS8 := hS7.later hb8
     refine tQ ?_
     refine Cd.cond_p _ rfl (fun h4 => ?_) (fun h4 => ?_)
     ·refine Cd.seq (Cd.region (Ops.ms rfl rfl rfl (Ops.mi rfl rfl rfl (Ops.n (tQ (Cd.ret (blockQ_r (thenQ_r (thenQ_r ?_)))))))))
      refine blockQ_r (thenQ_r (ret2_si rfl rfl ?_))
      rw [hfinK, hfinL, if_pos (isbad (.inr h4)), if_pos (isbad (.inr h4))]
      exact AnsR.none (hP6.later hS8.below)
     ·refine Cd.skip (blockQ_n (tQ (Cd.region (Ops.add rfl rfl rfl (by omega) (Ops.mi rfl rfl rfl (Ops.n (tQ ?_)))))))
      refine ⟨ed + 1, by show m - (ed + 1) < m - ed; omega, ⟨rfl, rfl, rfl, rfl, trivial⟩, hS8, by omega, fun e' he' => ?_⟩
      by_cases ee : e' = ed
      ·subst ee
       intro hb
       rcases hb with hb | hb
       ·omega
       ·exact h4 hb
      ·exact hno e' (by omega)
   ·refine Cd.exit (thenQ_x (thenQ_x (blockQ_x (tQ (Cd.seq (Cd.region (Ops.ms rfl rfl rfl (Ops.ms rfl rfl rfl (Ops.mi rfl rfl rfl ?_)))))))))
    refine Ops.n (tQ (Cd.ret (ret2_si rfl rfl ?_)))
    have hnb : ¬ ptBad xss := fun hb => by
     obtain ⟨e', he', hb'⟩ := hbad.1 hb
     exact hno e' (by omega) hb'
    rw [hfinK, hfinL, if_neg hnb, if_neg hnb]
    exact AnsR.mk (by omega) (hP6.later hS7.below)
end Go.Proofs.YtbhnfehcpnnjcaaGreatDoor.Vc
/-
 Plain mathematics of the girth: distances are the same both ways; the shortest ways round, by edges and by neighbours. Conditions: as each states them. No program in sight.
-/
namespace Go.Proofs.YtbhnfehcpnnjcaaGreatDoor.Vc

/-! a graph without an edge -/
def restL (next : List (List Int)) (u v : Int) : List (List Int) := (next.set u.toNat (lessL (gl next u) [v])).set v.toNat (lessL (gl next v) [u])
theorem lessL_mem {a b : List Int} {x : Int} : x ∈ lessL a b ↔ x ∈ a ∧ x ∉ b := by simp [lessL]
theorem restL_len (next : List (List Int)) (u v : Int) : (restL next u v).length = next.length := by simp [restL]
theorem rest_gl {n : Nat} {next : List (List Int)} (hl : next.length = n) {u v : Int} (h0 : 0 ≤ u) (h1 : u < n) (h2 : 0 ≤ v) (h3 : v < n) (e : Int) (he : 0 ≤ e) : gl (restL next u v) e = if v = e then lessL (gl next v) [u] else if u = e then lessL (gl next u) [v] else gl next e := by
 unfold restL
 rw [gl_set2 e he (by rw [List.length_set]; omega), gl_set2 e he (by omega), Int.toNat_of_nonneg h0, Int.toNat_of_nonneg h2]
theorem rest_mem {n : Nat} {next : List (List Int)} (hl : next.length = n) {u v : Int} (hne : u ≠ v) (h0 : 0 ≤ u) (h1 : u < n) (h2 : 0 ≤ v) (h3 : v < n) (e : Int) (he : 0 ≤ e) (x : Int) : x ∈ gl (restL next u v) e ↔ x ∈ gl next e ∧ ¬ (e = u ∧ x = v) ∧ ¬ (e = v ∧ x = u) := by
 rw [rest_gl hl h0 h1 h2 h3 e he]
 by_cases e1 : v = e
 ·subst e1
  rw [if_pos rfl, lessL_mem, List.mem_singleton]
  constructor
  ·rintro ⟨a, b⟩
   exact ⟨a, fun h => hne h.1.symm, fun h => b h.2⟩
  ·rintro ⟨a, _, c⟩
   exact ⟨a, fun h => c ⟨rfl, h⟩⟩
 ·rw [if_neg e1]
  by_cases e2 : u = e
  ·subst e2
   rw [if_pos rfl, lessL_mem, List.mem_singleton]
   constructor
   ·rintro ⟨a, b⟩
    exact ⟨a, fun h => b h.2, fun h => hne h.1⟩
   ·rintro ⟨a, b, _⟩
    exact ⟨a, fun h => b ⟨rfl, h⟩⟩
  ·rw [if_neg e2]
   exact ⟨fun h => ⟨h, fun h' => e2 h'.1.symm, fun h' => e1 h'.1.symm⟩, fun h => h.1⟩
theorem rest_gr {n : Nat} {next : List (List Int)} (hg : Gr n next) {u v : Int} (h0 : 0 ≤ u) (h1 : u < n) (h2 : 0 ≤ v) (h3 : v < n) : Gr n (restL next u v) := by
 refine ⟨by rw [restL_len]; exact hg.len, hg.small, fun e he => ?_⟩
 have less : ∀ w : Int, 0 ≤ w → ∀ b : List Int, (∀ x ∈ lessL (gl next w) b, 0 ≤ x ∧ x < n) ∧ (lessL (gl next w) b).length ≤ 1000 := fun w hw b => by
  have hr := hg.row w hw
  refine ⟨fun x hx => hr.1 x (lessL_mem.1 hx).1, ?_⟩
  have := List.length_filter_le (fun x => !decide (x ∈ b)) (gl next w)
  unfold lessL
  omega
 rw [rest_gl hg.len h0 h1 h2 h3 e he]
 split
 ·exact less v h2 _
 ·split
  ·exact less u h0 _
  ·exact hg.row e he
theorem rest_symm {n : Nat} {next : List (List Int)} (hg : Gr n next) (hs : SymG n next) {u v : Int} (hne : u ≠ v) (h0 : 0 ≤ u) (h1 : u < n) (h2 : 0 ≤ v) (h3 : v < n) : SymG n (restL next u v) := by
 intro a x ha ha' hx
 obtain ⟨h4, h5, h6⟩ := (rest_mem hg.len hne h0 h1 h2 h3 a ha x).1 hx
 have hxr := (hg.row a ha).1 x h4
 exact (rest_mem hg.len hne h0 h1 h2 h3 x hxr.1 a).2 ⟨hs a x ha ha' h4, fun h => h6 ⟨h.2, h.1⟩, fun h => h5 ⟨h.2, h.1⟩⟩
theorem rest_swap {next : List (List Int)} {u v : Int} (hne : u ≠ v) (h0 : 0 ≤ u) (h2 : 0 ≤ v) : restL next u v = restL next v u := by
 unfold restL
 rw [List.set_comm _ _ (show u.toNat ≠ v.toNat by omega)]
/-- the way round -/
def wayL (next : List (List Int)) (u v : Int) : Int := gi (distP (restL next u v) (-1) u).1 v
theorem way_swap {n : Nat} {next : List (List Int)} (hg : Gr n next) (hs : SymG n next) {u v : Int} (hne : u ≠ v) (h0 : 0 ≤ u) (h1 : u < n) (h2 : 0 ≤ v) (h3 : v < n) (hp : 0 ≤ wayL next u v) : wayL next v u = wayL next u v := by
 unfold wayL at hp ⊢
 rw [rest_swap (fun h => hne h.symm) h2 h0]
 exact dist_symm (rest_gr hg h0 h1 h2 h3) (rest_symm hg hs hne h0 h1 h2 h3) h0 h1 h2 h3 hp
theorem way_small {n : Nat} {next : List (List Int)} (hg : Gr n next) {u v : Int} (h0 : 0 ≤ u) (h1 : u < n) (h2 : 0 ≤ v) (h3 : v < n) : wayL next u v < n := (dist_DF (rest_gr hg h0 h1 h2 h3) h0 h1).top v h2 h3

/-! the least -/
def gstep (g w : Int) : Int := if 0 < w ∧ (g = 0 ∨ w + 1 < g) then w + 1 else g
def mnG (l : List Int) : Int := l.foldl gstep 0
theorem mnG_snoc (l : List Int) (w : Int) : mnG (l ++ [w]) = gstep (mnG l) w := by simp [mnG, List.foldl_append]
theorem mnG_spec (l : List Int) : (mnG l = 0 ∧ ∀ w ∈ l, w ≤ 0) ∨ ∃ w ∈ l, 0 < w ∧ mnG l = w + 1 ∧ ∀ w' ∈ l, 0 < w' → w ≤ w' := by
 induction l using snoc_ind with
 | h0 => exact .inl ⟨rfl, fun w hw => (nomatch hw)⟩
 | h1 l a ih =>
  rw [mnG_snoc]
  unfold gstep
  rcases ih with ⟨h1, h2⟩ | ⟨w, hw, hp, he, hm⟩
  ·rw [h1]
   by_cases ha : 0 < a
   ·rw [if_pos ⟨ha, .inl rfl⟩]
    refine .inr ⟨a, by simp, ha, rfl, fun w' hw' hp => ?_⟩
    rcases List.mem_append.1 hw' with h | h
    ·have := h2 w' h; omega
    ·simp at h; omega
   ·rw [if_neg (fun h => ha h.1)]
    refine .inl ⟨rfl, fun w hw => ?_⟩
    rcases List.mem_append.1 hw with h | h
    ·exact h2 w h
    ·simp at h; omega
  ·rw [he]
   right
   by_cases hc : 0 < a ∧ (w + 1 = 0 ∨ a + 1 < w + 1)
   ·rw [if_pos hc]
    refine ⟨a, by simp, hc.1, rfl, fun w' hw' hp' => ?_⟩
    rcases List.mem_append.1 hw' with h | h
    ·have := hm w' h hp'; omega
    ·simp at h; omega
   ·rw [if_neg hc]
    refine ⟨w, by simp [hw], hp, rfl, fun w' hw' hp' => ?_⟩
    rcases List.mem_append.1 hw' with h | h
    ·exact hm w' h hp'
    ·simp at h; omega
theorem mnG_eq {l l' : List Int} (h : ∀ w, 0 < w → (w ∈ l ↔ w ∈ l')) : mnG l = mnG l' := by
 rcases mnG_spec l with ⟨h1, h2⟩ | ⟨w, hw, hp, he, hm⟩ <;> rcases mnG_spec l' with ⟨h1', h2'⟩ | ⟨w', hw', hp', he', hm'⟩
 ·rw [h1, h1']
 ·have := h2 w' ((h w' hp').2 hw'); omega
 ·have := h2' w ((h w hp).1 hw); omega
 ·have a := hm w' ((h w' hp').2 hw') hp'
  have b := hm' w ((h w hp).1 hw) hp
  omega
theorem mnG_bd {l : List Int} {b : Int} (h : ∀ w ∈ l, w ≤ b) (hb : 0 ≤ b) : 0 ≤ mnG l ∧ mnG l ≤ b + 1 := by
 rcases mnG_spec l with ⟨h1, _⟩ | ⟨w, hw, hp, he, _⟩
 ·omega
 ·have := h w hw; omega

/-! both sides' ways -/
def implW (n : Nat) (next : List (List Int)) : List Int := (List.range n).flatMap fun v : Nat => (gl next (v : Int)).map (wayL next (v : Int))
def specW (En next : List (List Int)) : List Int := En.map fun l => wayL next (gi l 0) (gi l 1)
theorem sa_two {l : List Int} {a b : Int} (h : SA l) (hm : ∀ x ∈ l, x = a ∨ x = b) : l.length ≤ 2 := by
 match l, h, hm with
 | [], _, _ => simp
 | [_], _, _ => simp
 | [_, _], _, _ => simp
 | x :: y :: z :: r, h, hm =>
  unfold SA at h
  simp only [List.pairwise_cons] at h
  have h1 := h.1 y (by simp)
  have h2 := h.1 z (by simp)
  have h3 := h.2.1 z (by simp)
  have m1 := hm x (by simp)
  have m2 := hm y (by simp)
  have m3 := hm z (by simp)
  omega
theorem ends_le2 {xss : List (List Int)} (hG : Grph xss) (e : Nat) (he : e < edgesN xss) : (gl (endsL xss) (e : Int)).length ≤ 2 := by
 have hM := hG.1
 obtain ⟨x, hx⟩ := List.exists_mem_of_length_pos (ends_pos hM e he)
 obtain ⟨k, hk, hke, hkx⟩ := (ends_iff hM e (by omega) x).1 hx
 refine sa_two (a := gi (facesL xss 0) k) (b := gi (facesL xss 0) (gi (gl xss 0) k)) (by rw [endsL, gl_ends]; exact cs_SA _) fun y hy => ?_
 obtain ⟨j, hj, hje, hjy⟩ := (ends_iff hM e (by omega) y).1 hy
 have hr := faces_same hM (i := 1) (f := k) (g := j) (by omega) (by omega) (by omega) (by omega) (by rw [hke, hje])
 rcases ends_two hM hG.2 (by omega) (by omega) hr with ⟨a, _⟩ | ⟨a, _⟩
 ·left; rw [← hjy, a]
 ·right; rw [← hjy, a]
theorem ends_rng {xss : List (List Int)} (hM : Mani xss) (e : Nat) (h2 : (gl (endsL xss) (e : Int)).length = 2) : (0 ≤ gi (gl (endsL xss) (e : Int)) 0 ∧ gi (gl (endsL xss) (e : Int)) 0 < (vertsN xss : Int)) ∧ (0 ≤ gi (gl (endsL xss) (e : Int)) 1 ∧ gi (gl (endsL xss) (e : Int)) 1 < (vertsN xss : Int)) :=
 ⟨endsL_mem hM e (by omega) _ (gi_in2 (by omega) (by omega)), endsL_mem hM e (by omega) _ (gi_in2 (by omega) (by omega))⟩
theorem ways_same {xss : List (List Int)} (hG : Grph xss) (hall : ∀ e, e < edgesN xss → (gl (endsL xss) (e : Int)).length = 2) {w : Int} (hw : 0 < w) : w ∈ implW (vertsN xss) (nbL xss) ↔ w ∈ specW (endsL xss) (nbL xss) := by
 have hM := hG.1
 have hg := nb_gr hM
 have hs := nb_symG hM
 have hel := endsL_len xss
 unfold implW specW
 rw [List.mem_flatMap, List.mem_map]
 constructor
 ·rintro ⟨v, hv, hm⟩
  obtain ⟨x, hx, rfl⟩ := List.mem_map.1 hm
  obtain ⟨j, hj, h2, h3⟩ := (nb_iff hM v (by omega) x).1 hx
  have hr := ends_rng hM j h2
  have hlt := ends_lt j h2
  refine ⟨gl (endsL xss) (j : Int), gl_in (by omega) (by rw [hel]; omega), ?_⟩
  simp only [Prod.mk.injEq] at h3
  rcases h3 with ⟨a, b⟩ | ⟨a, b⟩
  ·rw [a, b]
  ·rw [a, b] at hw ⊢
   exact way_swap hg hs (by omega) hr.2.1 hr.2.2 hr.1.1 hr.1.2 (by omega)
 ·rintro ⟨l, hl, rfl⟩
  obtain ⟨j, hj, rfl⟩ := List.mem_iff_getElem.1 hl
  rw [hel] at hj
  have e1 : (endsL xss)[j] = gl (endsL xss) (j : Int) := by simp [gl, List.getD_eq_getElem?_getD, hel, hj]
  rw [e1] at hw ⊢
  have h2 := hall j hj
  have hr := ends_rng hM j h2
  refine ⟨(gi (gl (endsL xss) (j : Int)) 0).toNat, List.mem_range.2 (by omega), ?_⟩
  rw [Int.toNat_of_nonneg hr.1.1]
  exact List.mem_map_of_mem ((nb_iff hM _ hr.1.1 _).2 ⟨j, hj, h2, .inl rfl⟩)

/-! the answer -/
def Loop1 (xss : List (List Int)) : Prop := ∃ e, e < edgesN xss ∧ (gl (endsL xss) (e : Int)).length = 1
open Classical in
noncomputable def girN (xss : List (List Int)) : Int := if Loop1 xss then 1 else if ¬ (endsL xss).Nodup then 2 else mnG (specW (endsL xss) (nbL xss))
open Classical in
noncomputable def girV (xss : List (List Int)) : Int := if Grph xss then girN xss else 0
open Classical in
noncomputable def girK (xss : List (List Int)) : Int := if ¬ Grph xss then 1 else if girN xss = 0 then 4 else 0
theorem all_two {xss : List (List Int)} (hG : Grph xss) (h : ¬ Loop1 xss) : ∀ e, e < edgesN xss → (gl (endsL xss) (e : Int)).length = 2 := fun e he => by
 have h1 := ends_pos hG.1 e he
 have h2 := ends_le2 hG e he
 have h3 : (gl (endsL xss) (e : Int)).length ≠ 1 := fun h' => h ⟨e, he, h'⟩
 omega
theorem girN_loop {xss : List (List Int)} (h : Loop1 xss) : girN xss = 1 := by unfold girN; rw [if_pos h]
theorem girN_double {xss : List (List Int)} (h : ¬ Loop1 xss) (h2 : ¬ (endsL xss).Nodup) : girN xss = 2 := by unfold girN; rw [if_neg h, if_pos h2]
theorem girN_spec {xss : List (List Int)} (h : ¬ Loop1 xss) (h2 : (endsL xss).Nodup) : girN xss = mnG (specW (endsL xss) (nbL xss)) := by unfold girN; rw [if_neg h, if_neg (fun h' => h' h2)]
theorem girN_impl {xss : List (List Int)} (hG : Grph xss) (h : ¬ Loop1 xss) (h2 : (endsL xss).Nodup) : girN xss = mnG (implW (vertsN xss) (nbL xss)) := by
 rw [girN_spec h h2]
 exact (mnG_eq fun w hw => ways_same hG (all_two hG h) hw).symm
end Go.Proofs.YtbhnfehcpnnjcaaGreatDoor.Vc
/-
 Cut vertices on both sides. Conditions: as each states them.
-/
namespace Go.Proofs.YtbhnfehcpnnjcaaGreatDoor.Vc
open Go.RowKit

def sn (l : List Int) : List Bool := l.map fun y => decide (0 ≤ y)
theorem gb_sn {l : List Int} {x : Int} (h0 : 0 ≤ x) (h1 : x < l.length) : gb (sn l) x = decide (0 ≤ gi l x) := by
 obtain ⟨k, rfl⟩ : ∃ k : Nat, x = k := ⟨x.toNat, by omega⟩
 have hk : k < l.length := by omega
 rw [gi_mem hk]
 simp [gb, sn, List.getD_eq_getElem?_getD, List.getElem?_eq_getElem hk]
theorem sn_set {l : List Int} {i : Nat} {v : Int} (h : 0 ≤ v) : sn (l.set i v) = (sn l).set i true := by
 unfold sn
 rw [List.map_set, decide_eq_true h]

theorem reachedFrom_c (A : Option Addr) (n c : Nat) (rs : List SlV) (next : List (List Int)) (v wo : Int) (w : World) (hR : RowsI w A n rs next) (hg : Gr n next) (h0 : 0 ≤ v) (h1 : v < n) :
    Ret Tryz.prog 36 [.slice A n c, .int .i64 v, .int .i64 wo] w (fun r w' => ∃ A' c', r = .slice A' (distP next wo v).2.length c' ∧ St w w' []) := by
  have hl := hg.len
  have hsm := hg.small
  refine Ret.of_cd Tryz.func36 rfl Tryz.ntmps36 rfl (post1 rfl) (Cd.seq (Cd.region (Ops.ms rfl rfl rfl (Ops.n (tQ (Cd.seq (Cd.region (Ops.ms rfl rfl rfl (Ops.len rfl rfl ?_)))))))))
  refine Ops.mkB n (St.refl w) rfl rfl (by omega) ?_
  intro A7 w1 hS1
  refine Ops.ms rfl rfl rfl (Ops.n (tQ (Cd.seq (Cd.region (Ops.ms rfl rfl rfl (Ops.mi rfl rfl rfl (Ops.idx (hS1.rdB 0 rfl).2 rfl rfl rfl h0 h1 (Ops.st_bool 0 hS1 rfl rfl rfl (by omega) ?_))))))))
  intro w3 hS3
  refine Ops.n (tQ (Cd.seq (Cd.region (Ops.mi rfl rfl rfl (Ops.bs1I hS3 rfl rfl rfl ?_)))))
  intro A9 w4 hS4
  have hS4 : St w w4 [CkI 2 A9 (initB n v).2.length 1 (initB n v).2, CkB 4 A7 n n (sn (initB n v).1)] := by
    have e : sn (initB n v).1 = (List.replicate n false).set v.toNat true := by
      show sn ((List.replicate n (-1)).set v.toNat 0) = _
      rw [sn_set (Int.le_refl 0)]
      simp [sn]
    rw [e]
    exact hS4
  have hfin : distP next wo v = bfsD next wo (n + 1 - 0) 0 (initB n v) := by unfold distP; rw [hl]; rfl
  refine Ops.ms rfl rfl rfl (Ops.n (tQ (Cd.seq (Cd.seq (Cd.region (Ops.mi rfl rfl rfl (Ops.n (tQ (Cd.block ?_)))))))))
  refine Cd.loop (α := Nat × Option Addr × Nat × (List Int × List Int)) (fun z => [(0, .slice A n c), (2, .int .i64 wo), (7, .slice A7 n n), (8, .slice z.2.1 z.2.2.2.2.length z.2.2.1), (9, .int .i64 (z.1 : Int))])
    (fun z w' => St w w' [CkI 2 z.2.1 z.2.2.2.2.length z.2.2.1 z.2.2.2.2, CkB 4 A7 n n (sn z.2.2.2.1)] ∧ BF n z.2.2.2 ∧ z.1 ≤ z.2.2.2.2.length ∧ distP next wo v = bfsD next wo (n + 1 - z.1) z.1 z.2.2.2)
    (fun z => n + 1 - z.1) (0, A9, 1, initB n v) ⟨rfl, rfl, rfl, rfl, rfl, trivial⟩ ⟨hS4, BF.init h0 h1, Nat.zero_le _, hfin⟩ ?_
  rintro ⟨i, A10, c10, st⟩ e w5 ⟨hS5, hB, hi, hD⟩
  dsimp only at hS5 hB hi hD ⊢
  have hql := hB.len2
  refine Cd.seq (Cd.seq (Cd.region (Ops.mi rfl rfl rfl (Ops.ms rfl rfl rfl (Ops.len rfl rfl (Ops.lss rfl rfl rfl (Ops.n (tQ ?_))))))))
  refine Cd.cond_p _ rfl (fun h3 => ?_) (fun h3 => ?_)
  · have hi' : i < st.2.length := by omega
    have hQ := hS5.rdI 0 rfl
    have hum : gi st.2 (i : Int) ∈ st.2 := gi_in hi'
    have hur := hB.rng _ hum
    have hrow := hg.row (gi st.2 (i : Int)) hur.1
    have hR5 := hS5.oldRows hR
    rw [bfsD_go hi' (by omega)] at hD
    refine Cd.skip (tQ (Cd.seq (Cd.block (Cd.seq (Cd.region (Ops.ms rfl rfl rfl (Ops.ms rfl rfl rfl (Ops.mi rfl rfl rfl (Ops.idx hQ.2 rfl rfl rfl (by omega) (by omega) ?_)))))))))
    refine Ops.ld_int hQ rfl (by omega) rfl rfl ?_
    generalize hu : gi st.2 (i : Int) = u at *
    have hnr : (gl next u).length = (rg rs u).n := hR.rowLen hur.1 hur.2
    refine Ops.idx hR5.top.2 rfl rfl rfl hur.1 hur.2 (Ops.ld_sl hR5.top rfl (by omega) rfl rfl (Ops.len rfl rfl (Ops.mi rfl rfl rfl (Ops.n (tQ (Cd.block ?_))))))
    refine Cd.loop (α := Nat × Option Addr × Nat × (List Int × List Int)) (fun z => [(0, .slice A n c), (2, .int .i64 wo), (7, .slice A7 n n), (8, .slice z.2.1 z.2.2.2.2.length z.2.2.1), (9, .int .i64 (i : Int)), (32, .slice (rg rs u).a (rg rs u).n (rg rs u).c), (33, .int .i64 ((rg rs u).n : Int)), (34, .int .i64 (z.1 : Int))])
      (fun z w' => St w w' [CkI 2 z.2.1 z.2.2.2.2.length z.2.2.1 z.2.2.2.2, CkB 4 A7 n n (sn z.2.2.2.1)] ∧ z.1 ≤ (gl next u).length ∧ z.2.2.2 = rowB wo u ((gl next u).take z.1) st)
      (fun z => (gl next u).length - z.1) (0, A10, c10, st) ⟨rfl, rfl, rfl, rfl, rfl, rfl, rfl, rfl, trivial⟩ ⟨hS5, Nat.zero_le _, rfl⟩ ?_
    rintro ⟨j, A11, c11, sj⟩ e w6 ⟨hS6, hj, hsj⟩
    dsimp only at hS6 hj hsj ⊢
    obtain ⟨hBj, hpre⟩ := BF.row (wo := wo) ((gl next u).take j) hB hum (fun x hx => hrow.1 x (List.mem_of_mem_take hx))
    rw [← hsj] at hBj hpre
    have hR6 := hS6.oldRows hR
    have hqj := hBj.len2
    have hlj := hBj.len
    have hpl := hpre.length_le
    refine Cd.seq (Cd.region (Ops.lss rfl rfl rfl (Ops.n (tQ (Cd.seq ?_)))))
    refine Cd.cond_p _ rfl (fun h4 => ?_) (fun h4 => ?_)
    · have hj' : j < (gl next u).length := by omega
      have hrowR := hR6.at_ (i := u) hur.1 hur.2
      have hxm : gi (gl next u) (j : Int) ∈ gl next u := gi_in hj'
      have hx := hrow.1 _ hxm
      have hstep : rowB wo u ((gl next u).take (j + 1)) st = stepB wo u sj (gi (gl next u) (j : Int)) := by rw [take_succ_gi hj', rowB_snoc, ← hsj]
      have hO := hS6.rdB 1 rfl
      have hgu := hBj.pos u (hpre.subset hum)
      refine Cd.skip (tQ (Cd.seq (Cd.block (Cd.seq (Cd.region (Ops.idx hrowR.2 rfl rfl rfl (by omega) (by omega) (Ops.ld_int hrowR rfl (by omega) rfl rfl ?_)))))))
      generalize hxe : gi (gl next u) (j : Int) = x at *
      have hgb := gb_sn (l := sj.1) hx.1 (by omega)
      refine Ops.mi rfl rfl rfl (Ops.n (tQ (Cd.seq (Cd.region (Ops.mi rfl rfl rfl (Ops.mi rfl rfl rfl (Ops.neq rfl rfl rfl (Ops.mb rfl rfl rfl ?_))))))))
      refine Ops.split_p 41 rfl (fun h5 => ?_) (fun h5 => ?_)
      · refine Ops.g rfl rfl rfl (Ops.ms rfl rfl rfl (Ops.g rfl rfl rfl (Ops.mi rfl rfl rfl (Ops.g rfl rfl rfl (Ops.idx hO.2 rfl rfl rfl hx.1 hx.2 (Ops.g rfl rfl rfl (Ops.ld_bool hO rfl (by omega) rfl rfl (Ops.g rfl rfl rfl ?_))))))))
        first | refine Ops.not_p rfl rfl ?_ | refine Ops.not rfl rfl ?_
        refine Ops.pick_t rfl rfl rfl (Ops.n (tQ ?_))
        refine Cd.cond rfl (fun h6 => ?_) (fun h6 => ?_)
        · have h7 : gi sj.1 x < 0 := by rw [hgb] at h6; simpa using h6
          have hst : stepB wo u sj x = (sj.1.set x.toNat (gi sj.1 u + 1), sj.2 ++ [x]) := by unfold stepB; rw [if_pos ⟨h7, h5⟩]
          refine Cd.seq (Cd.region (Ops.ms rfl rfl rfl (Ops.mi rfl rfl rfl (Ops.idx hO.2 rfl rfl rfl hx.1 hx.2 (Ops.st_bool 1 hS6 rfl rfl rfl (by omega) ?_)))))
          intro w7 hS7
          refine Ops.n (tQ (Cd.region (Ops.ms rfl rfl rfl (Ops.mi rfl rfl rfl (Ops.bs1I hS7 rfl rfl rfl ?_)))))
          intro A12 w8 hS8
          refine Ops.appI 1 hS8 rfl (hS8.rdI 0 rfl) rfl rfl rfl (by omega) (by omega) rfl ?_
          intro A13 c13 w9 hS9
          refine Ops.ms rfl rfl rfl (Ops.n (blockQ_n (tQ (Cd.region (Ops.add rfl rfl rfl (by omega) (Ops.mi rfl rfl rfl (Ops.n (tQ ?_))))))))
          have e2 : (sj.2 ++ [x]).length = sj.2.length + 1 := by simp
          refine ⟨(j + 1, A13, c13, stepB wo u sj x), by show _ - (j + 1) < _ - j; omega, ⟨rfl, rfl, rfl, by show Value.slice _ _ _ = .slice _ _ _; rw [hst]; show Value.slice _ _ _ = .slice _ (sj.2 ++ [x]).length _; rw [e2], rfl, rfl, rfl, rfl, trivial⟩, ?_, hj', hstep.symm⟩
          show St w w9 [CkI _ A13 (stepB wo u sj x).2.length c13 (stepB wo u sj x).2, CkB _ A7 n n (sn (stepB wo u sj x).1)]
          rw [hst]
          show St w w9 [CkI _ A13 (sj.2 ++ [x]).length c13 (sj.2 ++ [x]), CkB _ A7 n n (sn (sj.1.set x.toNat (gi sj.1 u + 1)))]
          rw [e2, sn_set (by omega)]
          exact hS9.tail
        · have h7 : ¬ gi sj.1 x < 0 := by rw [hgb] at h6; simp at h6; omega
          have hst : stepB wo u sj x = sj := by unfold stepB; rw [if_neg (fun h => h7 h.1)]
          rw [hst] at hstep
          refine Cd.skip (blockQ_n (tQ (Cd.region (Ops.add rfl rfl rfl (by omega) (Ops.mi rfl rfl rfl (Ops.n (tQ ?_)))))))
          exact ⟨(j + 1, A11, c11, sj), by show _ - (j + 1) < _ - j; omega, ⟨rfl, rfl, rfl, rfl, rfl, rfl, rfl, rfl, trivial⟩, hS6, hj', hstep.symm⟩
      · have hst : stepB wo u sj x = sj := by unfold stepB; rw [if_neg (fun h => h5 h.2)]
        rw [hst] at hstep
        refine Ops.k rfl rfl rfl rfl rfl (Ops.k rfl rfl rfl rfl rfl (Ops.k rfl rfl rfl rfl rfl (Ops.k rfl rfl rfl rfl rfl (Ops.k rfl rfl rfl rfl rfl (Ops.pick_f rfl rfl rfl (Ops.n (tQ (Cd.cond_f rfl (Cd.skip ?_)))))))))
        refine blockQ_n (tQ (Cd.region (Ops.add rfl rfl rfl (by omega) (Ops.mi rfl rfl rfl (Ops.n (tQ ?_))))))
        exact ⟨(j + 1, A11, c11, sj), by show _ - (j + 1) < _ - j; omega, ⟨rfl, rfl, rfl, rfl, rfl, rfl, rfl, rfl, trivial⟩, hS6, hj', hstep.symm⟩
    · refine Cd.exit (thenQ_x (thenQ_x (blockQ_x (blockQ_n (tQ (Cd.region (Ops.mi rfl rfl rfl (Ops.add rfl rfl rfl (by omega) (Ops.mi rfl rfl rfl ?_)))))))))
      refine Ops.n (tQ ?_)
      have hje : j = (gl next u).length := by omega
      subst hje
      rw [List.take_length] at hsj
      rw [← hsj] at hD
      exact ⟨(i + 1, A11, c11, sj), by show n + 1 - (i + 1) < n + 1 - i; omega, ⟨rfl, rfl, rfl, rfl, rfl, trivial⟩, hS6, hBj, by show i + 1 ≤ sj.2.length; omega, by show distP next wo v = bfsD next wo (n + 1 - (i + 1)) (i + 1) sj; rw [hD]; congr 1⟩
  · refine Cd.exit (thenQ_x (thenQ_x (blockQ_x (tQ (Cd.seq (Cd.region (Ops.ms rfl rfl rfl (Ops.ms rfl rfl rfl (Ops.n ?_)))))))))
    refine tQ (Cd.ret (ret1_s rfl ?_))
    rw [bfsD_end (by omega)] at hD
    rw [hD]
    exact ⟨A10, c10, rfl, hS5.none⟩

/-! what is left out is never reached; a vertex besides is missed just where the list is short -/
theorem step_wo {wo u x : Int} {st : List Int × List Int} (h0 : 0 ≤ wo) (hx : 0 ≤ x) (h : gi st.1 wo < 0) : gi (stepB wo u st x).1 wo < 0 := by
 unfold stepB
 split
 ·rename_i hc
  show gi (st.1.set x.toNat _) wo < 0
  by_cases hl : x.toNat < st.1.length
  ·rw [gi_setI hl h0, if_neg (by omega)]; exact h
  ·rw [List.set_eq_of_length_le (by omega)]; exact h
 ·exact h
theorem row_wo {wo u : Int} (r : List Int) (h0 : 0 ≤ wo) : ∀ {st : List Int × List Int}, (∀ x ∈ r, 0 ≤ x) → gi st.1 wo < 0 → gi (rowB wo u r st).1 wo < 0 := by
 induction r using snoc_ind with
 | h0 => intro st _ h; exact h
 | h1 l a ih =>
  intro st hr h
  rw [rowB_snoc]
  exact step_wo h0 (hr a (by simp)) (ih (fun x hx => hr x (by simp [hx])) h)
theorem bfs_wo {n : Nat} {next : List (List Int)} {wo : Int} (hg : Gr n next) (h0 : 0 ≤ wo) : ∀ (f i : Nat) (st : List Int × List Int), BF n st → gi st.1 wo < 0 → gi (bfsD next wo f i st).1 wo < 0
 | 0, _, _, _, h => h
 | f + 1, i, st, hB, h => by
  rw [bfsD]
  split
  ·rename_i hi
   have hum : gi st.2 (i : Int) ∈ st.2 := gi_in hi
   have hrow := (hg.row _ (hB.rng _ hum).1).1
   exact bfs_wo hg h0 f _ _ (BF.row (wo := wo) _ hB hum hrow).1 (row_wo _ h0 (fun x hx => (hrow x hx).1) h)
  ·exact h
theorem dist_wo {n : Nat} {next : List (List Int)} {wo v : Int} (hg : Gr n next) (h0 : 0 ≤ v) (h1 : v < n) (h2 : 0 ≤ wo) (h3 : wo < n) (hne : v ≠ wo) : gi (distP next wo v).1 wo < 0 := by
 unfold distP
 rw [hg.len]
 refine bfs_wo hg h2 _ _ _ (BF.init h0 h1) ?_
 show gi ((List.replicate n (-1)).set v.toNat 0) wo < 0
 rw [gi_setI (by simp; omega) h2, if_neg (by omega), gi_rep h2 h3]
 decide
theorem missed_iff {n : Nat} {next : List (List Int)} {wo v : Int} (hg : Gr n next) (h0 : 0 ≤ v) (h1 : v < n) (h2 : 0 ≤ wo) (h3 : wo < n) (hne : v ≠ wo) : (∃ u : Nat, u < n ∧ (u : Int) ≠ wo ∧ gi (distP next wo v).1 u < 0) ↔ ((distP next wo v).2.length : Int) < (n : Int) - 1 := by
 have hB := dist_BF (wo := wo) hg h0 h1
 have hw := dist_wo hg h0 h1 h2 h3 hne
 have hl := hB.len
 have hc := hB.cnt
 have hs := unl_set (L := (distP next wo v).1) (x := wo) (c := 0) h2 (by omega) hw (Int.le_refl 0)
 generalize distP next wo v = st at *
 have key : (∃ u : Nat, u < n ∧ (u : Int) ≠ wo ∧ gi st.1 u < 0) ↔ 0 < unl (st.1.set wo.toNat 0) := by
  unfold unl
  rw [List.countP_pos_iff]
  constructor
  ·rintro ⟨u, hu, hune, hneg⟩
   refine ⟨gi (st.1.set wo.toNat 0) u, gi_in (by simp; omega), ?_⟩
   rw [gi_setI (by omega) (by omega), if_neg (by omega)]
   exact decide_eq_true hneg
  ·rintro ⟨y, hy, hneg⟩
   have hneg := of_decide_eq_true hneg
   obtain ⟨k, hk, rfl⟩ := List.mem_iff_getElem.1 hy
   have hk' : k < st.1.length := by simpa using hk
   rw [← gi_mem hk, gi_setI (by omega) (by omega)] at hneg
   split at hneg
   ·omega
   ·exact ⟨k, by omega, by omega, hneg⟩
 rw [key]
 omega

def oth (v : Nat) : Int := if v = 0 then 1 else 0
def isCut (next : List (List Int)) (N v : Nat) : Prop := oth v < N ∧ ((distP next (v : Int) (oth v)).2.length : Int) < (N : Int) - 1
instance (next : List (List Int)) (N v : Nat) : Decidable (isCut next N v) := by unfold isCut; exact inferInstance
def cutL (next : List (List Int)) (N : Nat) : Nat → List Int
 | 0 => []
 | v + 1 => if isCut next N v then cutL next N v ++ [(v : Int)] else cutL next N v
theorem cutL_len (next : List (List Int)) (N : Nat) : ∀ v, (cutL next N v).length ≤ v
 | 0 => Nat.le_refl _
 | v + 1 => by
  have := cutL_len next N v
  unfold cutL
  split
  ·simp; omega
  ·omega
def cvL (xss : List (List Int)) : List Int := if Grph xss then cutL (nbL xss) (vertsN xss) (vertsN xss) else []
theorem cv_bd (xss : List (List Int)) : (cvL xss).length ≤ 1000 := by
 unfold cvL
 split
 ·rename_i hG
  have hsm := nb_small hG.1
  have := cutL_len (nbL xss) (vertsN xss) (vertsN xss)
  omega
 ·exact Nat.zero_le _

def missB (far : List Int) (v : Nat) : Nat → Bool
 | 0 => false
 | u + 1 => if missB far v u = true then true else if ¬ (u : Int) = (v : Int) then decide (gi far (u : Int) < 0) else false
theorem missB_iff (far : List Int) (v : Nat) : ∀ u, missB far v u = true ↔ ∃ u' : Nat, u' < u ∧ (u' : Int) ≠ (v : Int) ∧ gi far u' < 0
 | 0 => by simp [missB]
 | u + 1 => by
  have ih := missB_iff far v u
  unfold missB
  split
  ·rename_i h
   obtain ⟨u', h1, h2⟩ := ih.1 h
   exact ⟨fun _ => ⟨u', by omega, h2⟩, fun _ => rfl⟩
  ·rename_i h
   have hno : ¬ ∃ u' : Nat, u' < u ∧ (u' : Int) ≠ (v : Int) ∧ gi far u' < 0 := fun h2 => h (ih.2 h2)
   split
   ·rename_i h3
    rw [decide_eq_true_eq]
    exact ⟨fun h4 => ⟨u, by omega, h3, h4⟩, fun ⟨u', h5, h6, h7⟩ => by
     by_cases e : u' = u
     ·subst e; exact h7
     ·exact absurd ⟨u', by omega, h6, h7⟩ hno⟩
   ·rename_i h3
    refine ⟨fun h => (by cases h), fun ⟨u', h5, h6, h7⟩ => ?_⟩
    by_cases e : u' = u
    ·subst e; exact absurd h6 h3
    ·exact absurd ⟨u', by omega, h6, h7⟩ hno

theorem specCutVertices_c (A : Option Addr) (n c : Nat) (rs : List SlV) (xss : List (List Int)) (w : World) (hR : RowsI w A n rs xss) (hn : n ≤ 9223372036854775807) :
  Ret Tryz.prog 17 [.agg #[.slice A n c]] w (AnsR (cvL xss) (petrieK xss) w) := by
 refine Ret.of_cd Tryz.func17 rfl Tryz.ntmps17 rfl (post2 rfl) (Cd.seq (Cd.region (Ops.box1 (St.refl w) rfl rfl ?_)))
 intro Ab w1 hS1
 refine Ops.ms rfl rfl rfl (Ops.mi rfl rfl rfl (Ops.n (tQ (Cd.seq (Cd.seq (Cd.region (Ops.ld_agg 0 (hS1.rd 0 rfl) rfl rfl rfl (Ops.call (l18Is_c A n c rs xss _ (hS1.oldRows hR) hn) rfl rfl rfl ?_))))))))
 rintro _ w2 ⟨rfl, hst⟩
 have hS2 := hS1.later hst.below
 first | refine Ops.not_p rfl rfl ?_ | refine Ops.not rfl rfl ?_
 refine Ops.n (tQ ?_)
 refine Cd.cond_p _ rfl (fun h => ?_) (fun h => ?_)
 ·refine Cd.seq (Cd.region (Ops.ms rfl rfl rfl (Ops.mi rfl rfl rfl (Ops.n (tQ (Cd.ret (thenQ_r (ret2_si rfl rfl ?_))))))))
  rw [petrieK, if_neg h, cvL, if_neg h]
  exact AnsR.none hS2
 ·have hG : Grph xss := Classical.not_not.1 h
  have hg := nb_gr hG.1
  have hsm := nb_small hG.1
  have hfin : cvL xss = cutL (nbL xss) (vertsN xss) (vertsN xss) := by rw [cvL, if_pos hG]
  refine Cd.skip (tQ (Cd.seq (Cd.region (Ops.ld_agg 0 (hS2.rd 0 rfl) rfl rfl rfl (Ops.call (l18Neighbours_c A n c rs xss _ (hS2.oldRows hR) hG) rfl rfl rfl ?_)))))
  rintro _ w3 ⟨A3, rs3, rfl, hrl, hst3⟩
  have hS3 := (hS2.later hst3.below).none
  have hN3 := hst3.rowsI (nbL_len xss)
  generalize hv : vertsN xss = N at *
  generalize hnx : nbL xss = next at *
  refine Ops.bs0 (St.refl w3) rfl ?_
  intro A5 w4 hS4
  have hS4 : St w3 w4 [CkI 2 A5 (cutL next N 0).length 0 (cutL next N 0)] := hS4
  refine Ops.ms rfl rfl rfl (Ops.ms rfl rfl rfl (Ops.n (tQ (Cd.seq (Cd.seq (Cd.region (Ops.mi rfl rfl rfl (Ops.n (tQ ?_)))))))))
  refine Cd.block ?_
  refine Cd.loop (α := Nat × Option Addr × Nat) (fun z => [(4, .slice A3 N N), (5, .slice z.2.1 (cutL next N z.1).length z.2.2), (6, .int .i64 (z.1 : Int))]) (fun z w' => St w3 w' [CkI 2 z.2.1 (cutL next N z.1).length z.2.2 (cutL next N z.1)] ∧ z.1 ≤ N) (fun z => N - z.1) (0, A5, 0) ⟨rfl, rfl, rfl, trivial⟩ ⟨hS4, Nat.zero_le _⟩ ?_
  rintro ⟨v, A6, c6⟩ e w5 ⟨hS5, hv5⟩
  dsimp only at hS5 hv5 ⊢
  have hN5 := hS5.oldRows hN3
  have hcl := cutL_len next N v
  refine Cd.seq (Cd.seq (Cd.region (Ops.mi rfl rfl rfl (Ops.ms rfl rfl rfl (Ops.len rfl rfl (Ops.lss rfl rfl rfl (Ops.n (tQ ?_))))))))
  refine Cd.cond_p _ rfl (fun h1 => ?_) (fun h1 => ?_)
  ·have hv' : v < N := by omega
   have hoth : 0 ≤ oth v ∧ oth v ≠ (v : Int) := by unfold oth; split <;> omega
   refine Cd.skip (tQ (Cd.seq (Cd.block (Cd.seq (Cd.region (Ops.mi rfl rfl rfl (Ops.n (tQ ?_))))))))
   refine Cd.join (α := Unit) (fun _ => [(4, .slice A3 N N), (5, .slice A6 (cutL next N v).length c6), (6, .int .i64 (v : Int)), (7, .int .i64 (oth v))]) (fun _ w' => w' = w5) ?_ ?_
   ·refine Cd.seq (Cd.region (Ops.mi rfl rfl rfl (Ops.eql rfl rfl rfl (Ops.n (tQ ?_)))))
    refine Cd.cond_p _ rfl (fun h2 => ?_) (fun h2 => ?_)
    ·refine Cd.region (Ops.mi rfl rfl rfl (Ops.n (tQ ?_)))
     exact ⟨(), ⟨rfl, rfl, rfl, by show Value.int .i64 _ = .int .i64 _; rw [oth, if_pos (by omega)], trivial⟩, rfl⟩
    ·refine Cd.skip (tQ ?_)
     exact ⟨(), ⟨rfl, rfl, rfl, by show Value.int .i64 _ = .int .i64 _; rw [oth, if_neg (by omega)], trivial⟩, rfl⟩
   ·rintro _ e w6 rfl
    refine Cd.seq (Cd.seq (Cd.region (Ops.mi rfl rfl rfl (Ops.ms rfl rfl rfl (Ops.len rfl rfl (Ops.geq rfl rfl rfl (Ops.n (tQ ?_))))))))
    refine Cd.cond_p _ rfl (fun h3 => ?_) (fun h3 => ?_)
    ·have hst : cutL next N (v + 1) = cutL next N v := by
      show (if _ then _ else _) = _
      rw [if_neg (fun h => by have := h.1; omega)]
     refine Cd.exit (thenQ_x (blockQ_x (tQ (Cd.region (Ops.mi rfl rfl rfl (Ops.add rfl rfl rfl (by omega) (Ops.mi rfl rfl rfl (Ops.n (tQ ?_)))))))))
     exact ⟨(v + 1, A6, c6), by show N - (v + 1) < N - v; omega, ⟨rfl, by show Value.slice _ _ _ = .slice _ _ _; rw [hst], rfl, trivial⟩, by show St w3 w6 [CkI _ A6 (cutL next N (v + 1)).length c6 (cutL next N (v + 1))]; rw [hst]; exact hS5, by show v + 1 ≤ N; omega⟩
    ·have hmi := missed_iff (wo := (v : Int)) hg hoth.1 (by omega) (by omega) (by omega) hoth.2
     have hdl := (dist_BF (wo := (v : Int)) hg hoth.1 (show oth v < N by omega)).len
     refine Cd.skip (tQ (Cd.seq (Cd.region (Ops.ms rfl rfl rfl (Ops.mi rfl rfl rfl (Ops.mi rfl rfl rfl (Ops.call (l18Distances_c A3 _ _ rs3 next (oth v) (v : Int) _ hN5 hg hoth.1 (by omega)) rfl rfl rfl ?_)))))))
     rintro _ w7 ⟨A8, rfl, hst8⟩
     have hS7 := hS5.call hst8
     generalize hfar : (distP next (v : Int) (oth v)).1 = far at *
     refine Ops.ms rfl rfl rfl (Ops.mb rfl rfl rfl (Ops.n (tQ (Cd.seq (Cd.seq (Cd.region (Ops.mi rfl rfl rfl (Ops.n (tQ ?_)))))))))
     refine Cd.block ?_
     refine Cd.loop (α := Nat) (fun u => [(4, .slice A3 N N), (5, .slice A6 (cutL next N v).length c6), (6, .int .i64 (v : Int)), (8, .slice A8 N N), (9, .bool (missB far v u)), (10, .int .i64 (u : Int))]) (fun u w' => w' = w7 ∧ u ≤ N) (fun u => N - u) 0 ⟨rfl, rfl, rfl, rfl, rfl, rfl, trivial⟩ ⟨rfl, Nat.zero_le _⟩ ?_
     rintro u e w8 ⟨rfl, hu⟩
     have hF8 := hS7.rdI 0 rfl
     refine Cd.seq (Cd.seq (Cd.region (Ops.mi rfl rfl rfl (Ops.ms rfl rfl rfl (Ops.len rfl rfl (Ops.lss rfl rfl rfl (Ops.n (tQ ?_))))))))
     refine Cd.cond_p _ rfl (fun h4 => ?_) (fun h4 => ?_)
     ·refine Cd.skip (tQ (Cd.seq (Cd.block (Cd.region (Ops.mb rfl rfl rfl (Ops.mb rfl rfl rfl ?_))))))
      refine Ops.split 40 rfl (fun h5 => ?_) (fun h5 => ?_)
      ·refine Ops.k rfl rfl rfl rfl rfl (Ops.k rfl rfl rfl rfl rfl (Ops.k rfl rfl rfl rfl rfl (Ops.k rfl rfl rfl rfl rfl (Ops.skipu rfl rfl rfl rfl (Ops.skipu rfl rfl rfl rfl (Ops.skipu rfl rfl rfl rfl (Ops.skipu rfl rfl rfl rfl (Ops.skipu rfl rfl rfl rfl (Ops.k rfl rfl rfl rfl rfl ?_)))))))))
       refine Ops.pick_t rfl rfl rfl (Ops.mb rfl rfl rfl (Ops.n (blockQ_n (tQ (Cd.region (Ops.mi rfl rfl rfl (Ops.add rfl rfl rfl (by omega) (Ops.mi rfl rfl rfl (Ops.n ?_)))))))))
       refine tQ ?_
       exact ⟨u + 1, by show N - (u + 1) < N - u; omega, ⟨rfl, rfl, rfl, rfl, by show Value.bool _ = .bool _; rw [missB, if_pos h5], rfl, trivial⟩, rfl, by omega⟩
      ·refine Ops.g rfl rfl rfl (Ops.mi rfl rfl rfl (Ops.g rfl rfl rfl (Ops.mi rfl rfl rfl (Ops.g rfl rfl rfl (Ops.neq rfl rfl rfl (Ops.g rfl rfl rfl (Ops.mb rfl rfl rfl ?_)))))))
       refine Ops.split_p 44 rfl (fun h6 => ?_) (fun h6 => ?_)
       ·refine Ops.g rfl rfl rfl (Ops.ms rfl rfl rfl (Ops.g rfl rfl rfl (Ops.mi rfl rfl rfl (Ops.g rfl rfl rfl (Ops.idx hF8.2 rfl rfl rfl (by omega) (by omega) (Ops.g rfl rfl rfl (Ops.ld_int hF8 rfl (by omega) rfl rfl (Ops.g rfl rfl rfl (Ops.lss rfl rfl rfl ?_)))))))))
        refine Ops.g rfl rfl rfl (Ops.pick_t rfl rfl rfl (Ops.pick_f rfl rfl rfl (Ops.mb rfl rfl rfl (Ops.n (blockQ_n (tQ (Cd.region (Ops.mi rfl rfl rfl (Ops.add rfl rfl rfl (by omega) ?_)))))))))
        refine Ops.mi rfl rfl rfl (Ops.n (tQ ?_))
        exact ⟨u + 1, by show N - (u + 1) < N - u; omega, ⟨rfl, rfl, rfl, rfl, by show Value.bool _ = .bool _; rw [missB, if_neg (by rw [h5]; simp), if_pos h6], rfl, trivial⟩, rfl, by omega⟩
       ·refine Ops.k rfl rfl rfl rfl rfl (Ops.k rfl rfl rfl rfl rfl (Ops.k rfl rfl rfl rfl rfl (Ops.k rfl rfl rfl rfl rfl (Ops.k rfl rfl rfl rfl rfl (Ops.g rfl rfl rfl (Ops.pick_f rfl rfl rfl (Ops.pick_f rfl rfl rfl (Ops.mb rfl rfl rfl (Ops.n ?_)))))))))
        refine blockQ_n (tQ (Cd.region (Ops.mi rfl rfl rfl (Ops.add rfl rfl rfl (by omega) (Ops.mi rfl rfl rfl (Ops.n (tQ ?_)))))))
        exact ⟨u + 1, by show N - (u + 1) < N - u; omega, ⟨rfl, rfl, rfl, rfl, by show Value.bool _ = .bool _; rw [missB, if_neg (by rw [h5]; simp), if_neg h6], rfl, trivial⟩, rfl, by omega⟩
     ·refine Cd.exit (thenQ_x (thenQ_x (blockQ_x (tQ (Cd.seq (Cd.region (Ops.mb rfl rfl rfl (Ops.n (tQ ?_)))))))))
      have hun : u = N := by omega
      subst hun
      have hmb := missB_iff far v u
      refine Cd.cond rfl (fun h5 => ?_) (fun h5 => ?_)
      ·have hst : cutL next u (v + 1) = cutL next u v ++ [(v : Int)] := by
        show (if _ then _ else _) = _
        rw [if_pos ⟨by omega, hmi.1 (hmb.1 h5)⟩]
       refine Cd.region (Ops.ms rfl rfl rfl (Ops.mi rfl rfl rfl (Ops.bs1I hS7.tail rfl rfl rfl ?_)))
       intro A9 w9 hS9
       refine Ops.appI 1 hS9 rfl (hS9.rdI 0 rfl) rfl rfl rfl (by omega) (by omega) rfl ?_
       intro A10 c10 w10 hS10
       refine Ops.ms rfl rfl rfl (Ops.n (blockQ_n (tQ (Cd.region (Ops.mi rfl rfl rfl (Ops.add rfl rfl rfl (by omega) (Ops.mi rfl rfl rfl (Ops.n (tQ ?_)))))))))
       have e1 : (cutL next u (v + 1)).length = (cutL next u v).length + 1 := by rw [hst]; simp
       refine ⟨(v + 1, A10, c10), by show u - (v + 1) < u - v; omega, ⟨rfl, by show Value.slice _ _ _ = .slice _ _ _; rw [e1], rfl, trivial⟩, ?_, by show v + 1 ≤ u; omega⟩
       show St w3 w10 [CkI _ A10 (cutL next u (v + 1)).length c10 (cutL next u (v + 1))]
       rw [e1, hst]
       exact hS10.tail
      ·have hst : cutL next u (v + 1) = cutL next u v := by
        show (if _ then _ else _) = _
        rw [if_neg (fun h => by have := hmb.2 (hmi.2 h.2); rw [h5] at this; cases this)]
       refine Cd.skip (blockQ_n (tQ (Cd.region (Ops.mi rfl rfl rfl (Ops.add rfl rfl rfl (by omega) (Ops.mi rfl rfl rfl (Ops.n (tQ ?_))))))))
       exact ⟨(v + 1, A6, c6), by show u - (v + 1) < u - v; omega, ⟨rfl, by show Value.slice _ _ _ = .slice _ _ _; rw [hst], rfl, trivial⟩, by show St w3 w8 [CkI _ A6 (cutL next u (v + 1)).length c6 (cutL next u (v + 1))]; rw [hst]; exact hS7.tail, by show v + 1 ≤ u; omega⟩
  ·refine Cd.exit (thenQ_x (thenQ_x (blockQ_x (tQ (Cd.seq (Cd.region (Ops.ms rfl rfl rfl (Ops.ms rfl rfl rfl (Ops.mi rfl rfl rfl ?_)))))))))
   refine Ops.n (tQ (Cd.ret (ret2_si rfl rfl ?_)))
   have hvn : v = N := by omega
   subst hvn
   rw [petrieK, if_pos hG, hfin]
   have := hS3.call hS5
   exact ⟨A6, c6, rfl, this⟩

theorem implCutVertices_c (A : Option Addr) (n c : Nat) (rs : List SlV) (xss : List (List Int)) (w : World) (hR : RowsI w A n rs xss) (hn : n ≤ c) (hc : c ≤ 9223372036854775807) :
  Ret Tryz.prog 16 [.agg #[.slice A n c]] w (AnsR (cvL xss) (petrieK xss) w) := by
 refine Ret.of_cd Tryz.func16 rfl Tryz.ntmps16 rfl (post2 rfl) (Cd.seq (Cd.region (Ops.box1 (St.refl w) rfl rfl ?_)))
 intro Ab w1 hS1
 refine Ops.ms rfl rfl rfl (Ops.mi rfl rfl rfl (Ops.n (tQ (Cd.seq (Cd.region (Ops.ld_agg 0 (hS1.rd 0 rfl) rfl rfl rfl (Ops.call (graphOf_c A n c rs xss none 0 0 [] _ (hS1.oldRows hR) hn hc RdI.nil (by omega)) rfl rfl rfl ?_)))))))
 rintro _ w3 ⟨A3, c3, rs3, rfl, hrl, hst3⟩
 have hS3 := hS1.later hst3.below
 rw [goK_nil] at *
 refine Ops.mv_tup rfl rfl rfl (Ops.extract rfl rfl rfl (Ops.extract rfl rfl rfl (Ops.ms rfl rfl rfl (Ops.mi rfl rfl rfl (Ops.n (tQ (Cd.seq (Cd.seq (Cd.region ?_)))))))))
 refine Ops.mi rfl rfl rfl (Ops.neq rfl rfl rfl (Ops.n (tQ ?_)))
 refine Cd.cond_p _ rfl (fun h => ?_) (fun h => ?_)
 ·have hnG : ¬ Grph xss := fun hG => h (by rw [petrieK, if_pos hG])
  refine Cd.seq (Cd.region (Ops.mi rfl rfl rfl (Ops.ms rfl rfl rfl (Ops.mi rfl rfl rfl (Ops.n (tQ (Cd.ret (thenQ_r (ret2_si rfl rfl ?_)))))))))
  rw [cvL, if_neg hnG]
  exact AnsR.none hS3
 ·have hG : Grph xss := by
   apply Classical.byContradiction
   intro hG
   exact h (by rw [petrieK, if_neg hG]; decide)
  have hg := nb_gr hG.1
  have hsm := nb_small hG.1
  rw [goL_nil hG, nbL_len] at *
  have hN3 := hst3.rowsI (nbL_len xss)
  have hfin : cvL xss = cutL (nbL xss) (vertsN xss) (vertsN xss) := by rw [cvL, if_pos hG]
  generalize hv : vertsN xss = N at *
  generalize hnx : nbL xss = next at *
  refine Cd.skip (tQ (Cd.seq (Cd.region (Ops.ms rfl rfl rfl (Ops.n (tQ (Cd.seq (Cd.seq (Cd.region ?_)))))))))
  refine Ops.ms rfl rfl rfl (Ops.call (sizeR_c _ _ _ _) rfl rfl rfl ?_)
  rintro _ w3 ⟨rfl, rfl⟩
  refine Ops.mi rfl rfl rfl (Ops.n (tQ (Cd.block ?_)))
  have hS4 : St w3 w3 [CkI 2 none (cutL next N 0).length 0 (cutL next N 0)] := (St.refl w3).nil _
  refine Cd.loop (α := Nat × Option Addr × Nat) (fun z => [(4, .slice A3 N c3), (6, .slice z.2.1 (cutL next N z.1).length z.2.2), (18, .int .i64 (N : Int)), (19, .int .i64 (z.1 : Int))]) (fun z w' => St w3 w' [CkI 2 z.2.1 (cutL next N z.1).length z.2.2 (cutL next N z.1)] ∧ z.1 ≤ N) (fun z => N - z.1) (0, none, 0) ⟨rfl, rfl, rfl, rfl, trivial⟩ ⟨hS4, Nat.zero_le _⟩ ?_
  rintro ⟨v, A6, c6⟩ e w5 ⟨hS5, hv5⟩
  dsimp only at hS5 hv5 ⊢
  have hN5 := hS5.oldRows hN3
  have hcl := cutL_len next N v
  refine Cd.seq (Cd.region (Ops.lss rfl rfl rfl (Ops.n (tQ (Cd.seq ?_)))))
  refine Cd.cond_p _ rfl (fun h1 => ?_) (fun h1 => ?_)
  ·have hoth : 0 ≤ oth v ∧ oth v ≠ (v : Int) := by unfold oth; split <;> omega
   refine Cd.skip (tQ (Cd.seq (Cd.block (Cd.seq (Cd.region (Ops.mi rfl rfl rfl (Ops.mi rfl rfl rfl (Ops.n (tQ ?_)))))))))
   refine Cd.seq (Cd.region (Ops.mi rfl rfl rfl (Ops.n (tQ ?_))))
   refine Cd.join (α := Unit) (fun _ => [(4, .slice A3 N c3), (6, .slice A6 (cutL next N v).length c6), (7, .int .i64 (v : Int)), (8, .int .i64 (oth v)), (18, .int .i64 (N : Int)), (19, .int .i64 (v : Int))]) (fun _ w' => w' = w5) ?_ ?_
   ·refine Cd.seq (Cd.region (Ops.mi rfl rfl rfl (Ops.eql rfl rfl rfl (Ops.n (tQ ?_)))))
    refine Cd.cond_p _ rfl (fun h2 => ?_) (fun h2 => ?_)
    ·refine Cd.region (Ops.mi rfl rfl rfl (Ops.n (tQ ?_)))
     exact ⟨(), ⟨rfl, rfl, rfl, by show Value.int .i64 _ = .int .i64 _; rw [oth, if_pos (by omega)], rfl, rfl, trivial⟩, rfl⟩
    ·refine Cd.skip (tQ ?_)
     exact ⟨(), ⟨rfl, rfl, rfl, by show Value.int .i64 _ = .int .i64 _; rw [oth, if_neg (by omega)], rfl, rfl, trivial⟩, rfl⟩
   ·rintro _ e w6 rfl
    have no : ∀ {w' : World}, St w3 w' [CkI 2 A6 (cutL next N v).length c6 (cutL next N v)] → ¬ isCut next N v → St w3 w' [CkI 2 A6 (cutL next N (v + 1)).length c6 (cutL next N (v + 1))] ∧ cutL next N (v + 1) = cutL next N v := fun h h2 => by
     have hst : cutL next N (v + 1) = cutL next N v := by
      show (if _ then _ else _) = _
      rw [if_neg h2]
     exact ⟨by rw [hst]; exact h, hst⟩
    refine Cd.seq (Cd.region (Ops.mi rfl rfl rfl (Ops.ms rfl rfl rfl (Ops.call (sizeR_c _ _ _ _) rfl rfl rfl ?_))))
    rintro _ w6 ⟨rfl, rfl⟩
    refine Ops.lss rfl rfl rfl (Ops.mb rfl rfl rfl ?_)
    refine Ops.split_p 28 rfl (fun h3 => ?_) (fun h3 => ?_)
    ·have hql := (dist_BF (wo := (v : Int)) hg hoth.1 h3).len2
     refine Ops.g rfl rfl rfl (Ops.ms rfl rfl rfl (Ops.g rfl rfl rfl (Ops.mi rfl rfl rfl (Ops.g rfl rfl rfl (Ops.mi rfl rfl rfl (Ops.g rfl rfl rfl (Ops.call (reachedFrom_c A3 _ _ rs3 next (oth v) (v : Int) _ hN5 hg hoth.1 h3) rfl rfl rfl ?_)))))))
     rintro _ w7 ⟨A8, c8, rfl, hst8⟩
     have hS7 := hS5.later hst8.below
     refine Ops.g rfl rfl rfl (Ops.len rfl rfl (Ops.g rfl rfl rfl (Ops.ms rfl rfl rfl (Ops.g rfl rfl rfl (Ops.len rfl rfl (Ops.g rfl rfl rfl (Ops.sub rfl rfl rfl (by omega) (Ops.g rfl rfl rfl (Ops.lss rfl rfl rfl ?_)))))))))
     refine Ops.pick_t rfl rfl rfl (Ops.n (tQ ?_))
     refine Cd.cond_p _ rfl (fun h4 => ?_) (fun h4 => ?_)
     ·have hst : cutL next N (v + 1) = cutL next N v ++ [(v : Int)] := by
       show (if _ then _ else _) = _
       rw [if_pos ⟨h3, h4⟩]
      refine Cd.region (Ops.ms rfl rfl rfl (Ops.mi rfl rfl rfl (Ops.bs1I hS7 rfl rfl rfl ?_)))
      intro A9 w9 hS9
      refine Ops.appI 1 hS9 rfl (hS9.rdI 0 rfl) rfl rfl rfl (by omega) (by omega) rfl ?_
      intro A10 c10 w10 hS10
      refine Ops.ms rfl rfl rfl (Ops.n (blockQ_n (tQ (Cd.region (Ops.add rfl rfl rfl (by omega) (Ops.mi rfl rfl rfl (Ops.n (tQ ?_))))))))
      have e1 : (cutL next N (v + 1)).length = (cutL next N v).length + 1 := by rw [hst]; simp
      refine ⟨(v + 1, A10, c10), by show N - (v + 1) < N - v; omega, ⟨rfl, by show Value.slice _ _ _ = .slice _ _ _; rw [e1], rfl, rfl, trivial⟩, ?_, by show v + 1 ≤ N; omega⟩
      show St w3 w10 [CkI _ A10 (cutL next N (v + 1)).length c10 (cutL next N (v + 1))]
      rw [e1, hst]
      exact hS10.tail
     ·obtain ⟨hS8, hst⟩ := no hS7 (fun h => h4 h.2)
      refine Cd.skip (blockQ_n (tQ (Cd.region (Ops.add rfl rfl rfl (by omega) (Ops.mi rfl rfl rfl (Ops.n (tQ ?_)))))))
      exact ⟨(v + 1, A6, c6), by show N - (v + 1) < N - v; omega, ⟨rfl, by show Value.slice _ _ _ = .slice _ _ _; rw [hst], rfl, rfl, trivial⟩, hS8, by show v + 1 ≤ N; omega⟩
    ·obtain ⟨hS8, hst⟩ := no hS5 (fun h => h3 h.1)
     refine Ops.k rfl rfl rfl rfl rfl (Ops.k rfl rfl rfl rfl rfl (Ops.k rfl rfl rfl rfl rfl (Ops.k rfl rfl rfl rfl rfl (Ops.k rfl rfl rfl rfl rfl (Ops.k rfl rfl rfl rfl rfl (Ops.k rfl rfl rfl rfl rfl (Ops.k rfl rfl rfl rfl rfl (Ops.k rfl rfl rfl rfl rfl (Ops.pick_f rfl rfl rfl ?_)))))))))
     refine Ops.n (tQ (Cd.cond_f rfl (Cd.skip (blockQ_n (tQ (Cd.region (Ops.add rfl rfl rfl (by omega) (Ops.mi rfl rfl rfl (Ops.n ?_)))))))))
     refine tQ ?_
     exact ⟨(v + 1, A6, c6), by show N - (v + 1) < N - v; omega, ⟨rfl, by show Value.slice _ _ _ = .slice _ _ _; rw [hst], rfl, rfl, trivial⟩, hS8, by show v + 1 ≤ N; omega⟩
  ·refine Cd.exit (thenQ_x (thenQ_x (blockQ_x (tQ (Cd.seq (Cd.region (Ops.ms rfl rfl rfl (Ops.ms rfl rfl rfl (Ops.mi rfl rfl rfl ?_)))))))))
   refine Ops.n (tQ (Cd.ret (ret2_si rfl rfl ?_)))
   have hvn : v = N := by omega
   subst hvn
   rw [petrieK, if_pos hG, hfin]
   have := hS3.none.call hS5
   exact ⟨A6, c6, rfl, this⟩
end Go.Proofs.YtbhnfehcpnnjcaaGreatDoor.Vc
/-
 The plain law of graphs: girths of graphs with parts, Hamiltonian cycles and cut vertices. Conditions: as each states them. No program in sight.
-/
namespace Go.Proofs.YtbhnfehcpnnjcaaGreatDoor.Vc

/-! parts -/
theorem parts_val {xss : List (List Int)} (hG : Grph xss) {u : Int} (h0 : 0 ≤ u) (h1 : u < vertsN xss) : gi (partsP xss) u = 0 ∨ gi (partsP xss) u = 1 := by
 have hv := verts_pos hG.1
 have ha := dist_all hG (v := 0) (by omega) (by omega) h0 h1
 have hl := parts_len hG.1
 obtain ⟨k, rfl⟩ : ∃ k : Nat, u = k := ⟨u.toNat, by omega⟩
 have hD := (dist_DF (nb_gr hG.1) (v := 0) (by omega) (by omega)).len
 have e : gi (partsP xss) (k : Int) = Int.tmod (gi (distP (nbL xss) (-1) 0).1 (k : Int)) 2 := by
  rw [gi_mem (by omega), gi_mem (by omega)]
  simp [partsP, p2L]
 rw [e]
 rw [Int.tmod_eq_emod_of_nonneg ha]
 omega
theorem parts_ne {xss : List (List Int)} (hG : Grph xss) (hp : ¬ ptBad xss) {u x : Int} (h0 : 0 ≤ u) (hx : x ∈ gl (nbL xss) u) : gi (partsP xss) x ≠ gi (partsP xss) u := by
 obtain ⟨j, hj, h2, h3⟩ := (nb_iff hG.1 u h0 x).1 hx
 simp only [Prod.mk.injEq] at h3
 have hb : ¬ Bd (endsL xss) (partsP xss) j := fun h => hp ⟨j, hj, h⟩
 intro e
 apply hb
 right
 rcases h3 with ⟨a, b⟩ | ⟨a, b⟩
 ·rw [← a, ← b, e]
 ·rw [← a, ← b, e]
theorem parts_path {xss : List (List Int)} (hG : Grph xss) (hp : ¬ ptBad xss) {next : List (List Int)} (hsub : ∀ u : Int, 0 ≤ u → ∀ x ∈ gl next u, x ∈ gl (nbL xss) u) {k : Nat} {a b : Int} (h0 : 0 ≤ a) (h1 : a < vertsN xss) (h : PathK next k a b) : (0 ≤ b ∧ b < vertsN xss) ∧ (gi (partsP xss) b - gi (partsP xss) a - (k : Int)) % 2 = 0 := by
 induction h with
 | nil => exact ⟨⟨h0, h1⟩, by omega⟩
 | snoc hpq hc ih =>
  rename_i k a b c
  have ih := ih h0 h1
  have hc' := hsub b ih.1.1 c hc
  have hcr := ((nb_gr hG.1).row b ih.1.1).1 c hc'
  have hne := parts_ne hG hp ih.1.1 hc'
  have v1 := parts_val hG ih.1.1 ih.1.2
  have v2 := parts_val hG hcr.1 hcr.2
  refine ⟨hcr, ?_⟩
  omega
theorem girth_even {xss : List (List Int)} (hG : Grph xss) (hp : ¬ ptBad xss) : girN xss % 2 = 0 := by
 have hL : ¬ Loop1 xss := fun ⟨e, he, h1⟩ => hp ⟨e, he, .inl h1⟩
 by_cases hN : (endsL xss).Nodup
 ·rw [girN_spec hL hN]
  rcases mnG_spec (specW (endsL xss) (nbL xss)) with ⟨h, _⟩ | ⟨w, hw, hpos, h, _⟩
  ·omega
  ·rw [h]
   obtain ⟨l, hl, rfl⟩ := List.mem_map.1 hw
   obtain ⟨j, hj, rfl⟩ := List.mem_iff_getElem.1 hl
   have hel := endsL_len xss
   rw [hel] at hj
   have e1 : (endsL xss)[j] = gl (endsL xss) (j : Int) := by simp [gl, List.getD_eq_getElem?_getD, hel, hj]
   rw [e1] at hpos ⊢
   have h2 := all_two hG hL j hj
   have hr := ends_rng hG.1 j h2
   have hlt := ends_lt (xss := xss) j h2
   have hg := nb_gr hG.1
   have hD := dist_DF (rest_gr hg hr.1.1 hr.1.2 hr.2.1 hr.2.2) hr.1.1 hr.1.2
   generalize hu : gi (gl (endsL xss) (j : Int)) 0 = u at *
   generalize hv : gi (gl (endsL xss) (j : Int)) 1 = v at *
   have hpa := dist_path hD (wayL (nbL xss) u v).toNat v hr.2.1 hr.2.2 (by unfold wayL at hpos ⊢; omega)
   have hq := parts_path hG hp (next := restL (nbL xss) u v) (fun y hy x hx => ((rest_mem hg.len (by omega) hr.1.1 hr.1.2 hr.2.1 hr.2.2 y hy x).1 hx).1) hr.1.1 hr.1.2 hpa
   have hx : v ∈ gl (nbL xss) u := (nb_iff hG.1 u hr.1.1 v).2 ⟨j, hj, h2, .inl (by rw [hu, hv])⟩
   have hne := parts_ne hG hp hr.1.1 hx
   have v1 := parts_val hG hr.1.1 hr.1.2
   have v2 := parts_val hG hr.2.1 hr.2.2
   have h5 := hq.2
   omega
 ·rw [girN_double hL hN]; decide

/-! Hamiltonian cycles -/
structure HamOk (mn : Nat) (next : List (List Int)) (L : List Int) : Prop where
 nodup : L.Nodup
 step : ∀ i : Nat, i + 1 < L.length → gi L ((i + 1 : Nat) : Int) ∈ gl next (gi L (i : Int))
 len : L.length = next.length
 more : mn < L.length
 round : gi L 0 ∈ gl next (lastI L)
theorem hamF_of {h : List Int → List Int} {l : List Int} : ∀ {r : List Int}, hamF h l r ≠ [] → ∃ v ∈ r, v ∉ l ∧ hamF h l r = h (l ++ [v]) ∧ h (l ++ [v]) ≠ []
 | [], hne => absurd rfl hne
 | v :: r, hne => by
  by_cases c : v ∉ l ∧ h (l ++ [v]) ≠ []
  ·exact ⟨v, by simp, c.1, by rw [hamF, if_pos c], c.2⟩
  ·rw [hamF, if_neg c] at hne ⊢
   obtain ⟨v', hv', h1, h2, h3⟩ := hamF_of hne
   exact ⟨v', by simp [hv'], h1, h2, h3⟩
theorem ham_ok {mn : Nat} {next : List (List Int)} : ∀ (f : Nat) (l : List Int), l ≠ [] → l.Nodup → (∀ i : Nat, i + 1 < l.length → gi l ((i + 1 : Nat) : Int) ∈ gl next (gi l (i : Int))) → ham mn next f l ≠ [] → HamOk mn next (ham mn next f l)
 | 0, l, _, _, _, h => absurd rfl h
 | f + 1, l, hl, hn, hs, h => by
  rw [ham] at h ⊢
  split
  ·rename_i hlen
   rw [if_pos hlen] at h
   split
   ·rename_i hc
    exact ⟨hn, hs, hlen, hc.1, hc.2⟩
   ·rename_i hc
    rw [if_neg hc] at h
    exact absurd rfl h
  ·rename_i hlen
   rw [if_neg hlen] at h
   obtain ⟨v, hv, h1, h2, h3⟩ := hamF_of h
   rw [h2]
   have hpos := List.length_pos_iff.2 hl
   refine ham_ok f (l ++ [v]) (by simp) ?_ ?_ h3
   ·rw [List.nodup_append]
    exact ⟨hn, by simp, fun a ha b hb e => by rw [List.mem_singleton.1 hb] at e; subst e; exact h1 ha⟩
   ·intro i hi
    rw [List.length_append] at hi
    have hi : i + 1 < l.length + 1 := hi
    by_cases e : i + 1 < l.length
    ·rw [gi_snocL e, gi_snocL (by omega)]
     exact hs i e
    ·have hli : l.length = i + 1 := by omega
     have e1 : gi (l ++ [v]) ((i + 1 : Nat) : Int) = v := by
      have := gi_snocR (l := l) (x := v)
      rwa [hli] at this
     rw [e1, gi_snocL (by omega)]
     have e2 : lastI l = gi l (i : Int) := by
      unfold lastI
      congr 1
      omega
     rwa [e2] at hv
/-! a search that leaves one vertex out is a search in the graph without it -/
def lessV (next : List (List Int)) (wo : Int) : List (List Int) := next.map fun r => r.filter fun x => decide (x ≠ wo)
theorem lessV_gl (next : List (List Int)) (wo u : Int) : gl (lessV next wo) u = (gl next u).filter fun x => decide (x ≠ wo) := by
 simp only [gl, lessV, List.getD_eq_getElem?_getD, List.getElem?_map]
 cases next[u.toNat]? <;> simp
theorem lessV_gr {n : Nat} {next : List (List Int)} (hg : Gr n next) (wo : Int) : Gr n (lessV next wo) := by
 refine ⟨by simp [lessV, hg.len], hg.small, fun u hu => ?_⟩
 rw [lessV_gl]
 have h := hg.row u hu
 exact ⟨fun x hx => h.1 x (List.mem_filter.1 hx).1, Nat.le_trans (List.length_filter_le _ _) h.2⟩
theorem rowB_less (wo u : Int) : ∀ (r : List Int) (st : List Int × List Int), (∀ x ∈ r, 0 ≤ x) → rowB wo u r st = rowB (-1) u (r.filter fun x => decide (x ≠ wo)) st
 | [], _, _ => rfl
 | x :: r, st, h => by
  have hx := h x (by simp)
  have ih := fun st => rowB_less wo u r st (fun y hy => h y (by simp [hy]))
  show rowB wo u r (stepB wo u st x) = _
  by_cases e : x = wo
  ·have e1 : stepB wo u st x = st := by unfold stepB; rw [if_neg (fun h => h.2 e)]
   rw [e1, ih, List.filter_cons_of_neg (by simpa using e)]
  ·have e1 : stepB wo u st x = stepB (-1) u st x := by
    unfold stepB
    by_cases c : gi st.1 x < 0
    ·rw [if_pos ⟨c, e⟩, if_pos ⟨c, by omega⟩]
    ·rw [if_neg (fun h => c h.1), if_neg (fun h => c h.1)]
   rw [e1, ih, List.filter_cons_of_pos (by simpa using e)]
   rfl
theorem bfsD_less {n : Nat} {next : List (List Int)} (hg : Gr n next) (wo : Int) : ∀ (f i : Nat) (st : List Int × List Int), BF n st → bfsD next wo f i st = bfsD (lessV next wo) (-1) f i st
 | 0, i, st, _ => by
  by_cases hi : i < st.2.length
  ·rfl
  ·rw [bfsD_end hi, bfsD_end hi]
 | f + 1, i, st, hB => by
  by_cases hi : i < st.2.length
  ·rw [bfsD_go hi (by omega), bfsD_go hi (by omega), Nat.add_sub_cancel]
   have hm := gi_in hi
   have hr := hB.rng _ hm
   have hrow := hg.row (gi st.2 (i : Int)) hr.1
   rw [rowB_less wo _ _ _ (fun x hx => (hrow.1 x hx).1), ← lessV_gl]
   have hB' := (hB.row (wo := -1) (u := gi st.2 (i : Int)) (gl (lessV next wo) (gi st.2 (i : Int))) hm (fun x hx => by
    rw [lessV_gl] at hx
    exact hrow.1 x (List.mem_filter.1 hx).1)).1
   exact bfsD_less hg wo f (i + 1) _ hB'
  ·rw [bfsD_end hi, bfsD_end hi]
theorem distP_less {n : Nat} {next : List (List Int)} (hg : Gr n next) (wo : Int) {v : Int} (h0 : 0 ≤ v) (h1 : v < n) : distP next wo v = distP (lessV next wo) (-1) v := by
 unfold distP
 have e : (lessV next wo).length = next.length := by simp [lessV]
 rw [e]
 exact bfsD_less hg wo _ _ _ (by rw [hg.len]; exact BF.init h0 h1)

def rangeP (n : Nat) : List Int := (List.range n).map fun k : Nat => (k : Int)
/-- where a round goes through all vertices, no vertex cuts -/
theorem ham_nocut {n : Nat} {next : List (List Int)} (hg : Gr n next) (hs : SymG n next) {mn : Nat} {L : List Int} (hL : HamOk mn next L) (hr : ∀ x ∈ L, 0 ≤ x ∧ x < n) {v : Nat} (hv : v < n) : ¬ isCut next n v := by
  rintro ⟨ho, hcut⟩
  have hLn : L.length = n := hL.len.trans hg.len
  have ho0 : 0 ≤ oth v := by unfold oth; split <;> omega
  have hne : oth v ≠ (v : Int) := by unfold oth; split <;> omega
  rw [← missed_iff hg ho0 ho (by omega) (by omega) hne] at hcut
  obtain ⟨u, hu, huv, hneg⟩ := hcut
  rw [distP_less hg _ ho0 ho] at hneg
  have hD := dist_DF (lessV_gr hg (v : Int)) ho0 ho
  generalize hfar : (distP (lessV next (v : Int)) (-1) (oth v)).1 = far at hneg hD
  -- all vertices stand in the round
  have hall : ∀ x : Int, 0 ≤ x → x < n → x ∈ L := fun x h0 h1 =>
    sub_all (a := L) (b := rangeP n) hL.nodup (fun y hy => by
      have := hr y hy
      exact List.mem_map.2 ⟨y.toNat, List.mem_range.2 (by omega), by omega⟩) (by simp [rangeP, hLn]) x (List.mem_map.2 ⟨x.toNat, List.mem_range.2 (by omega), by omega⟩)
  have hn0 : 0 < n := by omega
  have hadj : ∀ k : Nat, k < n → gi L (((k + 1) % n : Nat) : Int) ∈ gl next (gi L (k : Int)) := by
    intro k hk
    by_cases e : k + 1 < n
    · rw [Nat.mod_eq_of_lt e]; exact hL.step k (by omega)
    · obtain rfl : n = k + 1 := by omega
      rw [Nat.mod_self]
      have h := hL.round
      have e2 : lastI L = gi L (k : Int) := by unfold lastI; congr 1; omega
      rwa [e2] at h
  have hin : ∀ k : Nat, k < n → 0 ≤ gi L (k : Int) ∧ gi L (k : Int) < n := fun k hk => hr _ (gi_in (by omega))
  have hinj : ∀ i k : Nat, i < n → k < n → gi L (i : Int) = gi L (k : Int) → i = k := fun i k hi hk e => by
    rw [gi_mem (by omega), gi_mem (by omega)] at e
    exact (List.getElem_inj (h₀ := by omega) (h₁ := by omega) hL.nodup).1 e
  obtain ⟨p, hp, hpv⟩ := List.mem_iff_getElem.1 (hall (v : Int) (by omega) (by omega))
  rw [← gi_mem hp] at hpv
  -- the vertices behind v, in turn
  let F : Nat → Int := fun i => gi L (((p + 1 + i) % n : Nat) : Int)
  have hFr : ∀ i, 0 ≤ F i ∧ F i < n := fun i => hin _ (Nat.mod_lt _ hn0)
  have hFv : ∀ i, i + 1 < n → F i ≠ (v : Int) := by
    intro i hi e
    have := hinj _ p (Nat.mod_lt _ hn0) (by omega) (e.trans hpv.symm)
    have h2 : (p + 1 + i) % n = p := this
    by_cases c : p + 1 + i < n
    · rw [Nat.mod_eq_of_lt c] at h2; omega
    · rw [Nat.mod_eq_sub_mod (by omega), Nat.mod_eq_of_lt (by omega)] at h2; omega
  have hFs : ∀ i, F (i + 1) ∈ gl next (F i) := by
    intro i
    have h := hadj ((p + 1 + i) % n) (Nat.mod_lt _ hn0)
    have e : ((p + 1 + i) % n + 1) % n = (p + 1 + (i + 1)) % n := by rw [Nat.mod_add_mod]; rfl
    rw [e] at h
    exact h
  have hFa : ∀ x : Int, 0 ≤ x → x < n → x ≠ (v : Int) → ∃ i, i + 1 < n ∧ F i = x := by
    intro x h0 h1 hxv
    obtain ⟨q, hq, hqx⟩ := List.mem_iff_getElem.1 (hall x h0 h1)
    rw [← gi_mem hq] at hqx
    have hqp : q ≠ p := fun e => hxv (by rw [← hqx, ← hpv, e])
    by_cases c : p < q
    · refine ⟨q - p - 1, by omega, ?_⟩
      show gi L (((p + 1 + (q - p - 1)) % n : Nat) : Int) = x
      rw [show p + 1 + (q - p - 1) = q by omega, Nat.mod_eq_of_lt (by omega)]
      exact hqx
    · refine ⟨n + q - p - 1, by omega, ?_⟩
      show gi L (((p + 1 + (n + q - p - 1)) % n : Nat) : Int) = x
      rw [show p + 1 + (n + q - p - 1) = q + n by omega, Nat.add_mod_right, Nat.mod_eq_of_lt (by omega)]
      exact hqx
  -- what is met goes on
  have hgo : ∀ a b : Int, 0 ≤ a → a < n → 0 ≤ gi far a → b ∈ gl next a → b ≠ (v : Int) → 0 ≤ gi far b := fun a b h0 h1 hf hb hbv =>
    (hD.nxt a h0 h1 hf b (by rw [lessV_gl]; exact List.mem_filter.2 ⟨hb, by simpa using hbv⟩)).1
  obtain ⟨i0, hi0, hF0⟩ := hFa (oth v) ho0 ho hne
  have hstart : 0 ≤ gi far (F i0) := by rw [hF0, hD.at0]; omega
  have hup : ∀ d, i0 + d + 1 < n → 0 ≤ gi far (F (i0 + d)) := by
    intro d
    induction d with
    | zero => exact fun _ => hstart
    | succ d ih =>
      intro h
      have := ih (by omega)
      exact hgo (F (i0 + d)) (F (i0 + d + 1)) (hFr _).1 (hFr _).2 this (hFs _) (hFv _ (by omega))
  have hdn : ∀ d, d ≤ i0 → 0 ≤ gi far (F (i0 - d)) := by
    intro d
    induction d with
    | zero => exact fun _ => hstart
    | succ d ih =>
      intro h
      have h2 := ih (by omega)
      have h3 := hFs (i0 - (d + 1))
      rw [show i0 - (d + 1) + 1 = i0 - d by omega] at h3
      exact hgo (F (i0 - d)) (F (i0 - (d + 1))) (hFr _).1 (hFr _).2 h2 (hs _ _ (hFr _).1 (hFr _).2 h3) (hFv _ (by omega))
  obtain ⟨i, hi, hFi⟩ := hFa (u : Int) (by omega) (by omega) huv
  have : 0 ≤ gi far (F i) := by
    by_cases c : i0 ≤ i
    · have := hup (i - i0) (by omega)
      rwa [show i0 + (i - i0) = i by omega] at this
    · have := hdn (i0 - i) (by omega)
      rwa [show i0 - (i0 - i) = i by omega] at this
  rw [hFi] at this
  omega
theorem cutL_nil {next : List (List Int)} {N : Nat} : ∀ k : Nat, (∀ v, v < k → ¬ isCut next N v) → cutL next N k = []
 | 0, _ => rfl
 | k + 1, h => by
  unfold cutL
  rw [if_neg (h k (by omega))]
  exact cutL_nil k (fun v hv => h v (by omega))
theorem gl_range {n : Nat} {next : List (List Int)} (hg : Gr n next) (u x : Int) (h : x ∈ gl next u) : 0 ≤ x ∧ x < n := by
 have e : gl next u = gl next ((u.toNat : Nat) : Int) := by unfold gl; rw [Int.toNat_natCast]
 rw [e] at h
 exact (hg.row _ (by omega)).1 x h
/-- what the law asks of a round -/
theorem ham_law {xss : List (List Int)} (h : hmK xss = 0) : Grph xss ∧ hmL xss = hmC xss ∧ HamOk 2 (nbL xss) (hmC xss) ∧ (∀ x ∈ hmC xss, 0 ≤ x ∧ x < vertsN xss) ∧ cvL xss = [] := by
 unfold hmK at h
 by_cases hG : Grph xss
 ·rw [if_neg (fun h => h hG)] at h
  by_cases h12 : 12 < vertsN xss
  ·rw [if_pos h12] at h; omega
  ·rw [if_neg h12] at h
   by_cases hn : hmC xss = []
   ·rw [if_pos hn] at h; omega
   ·have hg := nb_gr hG.1
    have hok : HamOk 2 (nbL xss) (hmC xss) := ham_ok (vertsN xss) [0] (by simp) (by simp) (fun i hi => by simp at hi) hn
    have hpos := hok.more
    have hr : ∀ i : Nat, i < (hmC xss).length → 0 ≤ gi (hmC xss) (i : Int) ∧ gi (hmC xss) (i : Int) < vertsN xss := by
     intro i
     induction i with
     | zero => exact fun _ => gl_range hg _ _ hok.round
     | succ i _ => exact fun hi => gl_range hg _ _ (hok.step i hi)
    have hrm : ∀ x ∈ hmC xss, 0 ≤ x ∧ x < vertsN xss := fun x hx => by
     obtain ⟨i, hi, rfl⟩ := List.mem_iff_getElem.1 hx
     have := hr i hi
     rwa [gi_mem hi] at this
    refine ⟨hG, by rw [hmL, if_pos ⟨hG, h12⟩], hok, hrm, ?_⟩
    rw [cvL, if_pos hG]
    exact cutL_nil _ fun v hv => ham_nocut hg (nb_symG hG.1) hok hrm hv
 ·rw [if_pos hG] at h; omega
theorem girN_pos (xss : List (List Int)) : 0 ≤ girN xss := by
 by_cases h : Loop1 xss
 ·rw [girN_loop h]; decide
 ·by_cases h2 : (endsL xss).Nodup
  ·rw [girN_spec h h2]
   rcases mnG_spec (specW (endsL xss) (nbL xss)) with ⟨e, _⟩ | ⟨w, _, hp, e, _⟩ <;> omega
  ·rw [girN_double h h2]; decide
theorem gir_pos (xss : List (List Int)) : 0 ≤ girV xss := by
 unfold girV
 split
 ·exact girN_pos xss
 ·exact Int.le_refl _
theorem pt_zero {xss : List (List Int)} (h : ptK xss = 0) : Grph xss ∧ ¬ ptBad xss ∧ ptL xss = partsP xss := by
 unfold ptK at h
 by_cases hG : Grph xss
 ·rw [if_neg (fun h => h hG)] at h
  by_cases hb : ptBad xss
  ·rw [if_pos hb] at h; omega
  ·exact ⟨hG, hb, by rw [ptL, if_pos ⟨hG, hb⟩]⟩
 ·rw [if_pos hG] at h; omega
theorem gir_even {xss : List (List Int)} (h : ptK xss = 0) : girV xss % 2 = 0 := by
 obtain ⟨hG, hb, _⟩ := pt_zero h
 unfold girV
 rw [if_pos hG]
 exact girth_even hG hb
theorem gir_one {xss : List (List Int)} (hG : Grph xss) {e : Nat} (he : e < edgesN xss) (h1 : (gl (endsL xss) (e : Int)).length = 1) : girV xss = 1 := by
 unfold girV
 rw [if_pos hG]
 exact girN_loop ⟨e, he, h1⟩
/-- what the law asks of the edges where there are parts -/
theorem pt_ends {xss : List (List Int)} (h : ptK xss = 0) {e : Nat} (he : e < edgesN xss) : (gl (endsL xss) (e : Int)).length = 2 ∧ gi (ptL xss) (gi (gl (endsL xss) (e : Int)) 0) ≠ gi (ptL xss) (gi (gl (endsL xss) (e : Int)) 1) := by
 obtain ⟨hG, hb, hp⟩ := pt_zero h
 have hB : ¬ Bd (endsL xss) (partsP xss) e := fun hB => hb ⟨e, he, hB⟩
 have h1 := ends_pos hG.1 e he
 have h2 := ends_le2 hG e he
 refine ⟨?_, fun h3 => hB (.inr (by rw [← hp]; exact h3))⟩
 have : (gl (endsL xss) (e : Int)).length ≠ 1 := fun h3 => hB (.inl h3)
 omega
theorem codes_same {xss : List (List Int)} (h : ¬ petrieK xss = 0) : petrieK xss = 1 ∧ hmK xss = 1 ∧ ptK xss = 1 ∧ girK xss = 1 := by
 have hG : ¬ Grph xss := fun hG => h (if_pos hG)
 exact ⟨if_neg hG, if_pos hG, if_pos hG, if_pos hG⟩
theorem ham_adj {mn : Nat} {next : List (List Int)} {L : List Int} (hL : HamOk mn next L) {k : Nat} (hk : k < L.length) : gi L (((k : Int) + 1) % (L.length : Int)) ∈ gl next (gi L (k : Int)) := by
 by_cases e : k + 1 < L.length
 ·rw [Int.emod_eq_of_lt (by omega) (by omega)]
  have := hL.step k e
  rwa [Int.natCast_add] at this
 ·have e1 : (k : Int) + 1 = (L.length : Int) := by omega
  rw [e1, Int.emod_self]
  have h := hL.round
  have e2 : lastI L = gi L (k : Int) := by unfold lastI; congr 1; omega
  rwa [e2] at h
theorem ham_new {mn : Nat} {next : List (List Int)} {L : List Int} (hL : HamOk mn next L) {k : Nat} (hk : k < L.length) : gi L (k : Int) ∉ L.take k := by
 intro h
 obtain ⟨i, hi, e⟩ := List.mem_iff_getElem.1 h
 rw [List.length_take] at hi
 rw [List.getElem_take, gi_mem hk] at e
 have := (List.getElem_inj (h₀ := by omega) (h₁ := by omega) hL.nodup).1 e
 omega
theorem hm_nil {xss : List (List Int)} (h : ¬ hmK xss = 0) : hmL xss = [] := by
 unfold hmL
 by_cases hG : Grph xss
 ·by_cases h12 : 12 < vertsN xss
  ·rw [if_neg (fun h => h.2 h12)]
  ·rw [if_pos ⟨hG, h12⟩]
   refine Classical.byContradiction fun hn => h ?_
   unfold hmK
   rw [if_neg (fun h => h hG), if_neg h12, if_neg hn]
 ·rw [if_neg (fun h => hG h.1)]
end Go.Proofs.YtbhnfehcpnnjcaaGreatDoor.Vc
/-
 Maps of one's own: made, looked up, written. Conditions: as each rule names them.
-/
namespace Go.Proofs.YtbhnfehcpnnjcaaGreatDoor.Vc
open Go.RowKit Go.MapKept

/-- a kind of keys -/
structure KeyT {κ : Type} (d : TypeDesc) (kv : κ → Value) : Prop where
 isKey : ∀ a, IsKey d (kv a)
 inj : ∀ a b, kv a = kv b → a = b
theorem keyS : KeyT .string Value.string := ⟨fun _ => trivial, fun a b h => by injection h⟩
section
variable {κ ν : Type} [DecidableEq κ]
def getA : List (κ × ν) → κ → Option ν
  | [], _ => none
  | (y, v) :: r, x => if y = x then some v else getA r x
def putA : List (κ × ν) → κ → ν → List (κ × ν)
  | [], x, v => [(x, v)]
  | (y, u) :: r, x, v => if y = x then (x, v) :: r else (y, u) :: putA r x v
def fndA : List (κ × ν) → κ → Option (Nat × ν)
  | [], _ => none
  | (y, v) :: r, x => if y = x then some (0, v) else (fndA r x).map fun p => (p.1 + 1, p.2)
theorem fndA_get : ∀ (L : List (κ × ν)) (x : κ), getA L x = (fndA L x).map (·.2)
  | [], _ => rfl
  | (y, v) :: r, x => by
    simp only [getA, fndA]
    split
    · rfl
    · rw [fndA_get r x, Option.map_map]; rfl
theorem fndA_some : ∀ {L : List (κ × ν)} {x : κ} {j : Nat} {v : ν}, fndA L x = some (j, v) → L[j]? = some (x, v) ∧ ∀ u, putA L x u = L.set j (x, u)
  | (y, w) :: r, x, j, v, h => by
    simp only [fndA] at h
    split at h
    · rename_i e
      simp only [Option.some.injEq, Prod.mk.injEq] at h
      obtain ⟨rfl, rfl⟩ := h
      subst e
      exact ⟨rfl, fun u => by simp [putA]⟩
    · rename_i e
      cases hf : fndA r x with
      | none => simp [hf] at h
      | some p =>
        simp only [hf, Option.map_some, Option.some.injEq, Prod.mk.injEq] at h
        obtain ⟨rfl, rfl⟩ := h
        obtain ⟨h1, h2⟩ := fndA_some (L := r) (x := x) (j := p.1) (v := p.2) hf
        exact ⟨by simpa using h1, fun u => by simp only [putA, if_neg e, h2 u, List.set_cons_succ]⟩
theorem fndA_none : ∀ {L : List (κ × ν)} {x : κ}, fndA L x = none → ∀ u, putA L x u = L ++ [(x, u)]
  | [], x, _, u => rfl
  | (y, w) :: r, x, h, u => by
    simp only [fndA] at h
    split at h
    · cases h
    · rename_i e
      rw [Option.map_eq_none_iff] at h
      simp only [putA, if_neg e, fndA_none h u, List.cons_append]
theorem getA_put (L : List (κ × ν)) (x y : κ) (u : ν) : getA (putA L x u) y = if x = y then some u else getA L y := by
 induction L with
 | nil => simp only [putA, getA]
 | cons p r ih =>
  obtain ⟨z, w⟩ := p
  simp only [putA]
  by_cases e : z = x
  ·subst e
   rw [if_pos rfl]
   simp only [getA]
   split <;> simp_all
  ·rw [if_neg e]
   simp only [getA, ih]
   by_cases e2 : z = y
   ·subst e2
    rw [if_pos rfl, if_neg (fun h => e h.symm), if_pos rfl]
   ·rw [if_neg e2, if_neg e2]
/-- the pairs as the map's entries -/
def prV (kv : κ → Value) (vv : ν → Value) (L : List (κ × ν)) : List (Value × Value) := L.map fun p => (kv p.1, vv p.2)
theorem findNow_A {d : TypeDesc} {kv : κ → Value} {vv : ν → Value} (K : KeyT d kv) (x : κ) : ∀ (l : List MapEntry) (L : List (κ × ν)) (i : Nat), l.map (fun e => (e.key, e.val)) = prV kv vv L → Instr.findNow d (kv x) l i = some ((fndA L x).map fun p => (i + p.1, vv p.2))
 | [], [], _, _ => rfl
 | [], _ :: _, _, h => by simp [prV] at h
 | _ :: _, [], _, h => by simp [prV] at h
 | e :: l, (y, v) :: L, i, h => by
  simp only [prV, List.map_cons, List.cons.injEq, Prod.mk.injEq] at h
  obtain ⟨⟨h1, h2⟩, h3⟩ := h
  obtain ⟨r, hr, hiff⟩ := sameNow_of_keys (K.isKey x) (K.isKey y)
  simp only [Instr.findNow, fndA]
  rw [h1, hr]
  cases r with
  | true =>
   have e1 := K.inj _ _ (hiff.1 rfl)
   subst e1
   simp [h2]
  | false =>
   have hne : ¬ y = x := fun q => by
    have := hiff.2 (by rw [q])
    cases this
   rw [if_neg hne]
   simp only
   rw [findNow_A K x l L (i + 1) h3, Option.map_map]
   congr 2
   funext p
   simp only [Function.comp]
   rw [Nat.add_assoc, Nat.add_comm 1]
end

/-- a map of one's own, as a row -/
def CkM (t : TypeId) (g : Nat) (kvs : List (Value × Value)) : Ck := ⟨some ⟨g, 0, none⟩, 0, 0, t, .tuple #[] :: flatM kvs⟩
/-- a map that can be read -/
def RdM (w : World) (g : Nat) (kvs : List (Value × Value)) : Prop := ∃ es cl, w.heap[g]? = some (.map es cl) ∧ es.toList.map (fun e => (e.key, e.val)) = kvs
section
variable {w0 w w' : World} {ks : List Ck} {t : TypeId} {g : Nat} {kvs : List (Value × Value)}
theorem St.ownM (h : St w0 w ks) (i : Nat) (hk : ks[i]? = some (CkM t g kvs)) : w0.heap.size ≤ g ∧ RdM w g kvs := by
 rcases (h.get hk).cases with ⟨_, _, _, g', es, cl, hA, hg, hh, hv⟩ | ⟨hm, _⟩
 ·have hA : some (⟨g, 0, Option.none⟩ : Addr) = some ⟨g', 0, Option.none⟩ := hA
  simp only [Option.some.injEq, Addr.mk.injEq, and_true] at hA
  subst hA
  have hv : (.tuple #[] :: flatM kvs : List Value) = .tuple #[] :: flatM (es.toList.map fun e => (e.key, e.val)) := hv
  simp only [List.cons.injEq, true_and] at hv
  exact ⟨hg, es, cl, hh, (flatM_inj hv).symm⟩
 ·cases hm
theorem St.rdM (h : St w0 w ks) (i : Nat) (hk : ks[i]? = some (CkM t g kvs)) : RdM w g kvs := (h.ownM i hk).2
/-- a new map -/
theorem St.allocM (h : St w0 w ks) (t : TypeId) : St w0 (w.alloc (.map #[] 0)) (CkM t w.heap.size [] :: ks) := by
 have hb : Below w.heap.size w (w.alloc (.map #[] 0)) := (Below.refl _ _).alloc (Nat.le_refl _) _
 have h1 := h.later hb
 refine ⟨h1.below, fun k hk => ?_, ?_⟩
 ·rcases List.mem_cons.1 hk with rfl | hk
  ·exact .ofM rfl ⟨rfl, rfl, _, #[], 0, rfl, h.below.size, heap_alloc_new w _, rfl⟩
  ·exact h1.own k hk
 ·simp only [List.filterMap_cons, CkM, Ck.blk, Option.map_some, List.nodup_cons]
  refine ⟨fun hin => ?_, h.apart⟩
  obtain ⟨k', hk', hkb⟩ := List.mem_filterMap.1 hin
  have := ((h.own k' hk').lt hkb).2
  omega
/-- what a store into a map of one's own does -/
theorem St.turnM {i : Nat} {kvs' : List (Value × Value)} {es' : Array MapEntry} {cl' : Nat} (h : St w0 w ks) (hk : ks[i]? = some (CkM t g kvs)) (hv : es'.toList.map (fun e => (e.key, e.val)) = kvs') : St w0 { w with heap := w.heap.setIfInBounds g (.map es' cl') } (ks.set i (CkM t g kvs')) := by
 obtain ⟨hg, es, cl, hh, _⟩ := h.ownM i hk
 refine h.turn (k := CkM t g kvs) (k' := CkM t g kvs') (g := g) hk rfl rfl ⟨⟨rfl, rfl, rfl, by simp, fun x _ hx => ?_⟩, Nat.le_refl _⟩ ?_
 ·exact (heap_set hh).2 x fun e => hx (by rw [e])
 ·refine .ofM rfl ⟨rfl, rfl, g, es', cl', rfl, hg, (heap_set hh).1, ?_⟩
  rw [hv]; rfl
end

section
variable {P : Program} {N : Nat} {ops : Array Oper} {K : Env → World → Prop} {rest : List Oper} {e : Env} {w0 w w' : World} {ks : List Ck} {d : Nat} {ty : TypeId} {pos : String} {af : Array Edge}
variable {κ ν : Type} [DecidableEq κ] {kd : TypeDesc} {kv : κ → Value} {vv : ν → Value}
theorem Ops.mv_str {op : Op} {x : Operand} {s : ByteArray} (hop : mvOf op = some x) (hx : ev e x = .string s) (hb : Nat.blt d N = true) (hK : Ops P N ops K rest (upd e d (.string s)) w) : Ops P N ops K (⟨some d, op, ty, pos, af, none⟩ :: rest) e w := .mv hop hx hb hK
theorem Ops.mv_map {op : Op} {x : Operand} {g : Option Nat} (hop : mvOf op = some x) (hx : ev e x = .map g) (hb : Nat.blt d N = true) (hK : Ops P N ops K rest (upd e d (.map g)) w) : Ops P N ops K (⟨some d, op, ty, pos, af, none⟩ :: rest) e w := .mv hop hx hb hK
theorem Ops.mkmap {t : TypeId} (hS : St w0 w ks) (hb : Nat.blt d N = true) (hK : ∀ g w', St w0 w' (CkM t g [] :: ks) → Ops P N ops K rest (upd e d (.map (some g))) w') :
  Ops P N ops K (⟨some d, .makeMap t none, ty, pos, af, none⟩ :: rest) e w :=
 .val (w' := w.alloc (.map #[] 0)) (by simp [execOp, run_makeMap]) hb (hK _ _ (hS.allocM t))
theorem run_look {t kt et : TypeId} {z : Value} {s b : Nat} [hU : Und P t (.map kt et)] [hk : Und P kt kd] [Inf P et z s b] (KT : KeyT kd kv) {g : Nat} {L : List (κ × ν)} {x : κ} (hR : RdM w g (prV kv vv L)) (ok : Bool) :
    (Instr.lookup t (.map (some g)) (kv x) ok).run P w = .ok (if ok then .tuple #[((getA L x).map vv).getD z, .bool (getA L x).isSome] else ((getA L x).map vv).getD z) w := by
  obtain ⟨es, cl, hh, hm⟩ := hR
  obtain ⟨inf, hi, hz0, _, _⟩ := Inf.get P et
  have hf := findNow_A (vv := vv) KT x es.toList L 0 hm
  rw [fndA_get]
  unfold Instr.lookup
  simp only [Sem.run_bind, run_underlying hU.out, Result.andThen, MapKept.run_getObj_map hh, MapKept.run_checkKey hk.out (KT.isKey x)]
  cases hfn : fndA L x with
  | none =>
    rw [hfn] at hf
    have hfk := MapKept.run_findKey (P := P) (w := w) hk.out hf
    cases ok <;> simp [hfk, zeroValue, typeInfo, hi, hz0]
  | some p =>
    rw [hfn] at hf
    have hfk := MapKept.run_findKey (P := P) (w := w) hk.out hf
    cases ok <;> simp [hfk]
theorem Ops.look {t kt et : TypeId} {z v : Value} {s b : Nat} [Und P t (.map kt et)] [Und P kt kd] [Inf P et z s b] (KT : KeyT kd kv) {g : Nat} {L : List (κ × ν)} {m ix : Operand} {x : κ} (hR : RdM w g (prV kv vv L)) (hx : ev e m = .map (some g)) (hy : ev e ix = kv x) (hv : ((getA L x).map vv).getD z = v) (hb : Nat.blt d N = true)
    (hK : Ops P N ops K rest (upd e d v) w) : Ops P N ops K (⟨some d, .lookup t m ix false, ty, pos, af, none⟩ :: rest) e w := by
  subst hv
  refine .val (w' := w) ?_ hb hK
  have := run_look (P := P) (t := t) (x := x) KT hR false
  simp [execOp, hx, hy, this]
theorem Ops.lookB {t kt et : TypeId} {b : Nat} [Und P t (.map kt et)] [Und P kt kd] [Inf P et (.bool false) 1 b] (KT : KeyT kd kv) {g : Nat} {L : List (κ × Bool)} {m ix : Operand} (x : κ) (hR : RdM w g (prV kv Value.bool L)) (hx : ev e m = .map (some g)) (hy : ev e ix = kv x) (hb : Nat.blt d N = true)
    (hK : Ops P N ops K rest (upd e d (.bool ((getA L x).getD false))) w) : Ops P N ops K (⟨some d, .lookup t m ix false, ty, pos, af, none⟩ :: rest) e w :=
  .look KT hR hx hy (by cases getA L x <;> rfl) hb hK
theorem run_upd {t kt et T : TypeId} [hU : Und P t (.map kt et)] [hk : Und P kt kd] (KT : KeyT kd kv) {g : Nat} {L : List (κ × ν)} (i : Nat) (x : κ) (u : ν) (hS : St w0 w ks) (hi : ks[i]? = some (CkM T g (prV kv vv L))) :
  ∃ w', (Instr.mapUpdate t (.map (some g)) (kv x) (vv u)).run P w = .ok () w' ∧ St w0 w' (ks.set i (CkM T g (prV kv vv (putA L x u)))) := by
 obtain ⟨_, es, cl, hh, hm⟩ := hS.ownM i hi
 have hf := findNow_A (vv := vv) KT x es.toList L 0 hm
 have hfk := MapKept.run_findKey (P := P) (w := w) hk.out hf
 cases hfn : fndA L x with
 | none =>
  refine ⟨{ w with heap := w.heap.setIfInBounds g (.map (es.push ⟨kv x, vv u, cl⟩) (cl + 1)) }, ?_, hS.turnM hi ?_⟩
  ·simp [Instr.mapUpdate, run_underlying hU.out, MapKept.run_getObj_map hh, MapKept.run_checkKey hk.out (KT.isKey x), hfk, hfn, MapKept.run_setObj_map _ hh, Result.andThen]
  ·rw [fndA_none hfn]
   simp only [Array.toList_push, List.map_append, hm, prV]
   rfl
 | some p =>
  obtain ⟨j, v⟩ := p
  obtain ⟨h1, h2⟩ := fndA_some hfn
  have hjl : j < L.length := (List.getElem?_eq_some_iff.1 h1).1
  have hel : es.toList.length = L.length := by have := congrArg List.length hm; simpa [prV] using this
  have hes : es.size = L.length := by simpa using hel
  have hje : j < es.size := by omega
  have hkey : es[j].key = kv x := by
   have := congrArg (fun l => l[j]?) hm
   simp [prV, h1, hje] at this
   exact this.1
  have hst := MapKept.run_keyThatStays (P := P) (w := w) (KT.isKey x)
  refine ⟨{ w with heap := w.heap.setIfInBounds g (.map (es.modify j fun e => { e with key := kv x, val := vv u }) cl) }, ?_, hS.turnM hi ?_⟩
  ·simp [Instr.mapUpdate, run_underlying hU.out, MapKept.run_getObj_map hh, MapKept.run_checkKey hk.out (KT.isKey x), hfk, hfn, MapKept.run_setObj_map _ hh, Result.andThen, hje, hkey, hst]
  ·rw [h2 u]
   apply List.ext_getElem?
   intro q
   have hq := congrArg (fun l => l[q]?) hm
   simp only [prV, List.getElem?_map, Array.getElem?_toList] at hq
   simp only [prV, List.getElem?_map, List.getElem?_set, Array.getElem?_toList, Array.getElem?_modify]
   by_cases e1 : j = q
   ·subst e1
    simp [hje, hjl]
   ·rw [if_neg e1, if_neg e1]
    exact hq
def updOf : Op → Option (TypeId × Operand × Operand × Operand)
 | .mapUpdate t m k x => some (t, m, k, x)
 | .insert t m k x => some (t, m, k, x)
 | _ => none
theorem Ops.upm {op : Op} {t kt et T : TypeId} {m k x : Operand} [hU : Und P t (.map kt et)] [Und P kt kd] (hop : updOf op = some (t, m, k, x)) (KT : KeyT kd kv) {g : Nat} {L : List (κ × ν)} (i : Nat) {a : κ} {u : ν} (hS : St w0 w ks) (hi : ks[i]? = some (CkM T g (prV kv vv L))) (hm : ev e m = .map (some g)) (hk : ev e k = kv a) (hx : ev e x = vv u)
    (hK : ∀ w', St w0 w' (ks.set i (CkM T g (prV kv vv (putA L a u)))) → Ops P N ops K rest e w') : Ops P N ops K (⟨none, op, ty, pos, af, none⟩ :: rest) e w := by
  obtain ⟨w', hrun, hS'⟩ := run_upd (P := P) (t := t) KT i a u hS hi
  refine .unit (w' := w') ?_ (hK _ hS')
  cases op <;> simp [updOf] at hop <;> obtain ⟨rfl, rfl, rfl, rfl⟩ := hop <;> simp [execOp, hm, hk, hx, hrun]
end
end Go.Proofs.YtbhnfehcpnnjcaaGreatDoor.Vc
