/-
  The texts D2, D3, N1, N2, Lm1, Dr1, N3, Fl1, Open, Opm, Opy in one. Conditions: as each part states them.
-/
import Derived.Test.YtjpkmpihmilgoaaGreatLayb
import Derived.Test.YtjpkmpihmilgoaaGreatZe
import Derived.Shelf.SlicesE.Compact
import Derived.Shelf.SlicesE.Delete
import Derived.Test.YtjpkmpihmilgoaaGreatZg
import Derived.Test.YtjpkmpihmilgoaaGreatZc
import Derived.Test.YtjpkmpihmilgoaaGreatZa
import Derived.Test.YtjpkmpihmilgoaaGreatInst
import Derived.Deep.Matrix
import Derived.Carry
import Derived.Below
import Derived.ChangeSame
import Derived.ProofKit
import Derived.OpenShut
import Derived.Handed
import Derived.Lib.SmallJoins
import Derived.Test.YtjpkmpihmilgoaaGreatZb
/-
  The library's Compact of an ascending list of one's own, and its Delete in a list of lists of one's own; sets as ascending lists. Conditions: as each states them.
-/
namespace Go.Proofs.YtjpkmpihmilgoaaGreat.Vc
open Go.RowKit Go.Sort

/-! what the library leaves in a row of one's own -/
theorem heap_put {α : Type} [Inhabited α] {enc : α → Value} {w : World} {g q off : Nat} {cur : Array Value} {e : TypeId} {fr : Nat × Nat} (d : Array α) (hb : w.heap[g]? = some (.cells cur e fr)) :
    (putRow enc (Sort.ahead w q) g off d).heap[g]? = some (.cells (putCells enc off d cur) e fr) := by
  simp [putRow, mapBlock, Sort.ahead, Array.getElem?_modify, hb, onCells]
theorem grownBy_put {α : Type} [Inhabited α] {enc : α → Value} {w : World} {g q off : Nat} (d : Array α) : GrB w (putRow enc (Sort.ahead w q) g off d) (some g) := by
  refine ⟨⟨rfl, rfl, rfl, by simp [Sort.ahead], fun k hk hne => ?_⟩, Nat.le_add_right _ _⟩
  have : g ≠ k := fun e => hne (by rw [e])
  simp [putRow, mapBlock, Sort.ahead, Array.getElem?_modify, this]
theorem holds_own {α : Type} [Inhabited α] {enc : α → Value} {w : World} {g o : Nat} {cur : Array Value} {e : TypeId} {ds : List α} (hh : w.heap[g]? = some (.cells cur e (0, 0))) (hc : ∀ j, j < ds.length → cur[o + j]? = (ds.map enc)[j]?) : Holds enc w g o ds.toArray := fun j hj => by
  have hj' : j < ds.length := by simpa using hj
  refine ⟨?_, by simp [World.frozen?, hh]⟩
  simp only [World.cell?, hh]
  simp only [Option.isSome_none, Bool.false_eq_true, if_false]
  rw [hc j hj']
  simp [hj']
/-- a row of one's own, laid anew by the library, and cut -/
theorem St.laid {α : Type} [Inhabited α] {enc : α → Value} {w0 w : World} {ks : List Ck} {i : Nat} {k : Ck} {g o q m : Nat} {cur : Array Value} {ds : List α} (hS : St w0 w ks) (hk : ks[i]? = some k) (hA : k.A = some ⟨g, o, Option.none⟩) (hg : w0.heap.size ≤ g) (hh : w.heap[g]? = some (.cells cur k.e (0, 0))) (hs : o + k.c ≤ cur.size) (hm : m ≤ ds.length) (hd : ds.length ≤ k.c) (hc : k.c ≤ maxLen) (he1 : ∀ x, (enc x).oneCell' = true := by intro _; rfl) :
    St w0 (putRow enc (Sort.ahead w q) g o ds.toArray) (ks.set i ⟨k.A, m, k.c, k.e, (ds.take m).map enc⟩) := by
  refine hS.turn hk (by simp [Ck.blk, hA]) (by simp [Ck.blk, hA]) (grownBy_put _) (.ofC (isM_all fun v hv => by obtain ⟨x, _, rfl⟩ := List.mem_map.1 hv; exact he1 x) ⟨by simp; omega, by show m ≤ k.c; omega, hc, .inr ⟨g, o, _, hA, hg, heap_put _ hh, by simp only [putCells, Array.size_mapIdx]; exact hs, fun j hj => ?_⟩⟩)
  have hj : j < m := hj
  show (putCells enc o ds.toArray cur)[o + j]? = ((ds.take m).map enc)[j]?
  have hlt2 : o + j < cur.size := by omega
  have hjd : j < ds.length := by omega
  simp [putCells, hlt2, hjd, List.getElem?_take, hj]

/-! ascending lists without twins -/
def SA (l : List Int) : Prop := l.Pairwise (· < ·)
def cmpL (xs : List Int) : List Int := Lib.compactUpTo xs.toArray xs.toArray.size
/-- the elements of a list as an ascending list without twins -/
def cs (l : List Int) : List Int := cmpL (srt l)
instance : Inhabited SlV := ⟨slNil⟩
theorem delete_c {w0 w : World} {ks : List Ck} (i : Nat) {t : TypeId} {A : Option Addr} {n c a b : Nat} {xs : List SlV} (hS : St w0 w ks) (hk : ks[i]? = some (CkR t A n c xs)) (h0 : 0 < n) (hn : n ≤ 1000000000) (hab : a ≤ b) (hb : b ≤ n) :
    Ret Tryz.prog 165 [.slice A n c, .int .i64 (a : Int), .int .i64 (b : Int)] w (fun v w' => v = .slice A (n - (b - a)) c ∧ St w0 w' (ks.set i (CkR t A (n - (b - a)) c (xs.take a ++ xs.drop b)))) := by
  obtain ⟨h1, h2, h3, h4⟩ := hS.getC hk (isM_R _)
  have hl : xs.length = n := (hS.rdR i hk).1
  have h2 : n ≤ c := h2
  have h3 : c ≤ maxLen := h3
  rcases h4 with ⟨_, hc0⟩ | ⟨g, o, cur, hA, hg, hh, hs, hc⟩
  · have hc0 : c = 0 := hc0
    omega
  have hA : A = some ⟨g, o, none⟩ := hA
  have hs : o + c ≤ cur.size := hs
  have hc : ∀ j, j < n → cur[o + j]? = (xs.map SlV.v)[j]? := hc
  subst hA
  subst hl
  obtain ⟨i0, hi0, _, hz1, _⟩ := Inf.get Tryz.prog 34
  have key := AnyE.slices_Delete ldel SlV.v (fun _ => rfl) slNil (fun w => Tryz.zeroValue34 w) i0 hi0 hz1 g o c a b xs.toArray w (holds_own hh hc) (by simpa using h2) (by simpa [maxLen] using h3) hab (by simpa using hb)
  refine Calls.mono key fun x w' ⟨hx, q, hw⟩ => ⟨_, hx, by simp, ?_⟩
  subst hw
  have h := hS.laid (q := q) (m := xs.length - (b - a)) (enc := SlV.v) (ds := xs.toArray.toList.take a ++ xs.toArray.toList.drop b ++ List.replicate (b - a) slNil) hk rfl hg hh hs (by simp; omega) (by simp; omega) h3
  have e1 : (xs.toArray.toList.take a ++ xs.toArray.toList.drop b ++ List.replicate (b - a) slNil).take (xs.length - (b - a)) = xs.take a ++ xs.drop b := by
    have e2 : (xs.take a ++ xs.drop b).length = xs.length - (b - a) := by simp; omega
    show (xs.take a ++ xs.drop b ++ List.replicate (b - a) slNil).take _ = _
    rw [← e2, List.take_append_of_le_length (Nat.le_refl _), List.take_length]
  rw [e1] at h
  exact h
end Go.Proofs.YtjpkmpihmilgoaaGreat.Vc
/-
  Faces on the program's side; the ends of edges on the reference's. Conditions: as each states them.
-/
namespace Go.Proofs.YtjpkmpihmilgoaaGreat.Vc
open Go.RowKit

theorem CloneR_c (A : Option Addr) (n c : Nat) (rs : List SlV) (w : World) (hR : RdR w A n rs) (hn : n ≤ 1000000) (h0 : 0 < n) : Ret Tryz.prog 166 [.slice A n c] w (fun v w' => ∃ A' c', v = .slice A' n c' ∧ St w w' [CkR 34 A' n c' rs]) := by
  cases hA : A with
  | none =>
    subst hA
    obtain ⟨p, hp, _⟩ := hR.2 0 h0
    simp [ptrAt] at hp
  | some a =>
    subst hA
    refine Ret.of_cd Tryz.func166 rfl Tryz.ntmps166 rfl (post1 rfl) ?_
    refine Cd.seq ?_
    refine Cd.region ?_
    refine Ops.mv_sl rfl rfl rfl ?_
    refine Ops.nil ?_
    refine thenQ_n ?_
    refine Cd.seq ?_
    refine Cd.seq ?_
    refine Cd.region ?_
    refine Ops.mv_sl rfl rfl rfl ?_
    refine Ops.eqNil rfl rfl rfl ?_
    refine Ops.nil ?_
    refine thenQ_n ?_
    refine Cd.cond_f rfl ?_
    refine Cd.skip ?_
    refine thenQ_n ?_
    refine Cd.seq ?_
    refine Cd.region ?_
    refine Ops.bs0 (St.refl w) rfl ?_
    intro A1 w1 hS1
    have hS1 : St w w1 [CkR 34 A1 0 0 []] := hS1
    refine Ops.mv_sl rfl rfl rfl ?_
    refine Ops.appR 0 hS1 rfl (hS1.oldR hR) rfl rfl rfl (by omega) (by omega) rfl ?_
    intro A2 c2 w2 hS2
    rw [Nat.zero_add] at hS2 ⊢
    refine Ops.mv_sl rfl rfl rfl ?_
    refine Ops.nil ?_
    refine thenQ_n ?_
    refine Cd.ret ?_
    refine ret1_s rfl ?_
    exact ⟨A2, c2, rfl, hS2⟩

theorem without_c (Ab A : Option Addr) (n c : Nat) (rs : List SlV) (xss : List (List Int)) (i : Nat) (w : World) (hB : Rd w Ab 1 (fun _ => .slice A n c)) (hR : RowsI w A n rs xss) (hn : n ≤ 1000) (hi : i < n) :
    Ret Tryz.prog 123 [.pointer Ab, .int .i64 (i : Int)] w (fun v w' => ∃ A' c', v = .slice A' (n - 1) c' ∧ St w w' [CkR 34 A' (n - 1) c' (rs.eraseIdx i)]) := by
  refine Ret.of_cd Tryz.func123 rfl Tryz.ntmps123 rfl (post1 rfl) ?_
  refine Cd.seq ?_
  refine Cd.region ?_
  refine Ops.mv_sl rfl rfl rfl ?_
  refine Ops.nil ?_
  refine thenQ_n ?_
  refine Cd.seq ?_
  refine Cd.region ?_
  refine Ops.mv_ptr rfl rfl rfl ?_
  refine Ops.nilp hB (by decide) rfl rfl ?_
  refine Ops.fld hB rfl rfl rfl rfl inferInstance ?_
  refine Ops.ldf_s hB rfl rfl rfl rfl rfl ?_
  refine Ops.call (CloneR_c A n c rs _ hR.top (by omega) (by omega)) rfl rfl rfl ?_
  rintro _ w1 ⟨A1, c1, rfl, hS1⟩
  refine Ops.mv_int rfl rfl rfl ?_
  refine Ops.mv_int rfl rfl rfl ?_
  refine Ops.add rfl rfl rfl (by omega) ?_
  have hi1 : ((i : Int) + 1) = ((i + 1 : Nat) : Int) := by omega
  rw [hi1]
  refine Ops.call (delete_c 0 hS1 rfl (by omega) (by omega) (show i ≤ i + 1 by omega) (by omega)) rfl rfl rfl ?_
  rintro _ w2 ⟨rfl, hS2⟩
  refine Ops.mv_sl rfl rfl rfl ?_
  refine Ops.nil ?_
  refine thenQ_n ?_
  refine Cd.ret ?_
  refine ret1_s rfl ?_
  have e : n - (i + 1 - i) = n - 1 := by omega
  rw [e]
  rw [e, ← List.eraseIdx_eq_take_drop_succ] at hS2
  exact ⟨A1, c1, rfl, hS2⟩

theorem faces_c (Ab A : Option Addr) (n c : Nat) (rs : List SlV) (xss : List (List Int)) (i : Nat) (w : World) (hB : Rd w Ab 1 (fun _ => .slice A n c)) (hR : RowsI w A n rs xss) (hM : Mani xss) (hi : i < n) :
    Ret Tryz.prog 106 [.pointer Ab, .int .i64 (i : Int)] w (fun v w' => ∃ A', v = .tuple #[.slice A' (gl xss 0).length (gl xss 0).length, .int .i64 (facesN xss i)] ∧ St w w' [CkI 2 A' (gl xss 0).length (gl xss 0).length (facesL xss i)]) := by
  have hl := hR.len
  have h1 := hM.1
  have h2 := hM.2.1
  have e0 : (rg rs 0).n = (gl xss 0).length := (hR.rowLen (by omega) (by omega)).symm
  refine Ret.of_cd Tryz.func106 rfl Tryz.ntmps106 rfl (post2 rfl) ?_
  refine Cd.seq ?_
  refine Cd.region ?_
  refine Ops.mv_sl rfl rfl rfl ?_
  refine Ops.mv_int rfl rfl rfl ?_
  refine Ops.nil ?_
  refine thenQ_n ?_
  refine Cd.seq ?_
  refine Cd.region ?_
  refine Ops.mv_ptr rfl rfl rfl ?_
  refine Ops.call (flags_c Ab A n c rs xss _ w hB rfl hR (by omega)) rfl rfl rfl ?_
  rintro _ w ⟨rfl, rfl⟩
  rw [e0]
  refine Ops.mv_ptr rfl rfl rfl ?_
  refine Ops.mv_int rfl rfl rfl ?_
  refine Ops.call (without_c Ab A n c rs xss i _ hB hR (by omega) hi) rfl rfl rfl ?_
  rintro _ w1 ⟨A1, c1, rfl, hS1⟩
  refine Ops.call (orbitLabels_c A1 (n - 1) c1 (rs.eraseIdx i) (xss.eraseIdx i) (gl xss 0).length _ ((hS1.oldRows hR).erase hi (hS1.rdR 0 rfl)) (by omega) (hM.2.2.1.sys.erase i) (hM.2.2.1.inj.erase i) (by omega)) rfl rfl rfl ?_
  rintro _ w2 ⟨A2, rfl, hst⟩
  have hS2 := hS1.call hst
  refine Ops.extract rfl rfl rfl ?_
  refine Ops.extract rfl rfl rfl ?_
  refine Ops.mv_sl rfl rfl rfl ?_
  refine Ops.mv_int rfl rfl rfl ?_
  refine Ops.nil ?_
  refine thenQ_n ?_
  refine Cd.ret ?_
  refine ret2_si rfl rfl ?_
  exact ⟨A2, rfl, hS2.sub (List.Sublist.cons_cons _ (List.nil_sublist _))⟩

/-! rows put anew -/
end Go.Proofs.YtjpkmpihmilgoaaGreat.Vc
/-
  The walks of the numbers of faces on both sides. Conditions: as each states them.
-/
namespace Go.Proofs.YtjpkmpihmilgoaaGreat.Vc
open Go.RowKit

/-- the numbers of faces -/
def cntF (xss : List (List Int)) : List Int := (List.range xss.length).map fun i => facesN xss i
theorem cntF_len (xss : List (List Int)) : (cntF xss).length = xss.length := by simp [cntF]
theorem cntF_take {xss : List (List Int)} {i : Nat} (h : i < xss.length) : (cntF xss).take (i + 1) = (cntF xss).take i ++ [facesN xss i] := by
  rw [List.take_succ_eq_append_getElem (by rw [cntF_len]; exact h)]
  simp [cntF]

theorem faceCounts_c (Ab A : Option Addr) (n c : Nat) (rs : List SlV) (xss : List (List Int)) (w : World) (hB : Rd w Ab 1 (fun _ => .slice A n c)) (hR : RowsI w A n rs xss) (hM : Mani xss) :
    Ret Tryz.prog 56 [.pointer Ab] w (fun v w' => ∃ A' c', v = .slice A' n c' ∧ St w w' [CkI 2 A' n c' (cntF xss)]) := by
  have hl := hR.len
  have h1 := hM.1
  have h2 := hM.2.1
  refine Ret.of_cd Tryz.func56 rfl Tryz.ntmps56 rfl (post1 rfl) ?_
  refine Cd.seq ?_
  refine Cd.region ?_
  refine Ops.mv_sl rfl rfl rfl ?_
  refine Ops.nil ?_
  refine thenQ_n ?_
  refine Cd.seq ?_
  refine Cd.region ?_
  refine Ops.mv_sl rfl rfl rfl ?_
  refine Ops.nil ?_
  refine thenQ_n ?_
  refine Cd.seq ?_
  refine Cd.seq ?_
  refine Cd.region ?_
  refine Ops.mv_ptr rfl rfl rfl ?_
  refine Ops.call (rank_c Ab A n c _ _ hB rfl) rfl rfl rfl ?_
  rintro _ w ⟨rfl, rfl⟩
  refine Ops.mv_int rfl rfl rfl ?_
  refine Ops.nil ?_
  refine thenQ_n ?_
  refine Cd.block ?_
  refine Cd.loop (α := Nat × Option Addr × Nat) (fun s => [(0, .pointer Ab), (3, .slice s.2.1 s.1 s.2.2), (8, .int .i64 (n : Int)), (9, .int .i64 (s.1 : Int))]) (fun s w' => St w w' [CkI 2 s.2.1 s.1 s.2.2 ((cntF xss).take s.1)] ∧ s.1 ≤ n) (fun s => n - s.1) (0, none, 0) ⟨rfl, rfl, rfl, rfl, trivial⟩ ⟨(St.refl w).nil _, Nat.zero_le _⟩ ?_
  rintro ⟨i, A3, c3⟩ e w1 ⟨hS1, hi⟩
  dsimp only at hS1 hi ⊢
  refine Cd.seq ?_
  refine Cd.region ?_
  refine Ops.lss rfl rfl rfl ?_
  refine Ops.nil ?_
  refine thenQ_n ?_
  refine Cd.seq ?_
  refine Cd.cond_p _ rfl (fun h3 => ?_) (fun h3 => ?_)
  · have hi' : i < n := by omega
    have hfn := facesN_le xss i
    refine Cd.skip ?_
    refine thenQ_n ?_
    refine Cd.seq ?_
    refine Cd.block ?_
    refine Cd.seq ?_
    refine Cd.region ?_
    refine Ops.mv_int rfl rfl rfl ?_
    refine Ops.mv_int rfl rfl rfl ?_
    refine Ops.nil ?_
    refine thenQ_n ?_
    refine Cd.seq ?_
    refine Cd.region ?_
    refine Ops.mv_ptr rfl rfl rfl ?_
    refine Ops.mv_int rfl rfl rfl ?_
    refine Ops.call (faces_c Ab A n c rs xss i _ (hB.below hS1.below) (hS1.oldRows hR) hM hi') rfl rfl rfl ?_
    rintro _ w2 ⟨A5, rfl, hst2⟩
    have hS2 := (hS1.call hst2).tail
    refine Ops.mv_tup rfl rfl rfl ?_
    refine Ops.extract rfl rfl rfl ?_
    refine Ops.extract rfl rfl rfl ?_
    refine Ops.mv_sl rfl rfl rfl ?_
    refine Ops.mv_int rfl rfl rfl ?_
    refine Ops.nil ?_
    refine thenQ_n ?_
    refine Cd.region ?_
    refine Ops.mv_sl rfl rfl rfl ?_
    refine Ops.mv_int rfl rfl rfl ?_
    refine Ops.bs1I hS2 rfl rfl rfl ?_
    intro A6 w3 hS3
    refine Ops.appI 1 hS3 rfl (hS3.rdI 0 rfl) rfl rfl rfl (by omega) (by omega) rfl ?_
    intro A7 c7 w4 hS4
    refine Ops.mv_sl rfl rfl rfl ?_
    refine Ops.nil ?_
    refine blockQ_n ?_
    refine thenQ_n ?_
    refine Cd.region ?_
    refine Ops.add rfl rfl rfl (by omega) ?_
    refine Ops.mv_int rfl rfl rfl ?_
    refine Ops.nil ?_
    refine thenQ_n ?_
    refine ⟨(i + 1, A7, c7), by show n - (i + 1) < n - i; omega, ⟨rfl, rfl, rfl, rfl, trivial⟩, ?_, hi'⟩
    show St w w4 [CkI _ A7 (i + 1) c7 ((cntF xss).take (i + 1))]
    rw [cntF_take (by omega)]
    exact hS4.tail
  · refine Cd.exit ?_
    refine thenQ_x ?_
    refine thenQ_x ?_
    refine blockQ_x ?_
    refine thenQ_n ?_
    refine Cd.seq ?_
    refine Cd.region ?_
    refine Ops.mv_sl rfl rfl rfl ?_
    refine Ops.mv_sl rfl rfl rfl ?_
    refine Ops.nil ?_
    refine thenQ_n ?_
    refine Cd.ret ?_
    refine ret1_s rfl ?_
    have hin : i = n := by omega
    rw [hin, List.take_of_length_le (by rw [cntF_len]; omega)] at hS1
    rw [hin]
    exact ⟨A3, c3, rfl, hS1⟩

theorem censusOf1_c (A : Option Addr) (n c : Nat) (rs : List SlV) (xss : List (List Int)) (A' : Option Addr) (n' c' : Nat) (rs' : List SlV) (yss : List (List Int)) (w : World) (hX : RowsI w A n rs xss) (hY : RowsI w A' n' rs' yss) (hM : Mani xss) (hM' : Mani yss) :
    Ret Tryz.prog 54 [.agg #[.slice A n c], .agg #[.slice A' n' c']] w (fun v w' => v = .int .i64 (lexC (cntF xss) (cntF yss)) ∧ St w w' []) := by
  have hxl := hX.len
  have hyl := hY.len
  have h1 := hM.1
  have h1' := hM'.1
  refine Ret.of_cd Tryz.func54 rfl Tryz.ntmps54 rfl (post1 rfl) ?_
  refine Cd.seq ?_
  refine Cd.region ?_
  refine Ops.box1 (St.refl w) rfl rfl ?_
  intro Ab w1 hS1
  refine Ops.box1 hS1 rfl rfl ?_
  intro Ac w2 hS2
  refine Ops.mv_int rfl rfl rfl ?_
  refine Ops.nil ?_
  refine thenQ_n ?_
  refine Cd.seq ?_
  refine Cd.region ?_
  refine Ops.call (faceCounts_c Ab A n c rs xss _ (Rd.one (hS2.rd 1 rfl)) (hS2.oldRows hX) hM) rfl rfl rfl ?_
  rintro _ w3 ⟨A5, c5, rfl, hst3⟩
  have hS3 := hS2.call hst3
  refine Ops.call (faceCounts_c Ac A' n' c' rs' yss _ (Rd.one (hS3.rd 1 rfl)) (hS3.oldRows hY) hM') rfl rfl rfl ?_
  rintro _ w4 ⟨A6, c6, rfl, hst4⟩
  have hS4 := hS3.call hst4
  refine Ops.call (Compare_c A5 n c5 (cntF xss) A6 n' c6 (cntF yss) _ (hS4.rdI 1 rfl) (hS4.rdI 0 rfl) (by omega)) rfl rfl rfl ?_
  rintro _ w4 ⟨rfl, rfl⟩
  refine Ops.mv_int rfl rfl rfl ?_
  refine Ops.nil ?_
  refine thenQ_n ?_
  refine Cd.ret ?_
  refine ret1_i rfl ?_
  exact ⟨rfl, hS4.none⟩
end Go.Proofs.YtjpkmpihmilgoaaGreat.Vc
/-
  CensusOf on both sides. Conditions: as each states them.
-/
namespace Go.Proofs.YtjpkmpihmilgoaaGreat.Vc
open Go.RowKit

/-- an element of a census, with its memory -/
structure CE where
  s : SlV
  xs : List Int
  v : Int
def CE.cv (e : CE) : CV := ⟨e.s, e.v⟩
def CE.ck (t : TypeId) (e : CE) : Ck := CkI t e.s.a e.s.n e.s.c e.xs
def CE.pr (e : CE) : List Int × Int := (e.xs, e.v)
def insE (e : CE) (a : Nat) (es : List CE) : List CE := es.take a ++ e :: es.drop a
/-- an answer: a census, and a code -/
def AnsC (L : Cs) (K : Int) (w : World) (v : Value) (w' : World) : Prop := ∃ A c, ∃ es : List CE, v = .tuple #[.slice A es.length c, .int .i64 K] ∧ es.map CE.pr = L ∧ St w w' (CkC 43 A es.length c (es.map CE.cv) :: es.map (CE.ck 2))
theorem AnsC.none {w w' : World} {ks : List Ck} {K : Int} (h : St w w' ks) : AnsC [] K w (.tuple #[.slice Option.none 0 0, .int .i64 K]) w' := ⟨Option.none, 0, [], rfl, rfl, h.none.nil _⟩
def cnR (rank flags : Int) : Cs := csS ((lstI rank flags).map cntF)
theorem cen_num {R : Cs} {l : List (List Int)} (h : CenOf R l) {y : List Int} {n : Int} (hm : (y, n) ∈ R) : 0 ≤ n ∧ n ≤ (l.length : Nat) := by
  have h1 := ((h.2 y n).1 hm).2
  have h2 := List.count_le_length (a := y) (l := l)
  omega
section
variable {w0 w : World} {ks : List Ck} {A : Option Addr} {q : Nat} {es : List CE}
theorem CE.get {t : TypeId} {j : Nat} (hj : j < es.length) : (es.map (CE.ck t))[j]? = some (CkI t es[j].s.a es[j].s.n es[j].s.c es[j].xs) := by
  rw [List.getElem?_map, List.getElem?_eq_getElem hj]; rfl
theorem CE.set_pr {a : Nat} (ha : a < es.length) (v : Int) : (es.set a ⟨es[a].s, es[a].xs, v⟩).map CE.pr = (es.map CE.pr).set a (es[a].xs, v) ∧ (es.set a ⟨es[a].s, es[a].xs, v⟩).map CE.cv = (es.map CE.cv).set a ⟨es[a].s, v⟩ := by
  rw [List.map_set, List.map_set]; exact ⟨rfl, rfl⟩
theorem CE.set_ck {t : TypeId} {a : Nat} (ha : a < es.length) (v : Int) : (es.set a ⟨es[a].s, es[a].xs, v⟩).map (CE.ck t) = es.map (CE.ck t) := by
  rw [List.map_set]
  apply List.ext_getElem?
  intro j
  rw [List.getElem?_set]
  split
  · rename_i e
    subst e
    rw [if_pos (by simpa using ha), CE.get ha]
    rfl
  · rfl
/-- a number stored -/
theorem St.incC {t : TypeId} {i a : Nat} {cs : List CV} {k : Nat} {v : Int} {w' : World} (ha : a < cs.length) (h : St w0 w' (ks.set i { CkC t A k q cs with vs := (CkC t A k q cs).vs.set (2 * a + 1) (.int .i64 v) })) : St w0 w' (ks.set i (CkC t A k q (cs.set a ⟨cs[a].s, v⟩))) := by
  have e : ({ CkC t A k q cs with vs := (CkC t A k q cs).vs.set (2 * a + 1) (.int .i64 v) } : Ck) = CkC t A k q (cs.set a ⟨cs[a].s, v⟩) := by
    show (⟨A, 2 * k, min (2 * q) maxLen, t, (flatC cs).set (2 * a + 1) (.int .i64 v)⟩ : Ck) = _
    rw [flatC_set ha]
    rfl
  rwa [e] at h
end
theorem ptrC (A : Option Addr) (a : Nat) : ptrAt (ptrAt A (a * 2)) 1 = ptrAt A (2 * a + 1) := by
  rw [ptrAt_ptrAt, Nat.mul_comm]

theorem lexC_ntrans {a b c : List Int} (h : ¬ lexC a b < 0) (h' : ¬ lexC b c < 0) : ¬ lexC a c < 0 := fun hac => by
  by_cases e : a = b
  · subst e; exact h' hac
  · exact h' (lexC_trans (lexC_tri h e) hac)
/-- the sort of a row of matrices, by their numbers of faces -/
theorem sortC_c {w0 w : World} {A : Option Addr} {c : Nat} {ms : List MatV} {ks : List Ck} (hok : ∀ m ∈ ms, m.ok) (hM : ∀ m ∈ ms, Mani m.xss) (hn : ms.length ≤ 4000000000000) (hS : St w0 w (CkR 32 A ms.length c (ms.map (·.top)) :: (ks ++ matsCk 34 2 ms))) :
    Ret Tryz.prog 53 [.slice A ms.length c, .func (.func 54) #[] #[]] w (fun v w' => v = .tuple #[] ∧ ∃ ms' : List MatV, ms'.Perm ms ∧ ((ms'.map (·.xss)).map cntF).Pairwise (fun a b => ¬ lexC b a < 0) ∧
      St w0 w' (CkR 32 A ms'.length c (ms'.map (·.top)) :: (ks ++ matsCk 34 2 ms'))) := by
  refine Ret.mono (sortF_c 0 hS rfl hn 54 (fun a b => lexC (cntF (mv ms a).xss) (cntF (mv ms b).xss)) (fun a b c _ _ _ => ⟨?_, fun h h' => lexC_trans h h', fun h h' => lexC_ntrans h h'⟩) (fun w' q hq hqn hW a b ha hb => ?_)) ?_
  · rw [lexC_zero.2 rfl]; omega
  · have hr : ∀ j, j < ms.length → RowsI w' (mv ms j).top.a (mv ms j).top.n (mv ms j).rs (mv ms j).xss := fun j hj => by
      have hm := mv_mem hj
      exact hW.matAt (c := (mv ms j).top.c) (t1 := 34) (t2 := 2) (((MatV.sub_ hm).trans (List.sublist_append_right _ _)).trans (List.sublist_cons_self _ _)) (hok _ hm)
    rw [sv_top, sv_top]
    exact censusOf1_c _ _ _ _ _ _ _ _ _ _ _ (hr a ha) (hr b hb) (hM _ (mv_mem ha)) (hM _ (mv_mem hb))
  · rintro v w' ⟨hv, q, hp, hs, hW⟩
    have hp2 : (q.map (mv ms)).Perm ms := by have := hp.map (mv ms); rwa [mv_range] at this
    refine ⟨hv, q.map (mv ms), hp2, ?_, ?_⟩
    · rw [List.map_map, List.map_map, List.pairwise_map]
      exact hs
    · have e1 : q.map (sv (ms.map (·.top))) = (q.map (mv ms)).map (·.top) := by
        rw [List.map_map]
        exact List.map_congr_left fun j _ => sv_top ms j
      rw [e1] at hW
      have hW : St w0 w' (CkR 32 A ms.length c ((q.map (mv ms)).map (·.top)) :: (ks ++ matsCk 34 2 ms)) := hW
      rw [hp2.length_eq]
      exact hW.perm (List.Perm.cons _ (List.Perm.append_left _ (matsCk_perm hp2.symm)))
theorem implCensusOf_c (rank flags : Int) (w : World) : Ret Tryz.prog 14 [.int .i64 rank, .int .i64 flags] w (AnsC (cnR rank flags) (lstK rank flags) w) := by
  have hlst := lst_len rank flags
  refine Ret.of_cd Tryz.func14 rfl Tryz.ntmps14 rfl (post2 rfl) ?_
  refine Cd.seq ?_
  refine Cd.region ?_
  refine Ops.mv_sl rfl rfl rfl ?_
  refine Ops.mv_int rfl rfl rfl ?_
  refine Ops.nil ?_
  refine thenQ_n ?_
  refine Cd.seq ?_
  refine Cd.region ?_
  refine Ops.mv_int rfl rfl rfl ?_
  refine Ops.mv_int rfl rfl rfl ?_
  refine Ops.call (allManiplexes_c rank flags _) rfl rfl rfl ?_
  rintro _ w2 ⟨A, c, ms0, rfl, hL, hok, hS⟩
  refine Ops.mv_tup rfl rfl rfl ?_
  refine Ops.extract rfl rfl rfl ?_
  refine Ops.extract rfl rfl rfl ?_
  refine Ops.mv_sl rfl rfl rfl ?_
  refine Ops.mv_int rfl rfl rfl ?_
  refine Ops.nil ?_
  refine thenQ_n ?_
  refine Cd.seq ?_
  refine Cd.seq ?_
  refine Cd.region ?_
  refine Ops.mv_int rfl rfl rfl ?_
  refine Ops.neq rfl rfl rfl ?_
  refine Ops.nil ?_
  refine thenQ_n ?_
  refine Cd.cond_p _ rfl (fun h => ?_) (fun h => ?_)
  · have hs : ¬ Small rank flags := fun hs => h (by rw [lstK, if_pos hs])
    refine Cd.seq ?_
    refine Cd.region ?_
    refine Ops.mv_int rfl rfl rfl ?_
    refine Ops.mv_sl rfl rfl rfl ?_
    refine Ops.mv_int rfl rfl rfl ?_
    refine Ops.nil ?_
    refine thenQ_n ?_
    refine Cd.ret ?_
    refine thenQ_r ?_
    refine ret2_si rfl rfl ?_
    rw [cnR, lstI, if_neg hs]
    exact AnsC.none hS
  · have hs : Small rank flags := Classical.byContradiction fun hs => h (by rw [lstK, if_neg hs]; decide)
    obtain ⟨n, rfl⟩ : ∃ n : Nat, rank = n := ⟨rank.toNat, by have := hs.1; omega⟩
    obtain ⟨F, rfl⟩ : ∃ F : Nat, flags = F := ⟨flags.toNat, by have := hs.2; omega⟩
    have hs1 := hs.1
    have hs2 := hs.2
    have hlI : lstI (n : Int) (F : Int) = listL n F := by rw [lstI, if_pos hs, Int.toNat_natCast, Int.toNat_natCast]
    have hml0 : ms0.length = (lstI (n : Int) (F : Int)).length := by rw [← hL, List.length_map]
    have hel0 : ∀ m ∈ ms0, Mani m.xss ∧ m.top.n = n := fun m hm => by
      have hm' : m.xss ∈ listL n F := by rw [← hlI, ← hL]; exact List.mem_map_of_mem (f := (·.xss)) hm
      obtain ⟨h3, h4⟩ := forms_mani (by omega) (by omega) (listL_mem.1 hm').1
      have ho := hok _ hm
      unfold MatV.ok at ho
      exact ⟨h3, by rw [← ho]; exact h4.shp.1⟩
    refine Cd.skip ?_
    refine thenQ_n ?_
    refine Cd.seq ?_
    refine Cd.region ?_
    refine Ops.mv_sl rfl rfl rfl ?_
    refine Ops.call (sortC_c (ks := []) hok (fun m hm => (hel0 m hm).1) (by omega) hS) rfl rfl rfl ?_
    rintro _ w3 ⟨rfl, ms, hp, hsort, hS3⟩
    rw [← hp.length_eq] at hml0 ⊢
    have hok' : ∀ m ∈ ms, m.ok := fun m hm => hok m (hp.mem_iff.1 hm)
    have hel : ∀ (j : Nat) (hj : j < ms.length), Mani ms[j].xss ∧ ms[j].top.n = n := fun j hj => hel0 _ (hp.mem_iff.1 (List.getElem_mem hj))
    have hMs := hS3.msR (A := A) (c := c) hok' (by rw [List.nil_append]; exact List.Sublist.refl _)
    have hS4 : St w3 w3 (CkC 43 none ([] : List CE).length 0 (([] : List CE).map CE.cv) :: ([] : List CE).map (CE.ck 2)) := (St.refl w3).nil _
    refine Ops.nil ?_
    refine thenQ_n ?_
    refine Cd.seq ?_
    refine Cd.region ?_
    refine Ops.mv_sl rfl rfl rfl ?_
    refine Ops.nil ?_
    refine thenQ_n ?_
    refine Cd.seq ?_
    refine Cd.seq ?_
    refine Cd.region ?_
    refine Ops.mv_sl rfl rfl rfl ?_
    refine Ops.len rfl rfl ?_
    refine Ops.mv_int rfl rfl rfl ?_
    refine Ops.nil ?_
    refine thenQ_n ?_
    refine Cd.block ?_
    refine Cd.loop (α := Nat × Option Addr × Nat × List CE) (fun s => [(8, .slice s.2.1 s.2.2.2.length s.2.2.1), (24, .slice A ms.length c), (25, .int .i64 (ms.length : Int)), (26, .int .i64 (s.1 : Int))]) (fun s w' => St w3 w' (CkC 43 s.2.1 s.2.2.2.length s.2.2.1 (s.2.2.2.map CE.cv) :: s.2.2.2.map (CE.ck 2)) ∧ s.1 ≤ ms.length ∧ s.2.2.2.length ≤ s.1 ∧ CenOf (s.2.2.2.map CE.pr) (((ms.map (·.xss)).map cntF).take s.1)) (fun s => ms.length - s.1) (0, none, 0, []) ⟨rfl, rfl, rfl, rfl, trivial⟩ ⟨hS4, Nat.zero_le _, Nat.le_refl _, CenOf.nil⟩ ?_
    rintro ⟨i, B, cB, es⟩ e w4 ⟨hS4, hi, hel4, hcen⟩
    dsimp only at hS4 hi hel4 hcen ⊢
    refine Cd.seq ?_
    refine Cd.region ?_
    refine Ops.lss rfl rfl rfl ?_
    refine Ops.nil ?_
    refine thenQ_n ?_
    refine Cd.seq ?_
    refine Cd.cond_p _ rfl (fun h1 => ?_) (fun h1 => ?_)
    · have hi' : i < ms.length := by omega
      obtain ⟨hM, htn⟩ := hel i hi'
      have hM4 := hMs.later hS4.below
      have ht := top_at hi'
      have hci : i < ((ms.map (·.xss)).map cntF).length := by simpa using hi'
      have hgi : ((ms.map (·.xss)).map cntF)[i] = cntF ms[i].xss := by rw [List.getElem_map, List.getElem_map]
      have htk : ((ms.map (·.xss)).map cntF).take (i + 1) = ((ms.map (·.xss)).map cntF).take i ++ [cntF ms[i].xss] := by rw [List.take_succ_eq_append_getElem hci, hgi]
      have hcl : (((ms.map (·.xss)).map cntF).take i).length ≤ 4000000000000 := by simp; omega
      have hfront : ∀ y ∈ ((ms.map (·.xss)).map cntF).take i, ¬ lexC (cntF ms[i].xss) y < 0 := fun y hy => by
        obtain ⟨j, hj, rfl⟩ := List.mem_iff_getElem.1 hy
        rw [List.length_take] at hj
        have := (List.pairwise_iff_getElem.1 hsort) j i (by omega) hci (by omega)
        rw [List.getElem_take]
        rwa [hgi] at this
      refine Cd.skip ?_
      refine thenQ_n ?_
      refine Cd.seq ?_
      refine Cd.block ?_
      refine Cd.seq ?_
      refine Cd.region ?_
      refine Ops.idx hM4.top.2 rfl rfl rfl (by omega) (by omega) ?_
      refine Ops.ld_ag hM4.top rfl (by omega) rfl ?_
      rw [ht, htn]
      refine Ops.new1 hS4 rfl ?_
      intro A10 w5 hS5
      refine Ops.st_agg 1 0 hS5 rfl rfl rfl rfl rfl rfl rfl ?_
      intro w6 hS6
      have hS6 : St w3 w6 (Bx 32 1 A10 [.slice ms[i].top.a n ms[i].top.c] :: CkC 43 B es.length cB (es.map CE.cv) :: es.map (CE.ck 2)) := hS6
      have ha6 := (hMs.later hS6.below).at_ hi'
      rw [ht] at ha6
      rw [htn] at ha6
      refine Ops.nil ?_
      refine thenQ_n ?_
      refine Cd.seq ?_
      refine Cd.region ?_
      refine Ops.call (faceCounts_c A10 ms[i].top.a n ms[i].top.c ms[i].rs ms[i].xss _ (Rd.one (hS6.rd 0 rfl)) ha6 hM) rfl rfl rfl ?_
      rintro _ w7 ⟨A11, c11, rfl, hst7⟩
      have hS7 : St w3 w7 (CkI 2 A11 n c11 (cntF ms[i].xss) :: CkC 43 B es.length cB (es.map CE.cv) :: es.map (CE.ck 2)) := (hS6.call hst7).sub (List.Sublist.cons_cons _ (List.sublist_cons_self _ _))
      have hcx : n ≤ c11 ∧ c11 ≤ maxLen := hS7.cap 0 rfl
      refine Ops.mv_sl rfl rfl rfl ?_
      refine Ops.nil ?_
      refine thenQ_n ?_
      refine Cd.seq ?_
      refine Cd.region ?_
      refine Ops.mv_sl rfl rfl rfl ?_
      refine Ops.len rfl rfl ?_
      refine Ops.sub rfl rfl rfl (by omega) ?_
      refine Ops.mv_int rfl rfl rfl ?_
      refine Ops.nil ?_
      refine thenQ_n ?_
      refine Cd.seq ?_
      refine Cd.region ?_
      refine Ops.mv_int rfl rfl rfl ?_
      refine Ops.geq rfl rfl rfl ?_
      refine Ops.mv_bool rfl rfl rfl ?_
      refine Ops.split_p 36 rfl (fun hlt => ?_) (fun hlt => ?_)
      · obtain ⟨a, hea⟩ : ∃ a, es.length = a + 1 := ⟨es.length - 1, by omega⟩
        rw [show ((es.length : Nat) : Int) - 1 = ((a : Nat) : Int) by omega]
        have hal : a < es.length := by omega
        have hC := hS7.rdC 1 rfl
        have hCa := hC.at_ (j := a) (by omega)
        have hcv : (es.map CE.cv)[a]'(by simpa using hal) = ⟨es[a].s, es[a].v⟩ := by rw [List.getElem_map]; rfl
        rw [hcv] at hCa
        have hx6 := hS7.rdI 0 rfl
        have hy6 := hS7.rdI (a + 2) (by exact CE.get hal)
        have hcy := hS7.cap (a + 2) (CE.get hal)
        dsimp only [CkI] at hcy
        have hyn : es[a].s.n ≤ 9223372036854775807 := by have h1 := hcy.1; have h2 := hcy.2; simp only [maxLen] at h2; omega
        have hpa : (es.map CE.pr)[a]'(by simpa using hal) = (es[a].xs, es[a].v) := by rw [List.getElem_map]; rfl
        have hnum := cen_num hcen (by rw [← hpa]; exact List.getElem_mem _)
        have hpr : es.map CE.pr = (es.map CE.pr).take a ++ [(es[a].xs, es[a].v)] := by
          conv => lhs; rw [← List.take_append_drop a (es.map CE.pr)]
          rw [List.drop_eq_getElem_cons (by rw [List.length_map]; omega), hpa, List.drop_of_length_le (by rw [List.length_map]; omega)]
        refine Ops.rung rfl rfl rfl ?_
        refine Ops.mv_sl rfl rfl rfl ?_
        refine Ops.rung rfl rfl rfl ?_
        refine Ops.mv_int rfl rfl rfl ?_
        refine Ops.rung rfl rfl rfl ?_
        refine Ops.idx2 hC rfl rfl rfl (by omega) (by omega) ?_
        refine Ops.rung rfl rfl rfl ?_
        refine Ops.fld hCa rfl rfl rfl rfl inferInstance ?_
        refine Ops.rung rfl rfl rfl ?_
        refine Ops.ldf_s (j := 0) hCa rfl rfl rfl rfl rfl ?_
        refine Ops.rung rfl rfl rfl ?_
        refine Ops.mv_sl rfl rfl rfl ?_
        refine Ops.rung rfl rfl rfl ?_
        refine Ops.call (Equal_c es[a].s.a es[a].s.n es[a].s.c es[a].xs A11 n c11 (cntF ms[i].xss) _ hy6 hx6 hyn) rfl rfl rfl ?_
        rintro _ w8 ⟨rfl, hst8⟩
        have hS8 := hS7.later hst8.below
        refine Ops.pick_t rfl rfl rfl ?_
        refine Ops.nil ?_
        refine thenQ_n ?_
        refine Cd.cond_p _ rfl (fun h5 => ?_) (fun h5 => ?_)
        · have hC := hS8.rdC 1 rfl
          have hCa := hC.at_ (j := a) (by omega)
          rw [hcv] at hCa
          refine Cd.region ?_
          refine Ops.mv_sl rfl rfl rfl ?_
          refine Ops.mv_int rfl rfl rfl ?_
          refine Ops.idx2 hC rfl rfl rfl (by omega) (by omega) ?_
          refine Ops.fld hCa rfl rfl rfl rfl inferInstance ?_
          refine Ops.ldf_i (j := 1) (i := es[a].v) hCa rfl rfl rfl rfl rfl ?_
          refine Ops.add rfl rfl rfl (by omega) ?_
          refine Ops.idx2 hC rfl rfl rfl (by omega) (by omega) ?_
          refine Ops.fld hCa rfl rfl rfl rfl inferInstance ?_
          refine Ops.stf (j := 2 * a + 1) 1 hS8 rfl (by exact congrArg Value.pointer (ptrC _ _)) rfl rfl (by rw [Nat.blt_eq]; show 2 * a + 1 < 2 * es.length; omega) ?_
          intro w9 hS9
          have hS9 := (St.incC (i := 1) (cs := es.map CE.cv) (by simpa using hal) hS9).tail
          rw [hcv] at hS9
          have hsp := CE.set_pr hal (es[a].v + 1)
          refine Ops.nil ?_
          refine blockQ_n ?_
          refine thenQ_n ?_
          refine Cd.region ?_
          refine Ops.add rfl rfl rfl (by omega) ?_
          refine Ops.mv_int rfl rfl rfl ?_
          refine Ops.nil ?_
          refine thenQ_n ?_
          refine ⟨(i + 1, B, cB, es.set a ⟨es[a].s, es[a].xs, es[a].v + 1⟩), by show ms.length - (i + 1) < ms.length - i; omega, ⟨by show Value.slice _ _ _ = .slice _ _ _; rw [List.length_set], rfl, rfl, rfl, trivial⟩, ?_, by show i + 1 ≤ ms.length; omega, by show (es.set _ _).length ≤ i + 1; rw [List.length_set]; omega, ?_⟩
          · show St w3 w9 (CkC 43 B (es.set _ _).length cB ((es.set _ _).map CE.cv) :: (es.set _ _).map (CE.ck 2))
            rw [List.length_set, hsp.2, CE.set_ck hal]
            exact hS9
          · show CenOf ((es.set _ _).map CE.pr) _
            rw [hsp.1, htk, hpr, ← h5]
            have e5 : ((es.map CE.pr).take a ++ [(es[a].xs, es[a].v)]).set a (es[a].xs, es[a].v + 1) = (es.map CE.pr).take a ++ [(es[a].xs, es[a].v + 1)] := by
              rw [List.set_append_right _ _ (by rw [List.length_take, List.length_map]; omega)]
              congr 1
              rw [List.length_take, List.length_map, show a - min a es.length = 0 by omega]
              rfl
            rw [e5]
            exact CenOf.last (by rw [← hpr]; exact hcen)
        · have hmore : ∀ y ∈ es.map CE.pr, lexC y.1 (cntF ms[i].xss) < 0 := fun y hy => by
            have hlast : lexC es[a].xs (cntF ms[i].xss) < 0 := by
              have hm : (es[a].xs, es[a].v) ∈ es.map CE.pr := by rw [← hpa]; exact List.getElem_mem _
              exact lexC_tri (hfront _ ((hcen.2 _ _).1 hm).1) (fun e => h5 e.symm)
            have hsr := hcen.1
            rw [hpr] at hy hsr
            rcases List.mem_append.1 hy with hy | hy
            · exact lexC_trans ((List.pairwise_append.1 hsr).2.2 y hy (es[a].xs, es[a].v) (by simp)) hlast
            · simp only [List.mem_singleton] at hy
              subst hy
              exact hlast
          refine Cd.region ?_
          refine Ops.mv_sl rfl rfl rfl ?_
          refine Ops.mv_sl rfl rfl rfl ?_
          refine Ops.bld2c (by exact inferInstance) (by exact inferInstance) rfl rfl rfl rfl rfl rfl rfl ?_
          refine Ops.bs1_2 hS8 rfl rfl rfl ?_
          intro A12 w11 hS11
          refine Ops.app2 2 hS11 rfl (hS11.rdC 0 rfl) rfl rfl rfl (by omega) (by omega) rfl ?_
          intro A13 c13 w12 hS12
          have hS12 : St w3 w12 (CkC 43 A12 1 1 [⟨⟨A11, n, c11⟩, 1⟩] :: CkI 2 A11 n c11 (cntF ms[i].xss) :: CkC 43 A13 (es.length + 1) c13 (es.map CE.cv ++ [⟨⟨A11, n, c11⟩, 1⟩]) :: es.map (CE.ck 2)) := hS12
          have hl1 : (es ++ [(⟨⟨A11, n, c11⟩, cntF ms[i].xss, 1⟩ : CE)]).length = es.length + 1 := by simp
          refine Ops.mv_sl rfl rfl rfl ?_
          refine Ops.nil ?_
          refine blockQ_n ?_
          refine thenQ_n ?_
          refine Cd.region ?_
          refine Ops.add rfl rfl rfl (by omega) ?_
          refine Ops.mv_int rfl rfl rfl ?_
          refine Ops.nil ?_
          refine thenQ_n ?_
          refine ⟨(i + 1, A13, c13, es ++ [⟨⟨A11, n, c11⟩, cntF ms[i].xss, 1⟩]), by show ms.length - (i + 1) < ms.length - i; omega, ⟨by show Value.slice _ _ _ = .slice _ _ _; rw [hl1], rfl, rfl, rfl, trivial⟩, ?_, by show i + 1 ≤ ms.length; omega, by show (es ++ _).length ≤ i + 1; rw [hl1]; omega, ?_⟩
          · show St w3 w12 (CkC 43 A13 (es ++ _).length c13 ((es ++ _).map CE.cv) :: (es ++ _).map (CE.ck 2))
            rw [hl1, List.map_append, List.map_append]
            exact hS12.tail.perm (List.perm_append_comm (l₁ := [_]) (l₂ := _ :: es.map (CE.ck 2)))
          · show CenOf ((es ++ _).map CE.pr) _
            rw [htk, List.map_append]
            exact hcen.more hmore
      · have hes : es = [] := List.eq_nil_of_length_eq_zero (by omega)
        refine Ops.skipg rfl rfl rfl rfl rfl ?_
        refine Ops.skipg rfl rfl rfl rfl rfl ?_
        refine Ops.skipg rfl rfl rfl rfl rfl ?_
        refine Ops.skipg rfl rfl rfl rfl rfl ?_
        refine Ops.skipg rfl rfl rfl rfl rfl ?_
        refine Ops.skipg rfl rfl rfl rfl rfl ?_
        refine Ops.skipg rfl rfl rfl rfl rfl ?_
        refine Ops.pick_f rfl rfl rfl ?_
        refine Ops.nil ?_
        refine thenQ_n ?_
        refine Cd.cond_f rfl ?_
        refine Cd.region ?_
        refine Ops.mv_sl rfl rfl rfl ?_
        refine Ops.mv_sl rfl rfl rfl ?_
        refine Ops.bld2c (by exact inferInstance) (by exact inferInstance) rfl rfl rfl rfl rfl rfl rfl ?_
        refine Ops.bs1_2 hS7 rfl rfl rfl ?_
        intro A12 w11 hS11
        refine Ops.app2 2 hS11 rfl (hS11.rdC 0 rfl) rfl rfl rfl (by omega) (by omega) rfl ?_
        intro A13 c13 w12 hS12
        have hS12 : St w3 w12 (CkC 43 A12 1 1 [⟨⟨A11, n, c11⟩, 1⟩] :: CkI 2 A11 n c11 (cntF ms[i].xss) :: CkC 43 A13 (es.length + 1) c13 (es.map CE.cv ++ [⟨⟨A11, n, c11⟩, 1⟩]) :: es.map (CE.ck 2)) := hS12
        have hl1 : (es ++ [(⟨⟨A11, n, c11⟩, cntF ms[i].xss, 1⟩ : CE)]).length = es.length + 1 := by simp
        refine Ops.mv_sl rfl rfl rfl ?_
        refine Ops.nil ?_
        refine blockQ_n ?_
        refine thenQ_n ?_
        refine Cd.region ?_
        refine Ops.add rfl rfl rfl (by omega) ?_
        refine Ops.mv_int rfl rfl rfl ?_
        refine Ops.nil ?_
        refine thenQ_n ?_
        refine ⟨(i + 1, A13, c13, es ++ [⟨⟨A11, n, c11⟩, cntF ms[i].xss, 1⟩]), by show ms.length - (i + 1) < ms.length - i; omega, ⟨by show Value.slice _ _ _ = .slice _ _ _; rw [hl1], rfl, rfl, rfl, trivial⟩, ?_, by show i + 1 ≤ ms.length; omega, by show (es ++ _).length ≤ i + 1; rw [hl1]; omega, ?_⟩
        · show St w3 w12 (CkC 43 A13 (es ++ _).length c13 ((es ++ _).map CE.cv) :: (es ++ _).map (CE.ck 2))
          rw [hl1, List.map_append, List.map_append]
          exact hS12.tail.perm (List.perm_append_comm (l₁ := [_]) (l₂ := _ :: es.map (CE.ck 2)))
        · show CenOf ((es ++ _).map CE.pr) _
          rw [htk, List.map_append]
          exact hcen.more (by rw [hes]; intro y hy; cases hy)
    · refine Cd.exit ?_
      refine thenQ_x ?_
      refine thenQ_x ?_
      refine blockQ_x ?_
      refine thenQ_n ?_
      refine Cd.seq ?_
      refine Cd.region ?_
      refine Ops.mv_sl rfl rfl rfl ?_
      refine Ops.mv_sl rfl rfl rfl ?_
      refine Ops.mv_int rfl rfl rfl ?_
      refine Ops.nil ?_
      refine thenQ_n ?_
      refine Cd.ret ?_
      refine ret2_si rfl rfl ?_
      have hie : i = ms.length := by omega
      rw [hie, List.take_of_length_le (by simp)] at hcen
      have e2 : lstK (n : Int) (F : Int) = 0 := by rw [lstK, if_pos hs]
      rw [e2]
      have hcen2 : CenOf (es.map CE.pr) ((lstI (n : Int) (F : Int)).map cntF) := by
        rw [← hL]
        exact hcen.perm ((hp.map _).map _)
      exact ⟨B, cB, es, rfl, hcen2.one (csS_cen _), (hS3.call hS4).sub (List.sublist_append_left _ _)⟩
end Go.Proofs.YtjpkmpihmilgoaaGreat.Vc
/-
  Plain: the rooted forms are the forms of the listed maniplexes, each once; sums over the orbits; the census. Conditions: none.
-/
namespace Go.Proofs.YtjpkmpihmilgoaaGreat.Vc
open Go.RowKit

/-! the tree has no leaf twice -/
theorem nodup_flat {α β : Type} {f : α → List β} {l : List α} (h1 : ∀ a ∈ l, (f a).Nodup) (h2 : l.Pairwise fun a b => ∀ x ∈ f a, ∀ y ∈ f b, x ≠ y) : (l.flatMap f).Nodup := by
  rw [List.nodup_iff_pairwise_ne, List.pairwise_flatMap]
  exact ⟨fun a ha => List.nodup_iff_pairwise_ne.1 (h1 a ha), h2⟩
theorem grow_nodup {n F : Nat} {ok : List (List Int) → Nat → Nat → Bool} {fin : List (List Int) → Bool} : ∀ (k at_ met : Nat) (M : List (List Int)), Inv n F M met at_ → (grow n F ok fin k at_ met M).Nodup
  | 0, _, _, _, _ => by simp [grow]
  | k + 1, at_, met, M, h => by
    simp only [grow]
    split
    · split
      · simp
      · simp
    · rename_i ha
      split
      · rename_i hk
        exact grow_nodup k _ _ _ (h.next ha hk)
      · rename_i hk
        have hb : ∀ g ∈ List.range' (at_ / n + 1) (min met (F - 1) - at_ / n), ∀ L ∈ (if 0 ≤ cell M (at_ % n) (g : Nat) then [] else if ok (put M (at_ % n) (at_ / n) g) (at_ % n) (at_ / n) = true then grow n F ok fin k (at_ + 1) (max met (g + 1)) (put M (at_ % n) (at_ / n) g) else []), cell L (at_ % n) ((at_ / n : Nat) : Int) = (g : Int) := by
          intro g hg L hL
          obtain ⟨h1, h2, h3⟩ := range_mem h ha hg
          split at hL
          · cases hL
          · rename_i hgc
            split at hL
            · have hI := h.put ha hk h1 h2 h3 hgc
              obtain ⟨hE, _⟩ := grow_leaf _ _ _ _ hI L hL
              have hp := h.pos ha
              have hmF := h.metF
              have e1 : cell (put M (at_ % n) (at_ / n) g) (at_ % n) ((at_ / n : Nat) : Int) = (g : Int) := by
                rw [cell_put h.shp hp.1 (by omega) h3 (Int.natCast_nonneg _), if_neg (fun e => by have := e.2; omega), if_pos ⟨rfl, rfl⟩]
              rw [hE _ _ hp.1 (Int.natCast_nonneg _) (by omega) (by rw [e1]; exact Int.natCast_nonneg _), e1]
            · cases hL
        refine nodup_flat (fun g hg => ?_) ?_
        · obtain ⟨h1, h2, h3⟩ := range_mem h ha hg
          split
          · simp
          · rename_i hgc
            split
            · exact grow_nodup k _ _ _ (h.put ha hk h1 h2 h3 hgc)
            · simp
        · have hn : (List.range' (at_ / n + 1) (min met (F - 1) - at_ / n)).Nodup := List.nodup_range'
          refine List.Pairwise.imp_of_mem (fun {a b} ha' hb' hab x hx y hy e => ?_) (List.nodup_iff_pairwise_ne.1 hn)
          subst e
          have e1 := hb a ha' x hx
          have e2 := hb b hb' x hy
          rw [e1] at e2
          exact hab (by omega)
theorem formsL_nodup {n F : Nat} (hn : 0 < n) (hF : 0 < F) : (formsL n F).Nodup := List.Nodup.sublist List.filter_sublist (grow_nodup _ _ _ _ (Inv.blank hn hF))
theorem listL_nodup {n F : Nat} (hn : 0 < n) (hF : 0 < F) : (listL n F).Nodup := (ordM_perm _).nodup_iff.2 (List.Nodup.sublist List.filter_sublist (formsL_nodup hn hF))
theorem fset_nodup (N : Nat) (xss : Mx) : ∀ k, (fset N xss k).Nodup
  | 0 => by simp [fset]
  | k + 1 => by
    have ih := fset_nodup N xss k
    simp only [fset]
    split
    · exact ih
    · rename_i h
      rw [List.nodup_append]
      refine ⟨ih, by simp, fun x hx y hy e => ?_⟩
      rw [List.mem_singleton] at hy
      subst hy e
      exact h hx

/-! a form has the forms of its maniplex -/
section
variable {N : Nat} {xss : Mx} {f : Int}
theorem form_back (hM : Mani xss) (hN : N = (gl xss 0).length) (h0 : 0 ≤ f) (h1 : f < N) {g : Int} (h2 : 0 ≤ g) (h3 : g < N) : ∃ k : Nat, k < N ∧ formL N (formL N xss f) (k : Int) = formL N xss g := by
  have hI := form_ism hM hN h0 h1
  have h4 := hI.rng g h2 h3
  refine ⟨(gi (backI N (orbit N xss f)) g).toNat, by omega, ?_⟩
  rw [Int.toNat_of_nonneg h4.1]
  exact form_map hI hM hN h2 h3
theorem form_len0 (hM : Mani xss) (hN : N = (gl xss 0).length) (h0 : 0 ≤ f) (h1 : f < N) : N = (gl (formL N xss f) 0).length := by
  obtain ⟨hI, hV⟩ := form_inv hM hN h0 h1
  exact (hI.shp.row (i := 0) hI.n0).symm
theorem least_form (hM : Mani xss) (hN : N = (gl xss 0).length) (h0 : 0 ≤ f) (h1 : f < N) : leastL N (formL N xss f) = leastL N xss := by
  obtain ⟨hI, hV⟩ := form_inv hM hN h0 h1
  have hN' := form_len0 hM hN h0 h1
  obtain ⟨a, ha, ea⟩ := least_is hM hN
  obtain ⟨b, hb, eb⟩ := least_is hV hN'
  apply leM_anti
  · -- the least of the form's forms is not behind the least of the forms
    intro hc
    rw [ea] at hc
    obtain ⟨k, hk, e⟩ := form_back hM hN h0 h1 (g := (a : Int)) (by omega) (by omega)
    rw [← e] at hc
    exact (leastTo_le (N := N) (xss := formL N xss f) N).2 k hk hc
  · intro hc
    rw [eb] at hc
    obtain ⟨k, hk, _, e⟩ := form_form hM hN h0 h1 (g := (b : Int)) (by omega) (by omega)
    rw [e] at hc
    exact (leastTo_le (N := N) (xss := xss) N).2 k hk hc
end

/-- the rooted forms are the forms of the listed -/
theorem forms_perm {n F : Nat} (hn : 0 < n) (hF : 0 < F) : (formsL n F).Perm ((listL n F).flatMap fun L => fset F L F) := by
  have key : ∀ L ∈ listL n F, Mani L ∧ F = (gl L 0).length ∧ L.length = n ∧ leastL F L = L := fun L hL => by
    obtain ⟨h1, h2⟩ := listL_mem.1 hL
    obtain ⟨h3, h4⟩ := forms_mani hn hF h1
    exact ⟨h3, (h4.shp.row (i := 0) hn).symm, h4.shp.1, (own_least hn hF h1).2 h2⟩
  refine (List.perm_ext_iff_of_nodup (formsL_nodup hn hF) (nodup_flat (fun L _ => fset_nodup F L F) ?_)).2 fun g => ?_
  · refine List.Pairwise.imp_of_mem (fun {a b} ha hb hab x hx y hy e => ?_) (List.nodup_iff_pairwise_ne.1 (listL_nodup hn hF))
    subst e
    obtain ⟨j, hj, e1⟩ := (fset_mem F).1 hx
    obtain ⟨k, hk, e2⟩ := (fset_mem F).1 hy
    obtain ⟨a1, a2, _, a3⟩ := key a ha
    obtain ⟨b1, b2, _, b3⟩ := key b hb
    have e3 := least_form a1 a2 (f := (j : Int)) (by omega) (by omega)
    have e4 := least_form b1 b2 (f := (k : Int)) (by omega) (by omega)
    rw [← e1, a3] at e3
    rw [← e2, b3] at e4
    exact hab (e3.symm.trans e4)
  · rw [List.mem_flatMap]
    constructor
    · intro hg
      obtain ⟨h3, h4⟩ := forms_mani hn hF hg
      have hN : F = (gl g 0).length := (h4.shp.row (i := 0) hn).symm
      have hlm := least_mem h3 hN
      rw [h4.shp.1] at hlm
      refine ⟨_, hlm, (fset_mem F).2 ?_⟩
      obtain ⟨f, hf, e⟩ := least_is h3 hN
      obtain ⟨k, hk, e2⟩ := form_back h3 hN (f := (f : Int)) (by omega) (by omega) (g := 0) (by omega) (by omega)
      rw [forms_zero hF hg hn, ← e] at e2
      exact ⟨k, hk, e2.symm⟩
    · rintro ⟨L, hL, hg⟩
      obtain ⟨j, hj, rfl⟩ := (fset_mem F).1 hg
      obtain ⟨a1, a2, a4, a3⟩ := key L hL
      have := form_mem a1 a2 (f := (j : Int)) (by omega) (by omega)
      rwa [a4] at this

/-! sums -/
def sumI : List Int → Int
  | [] => 0
  | x :: l => x + sumI l
theorem sumI_app : ∀ a b : List Int, sumI (a ++ b) = sumI a + sumI b
  | [], b => by simp [sumI]
  | x :: a, b => by simp [sumI, sumI_app a b, Int.add_assoc]
/-- weighted with the place -/
def wgt : Nat → List Int → Int
  | _, [] => 0
  | j, x :: l => x * ((j : Int) + 1) + wgt (j + 1) l
theorem wgt_app : ∀ (j : Nat) (a b : List Int), wgt j (a ++ b) = wgt j a + wgt (j + a.length) b
  | j, [], b => by simp [wgt]
  | j, x :: a, b => by
    simp only [List.cons_append, wgt, wgt_app (j + 1) a b, List.length_cons, Int.add_assoc]
    rw [show j + 1 + a.length = j + (a.length + 1) by omega]
theorem gi_cons0 (x : Int) (l : List Int) : gi (x :: l) (0 : Nat) = x := rfl
theorem gi_cons1 (x : Int) (l : List Int) (i : Nat) : gi (x :: l) ((i + 1 : Nat) : Int) = gi l (i : Nat) := by simp [gi]
theorem sumI_set : ∀ (l : List Int) (i : Nat), i < l.length → sumI (l.set i (gi l (i : Nat) + 1)) = sumI l + 1
  | x :: l, 0, _ => by rw [gi_cons0]; simp only [List.set_cons_zero, sumI]; omega
  | x :: l, i + 1, h => by
    rw [gi_cons1]
    simp only [List.set_cons_succ, sumI]
    rw [sumI_set l i (by simpa using h)]
    omega
theorem wgt_set : ∀ (l : List Int) (j i : Nat), i < l.length → wgt j (l.set i (gi l (i : Nat) + 1)) = wgt j l + ((j : Int) + i + 1)
  | x :: l, j, 0, _ => by rw [gi_cons0]; simp only [List.set_cons_zero, wgt]; rw [Int.add_mul]; omega
  | x :: l, j, i + 1, h => by
    rw [gi_cons1]
    simp only [List.set_cons_succ, wgt]
    rw [wgt_set l (j + 1) i (by simpa using h)]
    omega
theorem bump_sum {acc : List Int} {k : Nat} (h1 : 1 ≤ k) (h2 : k ≤ acc.length) : sumI (bump acc k) = sumI acc + 1 ∧ wgt 0 (bump acc k) = wgt 0 acc + k := by
  obtain ⟨j, rfl⟩ : ∃ j, k = j + 1 := ⟨k - 1, by omega⟩
  have e : ((j + 1 : Nat) : Int) - 1 = (j : Nat) := by omega
  unfold bump
  rw [e, Int.toNat_natCast, sumI_set _ _ (by omega), wgt_set _ _ _ (by omega)]
  refine ⟨rfl, by omega⟩
theorem sumI_rep (F : Nat) : sumI (List.replicate F 0) = 0 := by
  induction F with
  | zero => rfl
  | succ n ih => simp [List.replicate_succ, sumI, ih]
theorem wgt_rep (F : Nat) : ∀ j, wgt j (List.replicate F 0) = 0 := by
  induction F with
  | zero => intro j; rfl
  | succ n ih => intro j; simp [List.replicate_succ, wgt, ih]
theorem cntL_sum' {F : Nat} (hF : 0 < F) : ∀ (r : List Mx), (∀ m ∈ r, Own1 F m) → sumI (cntL F r.reverse) = (r.length : Nat) ∧ wgt 0 (cntL F r.reverse) = ((r.map (orbN F)).sum : Nat) ∧ gi (cntL F r.reverse) 0 = ((r.filter fun L => decide (orbN F L = 1)).length : Nat)
  | [], _ => ⟨by simp [cntL, sumI_rep], by simp [cntL, wgt_rep], by
    show gi (List.replicate F 0) 0 = _
    rw [gi_rep (Int.le_refl _) (by omega)]
    rfl⟩
  | m :: r, h => by
    obtain ⟨i1, i2, i3⟩ := cntL_sum' hF r (fun x hx => h x (List.mem_cons_of_mem _ hx))
    have hl := (cntL_bd hF r (fun x hx => h x (List.mem_cons_of_mem _ hx))).1
    have hb := orb_bd hF (h m List.mem_cons_self)
    obtain ⟨b1, b2⟩ := bump_sum (acc := cntL F r.reverse) hb.1 (by rw [hl]; exact hb.2)
    rw [List.reverse_cons, cntL_snoc, b1, b2, i1, i2, List.length_cons, List.map_cons, List.sum_cons]
    refine ⟨by omega, by omega, ?_⟩
    unfold bump
    rw [gi_set (by omega) (by omega) (Int.le_refl _), i3, List.filter_cons]
    by_cases e : orbN F m = 1
    · rw [if_pos (by omega), e, if_pos (by simp), List.length_cons]
      show gi _ 0 + 1 = _
      rw [i3]
      omega
    · rw [if_neg (by omega), if_neg (by simpa using e)]
theorem cntL_sum {F : Nat} (hF : 0 < F) (ls : List Mx) (h : ∀ m ∈ ls, Own1 F m) : sumI (cntL F ls) = (ls.length : Nat) ∧ wgt 0 (cntL F ls) = ((ls.map (orbN F)).sum : Nat) ∧ gi (cntL F ls) 0 = ((ls.filter fun L => decide (orbN F L = 1)).length : Nat) := by
  have := cntL_sum' hF ls.reverse (fun m hm => h m (List.mem_reverse.1 hm))
  rw [List.reverse_reverse] at this
  obtain ⟨a, b, c⟩ := this
  refine ⟨by rw [a, List.length_reverse], by rw [b, List.map_reverse, List.sum_reverse], by rw [c, List.filter_reverse, List.length_reverse]⟩

/-- the orbits of the listed are as many as the rooted forms -/
theorem forms_count {n F : Nat} (hn : 0 < n) (hF : 0 < F) : (formsL n F).length = ((listL n F).map (orbN F)).sum := by
  rw [(forms_perm hn hF).length_eq, List.length_flatMap]
  congr 1
  apply List.map_congr_left
  intro L hL
  rw [orbN, if_pos (listL_mem.1 hL).2]

/-! the census -/
def sumC : Cs → Int
  | [] => 0
  | (_, n) :: R => n + sumC R
theorem sumC_app : ∀ a b : Cs, sumC (a ++ b) = sumC a + sumC b
  | [], b => by simp [sumC]
  | (y, n) :: a, b => by simp [sumC, sumC_app a b, Int.add_assoc]
theorem sumC_ins : ∀ (R : Cs) (x : List Int), sumC (insP R x) = sumC R + 1
  | [], x => by simp [insP, sumC]
  | (z, k) :: R, x => by
    simp only [insP]
    split
    · simp only [sumC]; rw [sumC_ins R x]; omega
    · split
      · simp only [sumC]; omega
      · simp only [sumC]; omega
theorem csS_sum (l : List (List Int)) : sumC (csS l) = (l.length : Nat) := by
  have : ∀ r : List (List Int), sumC (csS r.reverse) = (r.length : Nat) := by
    intro r
    induction r with
    | nil => rfl
    | cons x r ih => rw [List.reverse_cons, csS_snoc, sumC_ins, ih, List.length_cons]; omega
  have := this l.reverse
  rwa [List.reverse_reverse, List.length_reverse] at this

/-! what a listed one answers -/
theorem lst_place {rank flags : Int} (hs : Small rank flags) {i : Nat} (hi : i < (lstI rank flags).length) : Plc (lstI rank flags)[i] ∧ leastL flags.toNat (lstI rank flags)[i] = (lstI rank flags)[i] ∧ plI (lstI rank flags)[i] = i ∧ (gl (lstI rank flags)[i] 0).length = flags.toNat := by
  have h1 := hs.1
  have h2 := hs.2
  have hn : 0 < rank.toNat := by omega
  have hF : 0 < flags.toNat := by omega
  have hm : (lstI rank flags)[i] ∈ lstI rank flags := List.getElem_mem _
  generalize hL : (lstI rank flags)[i] = L at *
  have hm' := hm
  rw [lstI, if_pos hs] at hm'
  obtain ⟨a1, a2⟩ := listL_mem.1 hm'
  obtain ⟨a3, a4⟩ := forms_mani hn hF a1
  have e0 : (gl L 0).length = flags.toNat := a4.shp.row (i := 0) hn
  have e1 : leastL flags.toNat L = L := (own_least hn hF a1).2 a2
  have hP : Plc L := ⟨a3, by rw [a4.shp.1]; omega, by rw [e0]; omega⟩
  refine ⟨hP, e1, ?_, e0⟩
  rw [plI, e0, e1]
  have e2 : plL L = lstI rank flags := by
    rw [← hP.lstI, e0, a4.shp.1, Int.toNat_of_nonneg (by omega), Int.toNat_of_nonneg (by omega)]
  rw [e2]
  have hnd : (lstI rank flags).Nodup := by rw [lstI, if_pos hs]; exact listL_nodup hn hF
  refine fsti_eq (by rw [List.getElem?_eq_getElem hi, hL]) fun j hj e => ?_
  rw [List.getElem?_eq_getElem (by omega)] at e
  have e := Option.some.inj e
  rw [← hL] at e
  have := (List.getElem_inj (h₀ := by omega) (h₁ := hi) hnd).1 e
  omega
end Go.Proofs.YtjpkmpihmilgoaaGreat.Vc
/-
  The draws of a rank and a number of flags; helpers of the laws. Conditions: as each states them.
-/
namespace Go.Proofs.YtjpkmpihmilgoaaGreat.Vc
open Go.RowKit

theorem l19Draw_c {w0 w : World} {ks : List Ck} (i : Nat) {As : Option Addr} {k : Ck} (hS : St w0 w ks) (hk : ks[i]? = some k) (hK : srcK w0 As k) :
    Ret Tryz.prog 43 [.pointer As] w (fun v w' => ∃ (r f : Int) (k' : Ck), v = .tuple #[.int .i64 r, .int .i64 f] ∧ srcK w0 As k' ∧ St w0 w' (ks.set i k')) := by
  refine Ret.of_cd Tryz.func43 rfl Tryz.ntmps43 rfl (post2 rfl) ?_
  refine Cd.seq ?_
  refine Cd.region ?_
  refine Ops.mv_int rfl rfl rfl ?_
  refine Ops.mv_int rfl rfl rfl ?_
  refine Ops.nil ?_
  refine thenQ_n ?_
  refine Cd.seq ?_
  refine Cd.region ?_
  refine Ops.mv_ptr rfl rfl rfl ?_
  refine Ops.bsL [1, 2, 3, 3, 3, 3, 4, 4] hS rfl rfl (by decide) (by decide) rfl rfl ?_
  intro A1 w1 hS1
  skip
  refine Ops.call (l01Pick_c (i + 1) A1 8 8 _ hS1 (by exact hk) hK (fun k' w' h => h.rdI 0 rfl) (by decide)) rfl rfl rfl ?_
  rintro _ w2 ⟨x1, k1, rfl, hx1, hK1, hS2⟩
  have hS2 : St w0 w2 (CkI 2 A1 8 8 [1, 2, 3, 3, 3, 3, 4, 4] :: ks.set i k1) := hS2
  have hS2 := hS2.tail
  have hk1 := setK_get (k' := k1) hk
  refine Ops.mv_int rfl rfl rfl ?_
  refine Ops.nil ?_
  refine thenQ_n ?_
  refine Cd.seq ?_
  refine Cd.region ?_
  refine Ops.mv_ptr rfl rfl rfl ?_
  refine Ops.bsL [2, 4, 4, 6, 8, 8] hS2 rfl rfl (by decide) (by decide) rfl rfl ?_
  intro A2 w3 hS3
  skip
  refine Ops.call (l01Pick_c (i + 1) A2 6 6 _ hS3 (by exact hk1) hK1 (fun k' w' h => h.rdI 0 rfl) (by decide)) rfl rfl rfl ?_
  rintro _ w4 ⟨x2, k2, rfl, hx2, hK2, hS4⟩
  have hS4 : St w0 w4 (CkI 2 A2 6 6 [2, 4, 4, 6, 8, 8] :: (ks.set i k1).set i k2) := hS4
  rw [List.set_set] at hS4
  have hS4 := hS4.tail
  have hk2 := setK_get (k' := k2) hk
  refine Ops.mv_int rfl rfl rfl ?_
  refine Ops.nil ?_
  refine thenQ_n ?_
  refine Cd.join (α := Int × Ck) (fun s => [(0, .pointer As), (4, .int .i64 x1), (5, .int .i64 s.1)]) (fun s w' => srcK w0 As s.2 ∧ St w0 w' (ks.set i s.2)) ?_ ?_
  · refine Cd.block ?_
    refine Cd.seq ?_
    refine Cd.region ?_
    refine Ops.mv_int rfl rfl rfl ?_
    refine Ops.lss rfl rfl rfl ?_
    refine Ops.mv_bool rfl rfl rfl ?_
    refine Ops.nil ?_
    refine thenQ_n ?_
    refine Cd.cond_p _ rfl (fun h1 => ?_) (fun h1 => ?_)
    · refine Cd.region ?_
      refine Ops.mv_ptr rfl rfl rfl ?_
      refine Ops.mv_int rfl rfl rfl ?_
      refine Ops.mv_int rfl rfl rfl ?_
      refine Ops.bsL [x2, x2, 10, 12, 5] hS4 rfl rfl (by decide) (by decide) rfl rfl ?_
      intro A3 w5 hS5
      skip
      refine Ops.call (l01Pick_c (i + 1) A3 5 5 _ hS5 (by exact hk2) hK2 (fun k' w' h => h.rdI 0 rfl) (by decide)) rfl rfl rfl ?_
      rintro _ w6 ⟨x3, k3, rfl, hx3, hK3, hS6⟩
      have hS6 : St w0 w6 (CkI 2 A3 5 5 [x2, x2, 10, 12, 5] :: (ks.set i k2).set i k3) := hS6
      rw [List.set_set] at hS6
      refine Ops.mv_int rfl rfl rfl ?_
      refine Ops.nil ?_
      refine blockQ_n ?_
      refine thenQ_n ?_
      exact ⟨(x3, k3), ⟨rfl, rfl, rfl, trivial⟩, hK3, hS6.tail⟩
    · refine Cd.seq ?_
      refine Cd.region ?_
      refine Ops.mv_int rfl rfl rfl ?_
      refine Ops.gtr rfl rfl rfl ?_
      refine Ops.mv_bool rfl rfl rfl ?_
      refine Ops.nil ?_
      refine thenQ_n ?_
      refine Cd.cond_p _ rfl (fun h2 => ?_) (fun h2 => ?_)
      · refine Cd.region ?_
        refine Ops.mv_int rfl rfl rfl ?_
        refine Ops.nil ?_
        refine blockQ_n ?_
        refine thenQ_n ?_
        exact ⟨(8, k2), ⟨rfl, rfl, rfl, trivial⟩, hK2, hS4⟩
      · refine Cd.skip ?_
        refine blockQ_n ?_
        refine thenQ_n ?_
        exact ⟨(x2, k2), ⟨rfl, rfl, rfl, trivial⟩, hK2, hS4⟩
  · rintro ⟨f, k3⟩ e w7 ⟨hK3, hS7⟩
    dsimp only at hK3 hS7
    have hk3 := setK_get (k' := k3) hk
    refine Cd.seq ?_
    refine Cd.seq ?_
    refine Cd.region ?_
    refine Ops.mv_ptr rfl rfl rfl ?_
    refine Ops.call (srcNext_c i 24 hS7 hk3 hK3) rfl rfl rfl ?_
    rintro _ w8 ⟨r, k4, rfl, _, hK4, hS8⟩
    rw [List.set_set] at hS8
    have hk4 := setK_get (k' := k4) hk
    refine Ops.nil ?_
    refine thenQ_n ?_
    refine Cd.block ?_
    refine Cd.seq ?_
    refine Cd.region ?_
    refine Ops.eql rfl rfl rfl ?_
    refine Ops.mv_bool rfl rfl rfl ?_
    refine Ops.nil ?_
    refine thenQ_n ?_
    refine Cd.cond_p _ rfl (fun h2 => ?_) (fun h2 => ?_)
    · refine Cd.region ?_
      refine Ops.mv_ptr rfl rfl rfl ?_
      refine Ops.bsL [0, 5] hS8 rfl rfl (by decide) (by decide) rfl rfl ?_
      intro A3 w5 hS5
      skip
      refine Ops.call (l01Pick_c (i + 1) A3 2 2 _ hS5 (by exact hk4) hK4 (fun k' w' h => h.rdI 0 rfl) (by decide)) rfl rfl rfl ?_
      rintro _ w6 ⟨x3, k5, rfl, hx3, hK5, hS6⟩
      have hS6 : St w0 w6 (CkI 2 A3 2 2 [0, 5] :: (ks.set i k4).set i k5) := hS6
      rw [List.set_set] at hS6
      refine Ops.mv_int rfl rfl rfl ?_
      refine Ops.nil ?_
      refine blockQ_n ?_
      refine thenQ_n ?_
      refine Cd.seq ?_
      refine Cd.region ?_
      refine Ops.mv_int rfl rfl rfl ?_
      refine Ops.mv_int rfl rfl rfl ?_
      refine Ops.mv_int rfl rfl rfl ?_
      refine Ops.mv_int rfl rfl rfl ?_
      refine Ops.nil ?_
      refine thenQ_n ?_
      refine Cd.ret ?_
      refine ret2_ii rfl rfl ?_
      exact ⟨_, _, k5, rfl, hK5, hS6.tail⟩
    · refine Cd.seq ?_
      refine Cd.region ?_
      refine Ops.eql rfl rfl rfl ?_
      refine Ops.mv_bool rfl rfl rfl ?_
      refine Ops.nil ?_
      refine thenQ_n ?_
      refine Cd.cond_p _ rfl (fun h3 => ?_) (fun h3 => ?_)
      · refine Cd.region ?_
        refine Ops.mv_ptr rfl rfl rfl ?_
        refine Ops.bsL [1, 13, -2] hS8 rfl rfl (by decide) (by decide) rfl rfl ?_
        intro A3 w5 hS5
        skip
        refine Ops.call (l01Pick_c (i + 1) A3 3 3 _ hS5 (by exact hk4) hK4 (fun k' w' h => h.rdI 0 rfl) (by decide)) rfl rfl rfl ?_
        rintro _ w6 ⟨x3, k5, rfl, hx3, hK5, hS6⟩
        have hS6 : St w0 w6 (CkI 2 A3 3 3 [1, 13, -2] :: (ks.set i k4).set i k5) := hS6
        rw [List.set_set] at hS6
        refine Ops.mv_int rfl rfl rfl ?_
        refine Ops.nil ?_
        refine blockQ_n ?_
        refine thenQ_n ?_
        refine Cd.seq ?_
        refine Cd.region ?_
        refine Ops.mv_int rfl rfl rfl ?_
        refine Ops.mv_int rfl rfl rfl ?_
        refine Ops.mv_int rfl rfl rfl ?_
        refine Ops.mv_int rfl rfl rfl ?_
        refine Ops.nil ?_
        refine thenQ_n ?_
        refine Cd.ret ?_
        refine ret2_ii rfl rfl ?_
        exact ⟨_, _, k5, rfl, hK5, hS6.tail⟩
      · refine Cd.skip ?_
        refine blockQ_n ?_
        refine thenQ_n ?_
        refine Cd.seq ?_
        refine Cd.region ?_
        refine Ops.mv_int rfl rfl rfl ?_
        refine Ops.mv_int rfl rfl rfl ?_
        refine Ops.mv_int rfl rfl rfl ?_
        refine Ops.mv_int rfl rfl rfl ?_
        refine Ops.nil ?_
        refine thenQ_n ?_
        refine Cd.ret ?_
        refine ret2_ii rfl rfl ?_
        exact ⟨_, _, k4, rfl, hK4, hS8⟩

theorem DrawAllManiplexes_c (Ac : Option Addr) (nc cc : Nat) (bs : List Int) (w : World) (hY : RdY w Ac nc bs) (hnc : nc ≤ 1000000) :
    Ret Tryz.prog 7 [.slice Ac nc cc] w (fun v w' => ∃ r f : Int, v = .tuple #[.int .i64 r, .int .i64 f] ∧ St w w' []) := by
  refine Ret.of_cd Tryz.func7 rfl Tryz.ntmps7 rfl (post2 rfl) ?_
  refine Cd.seq ?_
  refine Cd.region ?_
  refine Ops.mv_int rfl rfl rfl ?_
  refine Ops.mv_int rfl rfl rfl ?_
  refine Ops.nil ?_
  refine thenQ_n ?_
  refine Cd.seq ?_
  refine Cd.region ?_
  refine Ops.mv_sl rfl rfl rfl ?_
  refine Ops.call (l01From_c Ac nc cc bs w hY hnc) rfl rfl rfl ?_
  rintro _ w1 ⟨As, k, rfl, hK, hS⟩
  skip
  refine Ops.call (l19Draw_c 0 hS rfl hK) rfl rfl rfl ?_
  rintro _ w2 ⟨r, f, k', rfl, hK', hT⟩
  refine Ops.extract rfl rfl rfl ?_
  refine Ops.extract rfl rfl rfl ?_
  refine Ops.mv_int rfl rfl rfl ?_
  refine Ops.mv_int rfl rfl rfl ?_
  refine Ops.nil ?_
  refine thenQ_n ?_
  refine Cd.ret ?_
  refine ret2_ii rfl rfl ?_
  exact ⟨r, f, rfl, hT.none⟩
theorem big_c (Ac : Option Addr) (nc cc : Nat) (w : World) : Ret Tryz.prog 6 [.slice Ac nc cc] w (fun v w' => v = .bool (decide (4096 < (nc : Int))) ∧ St w w' []) := by
  refine Ret.of_cd Tryz.func6 rfl Tryz.ntmps6 rfl (post1 rfl) ?_
  refine Cd.seq ?_
  refine Cd.region ?_
  refine Ops.mv_bool rfl rfl rfl ?_
  refine Ops.nil ?_
  refine thenQ_n ?_
  refine Cd.seq ?_
  refine Cd.region ?_
  refine Ops.mv_sl rfl rfl rfl ?_
  refine Ops.len rfl rfl ?_
  refine Ops.gtr rfl rfl rfl ?_
  refine Ops.mv_bool rfl rfl rfl ?_
  refine Ops.nil ?_
  refine thenQ_n ?_
  refine Cd.ret ?_
  refine ret1_b rfl ?_
  exact ⟨rfl, St.refl w⟩

theorem likeInts_c (A : Option Addr) (n c : Nat) (xs : List Int) (B : Option Addr) (m cB : Nat) (ys : List Int) (w : World) (hX : RdI w A n xs) (hY : RdI w B m ys) (hn : n ≤ 9223372036854775806) :
    Ret Tryz.prog 27 [.slice A n c, .slice B m cB] w (fun v w' => v = .bool (decide (xs = ys)) ∧ St w w' []) := by
  have hxl := hX.1
  have hyl := hY.1
  refine Ret.of_cd Tryz.func27 rfl Tryz.ntmps27 rfl (post1 rfl) ?_
  refine Cd.seq ?_
  refine Cd.region ?_
  refine Ops.mv_bool rfl rfl rfl ?_
  refine Ops.nil ?_
  refine thenQ_n ?_
  refine Cd.seq ?_
  refine Cd.seq ?_
  refine Cd.region ?_
  refine Ops.mv_sl rfl rfl rfl ?_
  refine Ops.len rfl rfl ?_
  refine Ops.mv_sl rfl rfl rfl ?_
  refine Ops.len rfl rfl ?_
  refine Ops.neq rfl rfl rfl ?_
  refine Ops.nil ?_
  refine thenQ_n ?_
  refine Cd.cond_p _ rfl (fun h1 => ?_) (fun h1 => ?_)
  · have hne : xs ≠ ys := fun e => h1 (by rw [← hxl, ← hyl, e])
    refine Cd.seq ?_
    refine Cd.region ?_
    refine Ops.mv_bool rfl rfl rfl ?_
    refine Ops.nil ?_
    refine thenQ_n ?_
    refine Cd.ret ?_
    refine thenQ_r ?_
    refine ret1_b rfl ?_
    exact ⟨by rw [decide_eq_false hne], St.refl w⟩
  · have hnm : n = m := by omega
    subst hnm
    refine Cd.skip ?_
    refine thenQ_n ?_
    refine Cd.seq ?_
    refine Cd.seq ?_
    refine Cd.region ?_
    refine Ops.mv_int rfl rfl rfl ?_
    refine Ops.nil ?_
    refine thenQ_n ?_
    refine Cd.block ?_
    refine Cd.loop (α := Nat) (fun i => [(0, .slice A n c), (1, .slice B n cB), (5, .int .i64 (i : Int))]) (fun i w' => St w w' [] ∧ i ≤ n ∧ ∀ j, j < i → xs[j]? = ys[j]?) (fun i => n - i) 0 ⟨rfl, rfl, rfl, trivial⟩ ⟨St.refl w, Nat.zero_le _, fun j hj => absurd hj (Nat.not_lt_zero _)⟩ ?_
    rintro i e w1 ⟨hS1, hi, hj⟩
    have hX1 := hS1.oldI hX
    have hY1 := hS1.oldI hY
    refine Cd.seq ?_
    refine Cd.seq ?_
    refine Cd.region ?_
    refine Ops.mv_int rfl rfl rfl ?_
    refine Ops.mv_sl rfl rfl rfl ?_
    refine Ops.len rfl rfl ?_
    refine Ops.lss rfl rfl rfl ?_
    refine Ops.nil ?_
    refine thenQ_n ?_
    refine Cd.cond_p _ rfl (fun h2 => ?_) (fun h2 => ?_)
    · refine Cd.skip ?_
      refine thenQ_n ?_
      refine Cd.seq ?_
      refine Cd.block ?_
      refine Cd.seq ?_
      refine Cd.draw [.ex (.slice (A) (n) (c)), .ex (.int .i64 ((i : Int))), .ex (.pointer (ptrAt (A) ((i : Int)).toNat)), .ex (.int .i64 (gi (xs) ((i : Int)))), .ex (.slice (B) (n) (cB)), .ex (.int .i64 ((i : Int))), .ex (.pointer (ptrAt (B) ((i : Int)).toNat)), .ex (.int .i64 (gi (ys) ((i : Int)))), .ex (.bool (decide (¬ (gi (xs) ((i : Int))) = (gi (ys) ((i : Int))))))] (by kernel_rfl) (by kernel_rfl) rfl (List.forall_mem_cons.2 ⟨Yd.lasts_ex _, (List.forall_mem_cons.2 ⟨Yd.lasts_ex _, (List.forall_mem_cons.2 ⟨Yd.lasts_ex _, (List.forall_mem_cons.2 ⟨Yd.lasts_ex _, (List.forall_mem_cons.2 ⟨Yd.lasts_ex _, (List.forall_mem_cons.2 ⟨Yd.lasts_ex _, (List.forall_mem_cons.2 ⟨Yd.lasts_ex _, (List.forall_mem_cons.2 ⟨Yd.lasts_ex _, (List.forall_mem_cons.2 ⟨Yd.lasts_ex _, (fun _ h => by cases h)⟩)⟩)⟩)⟩)⟩)⟩)⟩)⟩)⟩) ⟨?_, ?_, ?_, ?_, ?_, ?_, ?_, ?_, ?_, trivial⟩ ?_
      · intro e1 w1 hb hp hun
        refine Ops.mv_sl rfl rfl rfl ?_
        refine Ops.nil ?_
        exact After.dn (Below.refl _ _) (by exact rfl)
      · intro e1 w1 hb hp hun
        refine Ops.mv_int rfl rfl rfl ?_
        refine Ops.nil ?_
        exact After.dn (Below.refl _ _) (by exact rfl)
      · intro e1 w1 hb hp hun
        refine Ops.idx (hX1.later hb).2 rfl rfl rfl (by omega) (by omega) ?_
        refine Ops.nil ?_
        exact After.dn (Below.refl _ _) (by exact rfl)
      · intro e1 w1 hb hp hun
        refine Ops.ld_int (hX1.later hb) rfl (by omega) rfl rfl ?_
        refine Ops.nil ?_
        exact After.dn (Below.refl _ _) (by exact rfl)
      · intro e1 w1 hb hp hun
        refine Ops.mv_sl rfl rfl rfl ?_
        refine Ops.nil ?_
        exact After.dn (Below.refl _ _) (by exact rfl)
      · intro e1 w1 hb hp hun
        refine Ops.mv_int rfl rfl rfl ?_
        refine Ops.nil ?_
        exact After.dn (Below.refl _ _) (by exact rfl)
      · intro e1 w1 hb hp hun
        refine Ops.idx (hY1.later hb).2 rfl rfl rfl (by omega) (by omega) ?_
        refine Ops.nil ?_
        exact After.dn (Below.refl _ _) (by exact rfl)
      · intro e1 w1 hb hp hun
        refine Ops.ld_int (hY1.later hb) rfl (by omega) rfl rfl ?_
        refine Ops.nil ?_
        exact After.dn (Below.refl _ _) (by exact rfl)
      · intro e1 w1 hb hp hun
        refine Ops.neq rfl rfl rfl ?_
        refine Ops.nil ?_
        exact After.dn (Below.refl _ _) (by exact rfl)
      intro u w2 hb2 _
      have hS2 := hS1.later hb2
      refine thenQ_n ?_
      refine Cd.cond_p _ rfl (fun h3 => ?_) (fun h3 => ?_)
      · have hne : xs ≠ ys := fun e => h3 (by rw [e])
        refine Cd.seq ?_
        refine Cd.region ?_
        refine Ops.mv_bool rfl rfl rfl ?_
        refine Ops.nil ?_
        refine thenQ_n ?_
        refine Cd.ret ?_
        refine blockQ_r ?_
        refine thenQ_r ?_
        refine thenQ_r ?_
        refine blockQ_r ?_
        refine thenQ_r ?_
        refine ret1_b rfl ?_
        exact ⟨by rw [decide_eq_false hne], hS2⟩
      · have h3 := Decidable.not_not.1 h3
        rw [gi_mem (by omega), gi_mem (by omega)] at h3
        refine Cd.skip ?_
        refine blockQ_n ?_
        refine thenQ_n ?_
        refine Cd.region ?_
        refine Ops.mv_int rfl rfl rfl ?_
        refine Ops.add rfl rfl rfl (by omega) ?_
        refine Ops.mv_int rfl rfl rfl ?_
        refine Ops.nil ?_
        refine thenQ_n ?_
        refine ⟨i + 1, by show n - (i + 1) < n - i; omega, ⟨rfl, rfl, rfl, trivial⟩, hS2, by omega, fun j hj' => ?_⟩
        by_cases e : j = i
        · subst e; rw [List.getElem?_eq_getElem (by omega), List.getElem?_eq_getElem (by omega), h3]
        · exact hj j (by omega)
    · have he : xs = ys := List.ext_getElem? fun j => by
        by_cases hjn : j < n
        · exact hj j (by omega)
        · rw [List.getElem?_eq_none (by omega), List.getElem?_eq_none (by omega)]
      refine Cd.exit ?_
      refine thenQ_x ?_
      refine thenQ_x ?_
      refine blockQ_x ?_
      refine thenQ_n ?_
      refine Cd.seq ?_
      refine Cd.region ?_
      refine Ops.mv_bool rfl rfl rfl ?_
      refine Ops.nil ?_
      refine thenQ_n ?_
      refine Cd.ret ?_
      refine ret1_b rfl ?_
      exact ⟨by rw [decide_eq_true he], hS1⟩

theorem same9_c (A : Option Addr) (n c : Nat) (rs : List SlV) (xss : List (List Int)) (B : Option Addr) (m cB : Nat) (rs' : List SlV) (yss : List (List Int)) (w : World) (hX : RowsI w A n rs xss) (hY : RowsI w B m rs' yss) (hn : n ≤ 9223372036854775806) (hr : ∀ x ∈ xss, x.length ≤ 9223372036854775806) :
    Ret Tryz.prog 48 [.slice A n c, .slice B m cB] w (fun v w' => v = .bool (decide (xss = yss)) ∧ St w w' []) := by
  have hxl := hX.len
  have hyl := hY.len
  refine Ret.of_cd Tryz.func48 rfl Tryz.ntmps48 rfl (post1 rfl) ?_
  refine Cd.seq ?_
  refine Cd.region ?_
  refine Ops.mv_bool rfl rfl rfl ?_
  refine Ops.nil ?_
  refine thenQ_n ?_
  refine Cd.seq ?_
  refine Cd.seq ?_
  refine Cd.region ?_
  refine Ops.mv_sl rfl rfl rfl ?_
  refine Ops.len rfl rfl ?_
  refine Ops.mv_sl rfl rfl rfl ?_
  refine Ops.len rfl rfl ?_
  refine Ops.neq rfl rfl rfl ?_
  refine Ops.nil ?_
  refine thenQ_n ?_
  refine Cd.cond_p _ rfl (fun h1 => ?_) (fun h1 => ?_)
  · have hne : xss ≠ yss := fun e => h1 (by rw [← hxl, ← hyl, e])
    refine Cd.seq ?_
    refine Cd.region ?_
    refine Ops.mv_bool rfl rfl rfl ?_
    refine Ops.nil ?_
    refine thenQ_n ?_
    refine Cd.ret ?_
    refine thenQ_r ?_
    refine ret1_b rfl ?_
    exact ⟨by rw [decide_eq_false hne], St.refl w⟩
  · have hnm : n = m := by omega
    subst hnm
    refine Cd.skip ?_
    refine thenQ_n ?_
    refine Cd.seq ?_
    refine Cd.seq ?_
    refine Cd.region ?_
    refine Ops.mv_int rfl rfl rfl ?_
    refine Ops.nil ?_
    refine thenQ_n ?_
    refine Cd.block ?_
    refine Cd.loop (α := Nat) (fun i => [(0, .slice A n c), (1, .slice B n cB), (5, .int .i64 (i : Int))]) (fun i w' => St w w' [] ∧ i ≤ n ∧ ∀ j, j < i → xss[j]? = yss[j]?) (fun i => n - i) 0 ⟨rfl, rfl, rfl, trivial⟩ ⟨St.refl w, Nat.zero_le _, fun j hj => absurd hj (Nat.not_lt_zero _)⟩ ?_
    rintro i e w1 ⟨hS1, hi, hj⟩
    have hX1 := hS1.oldRows hX
    have hY1 := hS1.oldRows hY
    refine Cd.seq ?_
    refine Cd.seq ?_
    refine Cd.region ?_
    refine Ops.mv_int rfl rfl rfl ?_
    refine Ops.mv_sl rfl rfl rfl ?_
    refine Ops.len rfl rfl ?_
    refine Ops.lss rfl rfl rfl ?_
    refine Ops.nil ?_
    refine thenQ_n ?_
    refine Cd.cond_p _ rfl (fun h2 => ?_) (fun h2 => ?_)
    · have hxi := hX1.at_ (i := (i : Int)) (by omega) (by omega)
      have hyi := hY1.at_ (i := (i : Int)) (by omega) (by omega)
      have hri : (rg rs (i : Int)).n ≤ 9223372036854775806 := by
        rw [← hxi.1, gl_mem (by omega)]; exact hr _ (List.getElem_mem _)
      refine Cd.skip ?_
      refine thenQ_n ?_
      refine Cd.seq ?_
      refine Cd.block ?_
      refine Cd.seq ?_
      refine Cd.draw [.ex (.slice (A) (n) (c)), .ex (.int .i64 ((i : Int))), .ex (.pointer (ptrAt (A) ((i : Int)).toNat)), .ex (.slice ((rg (rs) ((i : Int))).a) ((rg (rs) ((i : Int))).n) ((rg (rs) ((i : Int))).c)), .ex (.slice (B) (n) (cB)), .ex (.int .i64 ((i : Int))), .ex (.pointer (ptrAt (B) ((i : Int)).toNat)), .ex (.slice ((rg (rs') ((i : Int))).a) ((rg (rs') ((i : Int))).n) ((rg (rs') ((i : Int))).c)), .ex (.bool (decide (gl xss (i : Int) = gl yss (i : Int)))), .ex (.bool (decide (¬ (gl xss (i : Int) = gl yss (i : Int)))))] (by kernel_rfl) (by kernel_rfl) rfl (List.forall_mem_cons.2 ⟨Yd.lasts_ex _, (List.forall_mem_cons.2 ⟨Yd.lasts_ex _, (List.forall_mem_cons.2 ⟨Yd.lasts_ex _, (List.forall_mem_cons.2 ⟨Yd.lasts_ex _, (List.forall_mem_cons.2 ⟨Yd.lasts_ex _, (List.forall_mem_cons.2 ⟨Yd.lasts_ex _, (List.forall_mem_cons.2 ⟨Yd.lasts_ex _, (List.forall_mem_cons.2 ⟨Yd.lasts_ex _, (List.forall_mem_cons.2 ⟨Yd.lasts_ex _, (List.forall_mem_cons.2 ⟨Yd.lasts_ex _, (fun _ h => by cases h)⟩)⟩)⟩)⟩)⟩)⟩)⟩)⟩)⟩)⟩) ⟨?_, ?_, ?_, ?_, ?_, ?_, ?_, ?_, ?_, ?_, trivial⟩ ?_
      · intro e1 w1 hb hp hun
        refine Ops.mv_sl rfl rfl rfl ?_
        refine Ops.nil ?_
        exact After.dn (Below.refl _ _) (by exact rfl)
      · intro e1 w1 hb hp hun
        refine Ops.mv_int rfl rfl rfl ?_
        refine Ops.nil ?_
        exact After.dn (Below.refl _ _) (by exact rfl)
      · intro e1 w1 hb hp hun
        refine Ops.idx (hX1.top.later hb).2 rfl rfl rfl (by omega) (by omega) ?_
        refine Ops.nil ?_
        exact After.dn (Below.refl _ _) (by exact rfl)
      · intro e1 w1 hb hp hun
        refine Ops.ld_sl (hX1.top.later hb) rfl (by omega) rfl rfl ?_
        refine Ops.nil ?_
        exact After.dn (Below.refl _ _) (by exact rfl)
      · intro e1 w1 hb hp hun
        refine Ops.mv_sl rfl rfl rfl ?_
        refine Ops.nil ?_
        exact After.dn (Below.refl _ _) (by exact rfl)
      · intro e1 w1 hb hp hun
        refine Ops.mv_int rfl rfl rfl ?_
        refine Ops.nil ?_
        exact After.dn (Below.refl _ _) (by exact rfl)
      · intro e1 w1 hb hp hun
        refine Ops.idx (hY1.top.later hb).2 rfl rfl rfl (by omega) (by omega) ?_
        refine Ops.nil ?_
        exact After.dn (Below.refl _ _) (by exact rfl)
      · intro e1 w1 hb hp hun
        refine Ops.ld_sl (hY1.top.later hb) rfl (by omega) rfl rfl ?_
        refine Ops.nil ?_
        exact After.dn (Below.refl _ _) (by exact rfl)
      · intro e1 w1 hb hp hun
        refine Ops.call (likeInts_c _ _ _ _ _ _ _ _ _ (hxi.later hb) (hyi.later hb) hri) rfl rfl rfl ?_
        rintro _ w2 ⟨rfl, hst⟩
        refine Ops.nil ?_
        exact After.dn hst.below (by exact rfl)
      · intro e1 w1 hb hp hun
        refine Ops.not_p rfl rfl ?_
        refine Ops.nil ?_
        exact After.dn (Below.refl _ _) (by exact rfl)
      intro u w2 hb2 _
      have hS2 := hS1.later hb2
      refine thenQ_n ?_
      refine Cd.cond_p _ rfl (fun h3 => ?_) (fun h3 => ?_)
      · have hne : xss ≠ yss := fun e => h3 (by rw [e])
        refine Cd.seq ?_
        refine Cd.region ?_
        refine Ops.mv_bool rfl rfl rfl ?_
        refine Ops.nil ?_
        refine thenQ_n ?_
        refine Cd.ret ?_
        refine blockQ_r ?_
        refine thenQ_r ?_
        refine thenQ_r ?_
        refine blockQ_r ?_
        refine thenQ_r ?_
        refine ret1_b rfl ?_
        exact ⟨by rw [decide_eq_false hne], hS2⟩
      · have h3 := Decidable.not_not.1 h3
        rw [gl_mem (by omega), gl_mem (by omega)] at h3
        refine Cd.skip ?_
        refine blockQ_n ?_
        refine thenQ_n ?_
        refine Cd.region ?_
        refine Ops.mv_int rfl rfl rfl ?_
        refine Ops.add rfl rfl rfl (by omega) ?_
        refine Ops.mv_int rfl rfl rfl ?_
        refine Ops.nil ?_
        refine thenQ_n ?_
        refine ⟨i + 1, by show n - (i + 1) < n - i; omega, ⟨rfl, rfl, rfl, trivial⟩, hS2, by omega, fun j hj' => ?_⟩
        by_cases e : j = i
        · subst e; rw [List.getElem?_eq_getElem (by omega), List.getElem?_eq_getElem (by omega), h3]
        · exact hj j (by omega)
    · have he : xss = yss := List.ext_getElem? fun j => by
        by_cases hjn : j < n
        · exact hj j (by omega)
        · rw [List.getElem?_eq_none (by omega), List.getElem?_eq_none (by omega)]
      refine Cd.exit ?_
      refine thenQ_x ?_
      refine thenQ_x ?_
      refine blockQ_x ?_
      refine thenQ_n ?_
      refine Cd.seq ?_
      refine Cd.region ?_
      refine Ops.mv_bool rfl rfl rfl ?_
      refine Ops.nil ?_
      refine thenQ_n ?_
      refine Cd.ret ?_
      refine ret1_b rfl ?_
      exact ⟨by rw [decide_eq_true he], hS1⟩
theorem equal9_c (A : Option Addr) (n c : Nat) (rs : List SlV) (xss : List (List Int)) (B : Option Addr) (m cB : Nat) (rs' : List SlV) (yss : List (List Int)) (w : World) (hX : RowsI w A n rs xss) (hY : RowsI w B m rs' yss) (hn : n ≤ 9223372036854775806) (hr : ∀ x ∈ xss, x.length ≤ 9223372036854775806) :
    Ret Tryz.prog 10 [.agg #[.slice A n c], .agg #[.slice B m cB]] w (fun v w' => v = .bool (decide (xss = yss)) ∧ St w w' []) := by
  refine Ret.of_cd Tryz.func10 rfl Tryz.ntmps10 rfl (post1 rfl) ?_
  refine Cd.seq ?_
  refine Cd.region ?_
  refine Ops.box1 (St.refl w) rfl rfl ?_
  intro A1 w1 hS1
  skip
  refine Ops.box1 hS1 rfl rfl ?_
  intro A2 w2 hS2
  refine Ops.mv_bool rfl rfl rfl ?_
  refine Ops.nil ?_
  refine thenQ_n ?_
  refine Cd.seq ?_
  refine Cd.region ?_
  refine Ops.fld (hS2.rd 1 rfl) rfl rfl rfl rfl inferInstance ?_
  refine Ops.ldf_s (hS2.rd 1 rfl) rfl rfl rfl rfl rfl ?_
  skip
  refine Ops.fld (hS2.rd 0 rfl) rfl rfl rfl rfl inferInstance ?_
  refine Ops.ldf_s (hS2.rd 0 rfl) rfl rfl rfl rfl rfl ?_
  skip
  refine Ops.call (same9_c A n c rs xss B m cB rs' yss _ (hS2.oldRows hX) (hS2.oldRows hY) hn hr) rfl rfl rfl ?_
  rintro _ w3 ⟨rfl, hst⟩
  refine Ops.mv_bool rfl rfl rfl ?_
  refine Ops.nil ?_
  refine thenQ_n ?_
  refine Cd.ret ?_
  refine ret1_b rfl ?_
  exact ⟨rfl, (hS2.later hst.below).none⟩

theorem sumI_take {l : List Int} {i : Nat} (h : i < l.length) : sumI (l.take (i + 1)) = sumI (l.take i) + gi l (i : Int) := by
  rw [List.take_succ_eq_append_getElem h, sumI_app, gi_mem h]; simp [sumI]
theorem sumI_bd : ∀ (l : List Int), (∀ x ∈ l, 0 ≤ x ∧ x ≤ 10000000000000) → 0 ≤ sumI l ∧ sumI l ≤ 10000000000000 * (l.length : Nat)
  | [], _ => by simp [sumI]
  | x :: l, h => by
    have h1 := h x List.mem_cons_self
    have h2 := sumI_bd l (fun y hy => h y (List.mem_cons_of_mem _ hy))
    simp only [sumI, List.length_cons]
    omega
theorem sum_c (A : Option Addr) (n c : Nat) (xs : List Int) (w : World) (hX : RdI w A n xs) (hn : n ≤ 1000) (hb : ∀ x ∈ xs, 0 ≤ x ∧ x ≤ 10000000000000) :
    Ret Tryz.prog 16 [.slice A n c] w (fun v w' => v = .int .i64 (sumI xs) ∧ St w w' []) := by
  have hxl := hX.1
  refine Ret.of_cd Tryz.func16 rfl Tryz.ntmps16 rfl (post1 rfl) ?_
  refine Cd.seq ?_
  refine Cd.region ?_
  refine Ops.mv_int rfl rfl rfl ?_
  refine Ops.nil ?_
  refine thenQ_n ?_
  refine Cd.seq ?_
  refine Cd.region ?_
  refine Ops.mv_int rfl rfl rfl ?_
  refine Ops.nil ?_
  refine thenQ_n ?_
  refine Cd.seq ?_
  refine Cd.seq ?_
  refine Cd.region ?_
  refine Ops.mv_int rfl rfl rfl ?_
  refine Ops.nil ?_
  refine thenQ_n ?_
  refine Cd.block ?_
  refine Cd.loop (α := Nat) (fun i => [(0, .slice A n c), (3, .int .i64 (sumI (xs.take i))), (4, .int .i64 (i : Int))]) (fun i w' => w' = w ∧ i ≤ n) (fun i => n - i) 0 ⟨rfl, rfl, rfl, trivial⟩ ⟨rfl, Nat.zero_le _⟩ ?_
  rintro i e w1 ⟨rfl, hi⟩
  refine Cd.seq ?_
  refine Cd.seq ?_
  refine Cd.region ?_
  refine Ops.mv_int rfl rfl rfl ?_
  refine Ops.mv_sl rfl rfl rfl ?_
  refine Ops.len rfl rfl ?_
  refine Ops.lss rfl rfl rfl ?_
  refine Ops.nil ?_
  refine thenQ_n ?_
  refine Cd.cond_p _ rfl (fun h2 => ?_) (fun h2 => ?_)
  · have h3 := sumI_bd (xs.take i) (fun x hx => hb x (List.mem_of_mem_take hx))
    have h4 := sumI_bd (xs.take (i + 1)) (fun x hx => hb x (List.mem_of_mem_take hx))
    have h5 := sumI_take (l := xs) (i := i) (by omega)
    have h6 : (xs.take i).length ≤ 1000 := by rw [List.length_take]; omega
    have h7 : (xs.take (i + 1)).length ≤ 1000 := by rw [List.length_take]; omega
    refine Cd.skip ?_
    refine thenQ_n ?_
    refine Cd.seq ?_
    refine Cd.block ?_
    refine Cd.region ?_
    refine Ops.mv_int rfl rfl rfl ?_
    refine Ops.mv_sl rfl rfl rfl ?_
    refine Ops.mv_int rfl rfl rfl ?_
    refine Ops.idx hX.2 rfl rfl rfl (by omega) (by omega) ?_
    refine Ops.ld_int hX rfl (by omega) rfl rfl ?_
    refine Ops.add rfl rfl rfl (by omega) ?_
    refine Ops.mv_int rfl rfl rfl ?_
    refine Ops.nil ?_
    refine blockQ_n ?_
    refine thenQ_n ?_
    refine Cd.region ?_
    refine Ops.mv_int rfl rfl rfl ?_
    refine Ops.add rfl rfl rfl (by omega) ?_
    refine Ops.mv_int rfl rfl rfl ?_
    refine Ops.nil ?_
    refine thenQ_n ?_
    exact ⟨i + 1, by show n - (i + 1) < n - i; omega, ⟨rfl, by rw [h5]; rfl, rfl, trivial⟩, rfl, by omega⟩
  · have : xs.take i = xs := List.take_of_length_le (by omega)
    refine Cd.exit ?_
    refine thenQ_x ?_
    refine thenQ_x ?_
    refine blockQ_x ?_
    refine thenQ_n ?_
    refine Cd.seq ?_
    refine Cd.region ?_
    refine Ops.mv_int rfl rfl rfl ?_
    refine Ops.mv_int rfl rfl rfl ?_
    refine Ops.nil ?_
    refine thenQ_n ?_
    refine Cd.ret ?_
    refine ret1_i rfl ?_
    exact ⟨by rw [this], St.refl w1⟩

theorem less9_c (A : Option Addr) (n c : Nat) (xs : List Int) (A' : Option Addr) (n' c' : Nat) (ys : List Int) (w : World) (hX : RdI w A n xs) (hY : RdI w A' n' ys) (hn : n ≤ 9223372036854775807) :
    Ret Tryz.prog 17 [.slice A n c, .slice A' n' c'] w (fun v w' => v = .bool (decide (lexC xs ys < 0)) ∧ St w w' []) := by
  have hxl := hX.1
  have hyl := hY.1
  refine Ret.of_cd Tryz.func17 rfl Tryz.ntmps17 rfl (post1 rfl) ?_
  refine Cd.seq ?_
  refine Cd.region ?_
  refine Ops.mv_bool rfl rfl rfl ?_
  refine Ops.nil ?_
  refine thenQ_n ?_
  refine Cd.seq ?_
  refine Cd.seq ?_
  refine Cd.region ?_
  refine Ops.mv_int rfl rfl rfl ?_
  refine Ops.nil ?_
  refine thenQ_n ?_
  refine Cd.block ?_
  refine Cd.loop (α := Nat) (fun k => [(0, .slice A n c), (1, .slice A' n' c'), (5, .int .i64 (k : Int))]) (fun k w' => St w w' [] ∧ k ≤ n ∧ k ≤ n' ∧ lexC xs ys = lexC (xs.drop k) (ys.drop k)) (fun k => n - k) 0 ⟨rfl, rfl, rfl, trivial⟩ ⟨St.refl w, Nat.zero_le _, Nat.zero_le _, rfl⟩ ?_
  rintro k e w2 ⟨hS2, hk, hk', hK⟩
  have hX2 := hS2.oldI hX
  have hY2 := hS2.oldI hY
  refine Cd.seq ?_
  refine Cd.seq ?_
  refine Cd.region ?_
  refine Ops.mv_int rfl rfl rfl ?_
  refine Ops.mv_sl rfl rfl rfl ?_
  refine Ops.len rfl rfl ?_
  refine Ops.lss rfl rfl rfl ?_
  refine Ops.mv_bool rfl rfl rfl ?_
  refine Ops.split_p 10 rfl (fun h1 => ?_) (fun h1 => ?_)
  · refine Ops.rung rfl rfl rfl ?_
    refine Ops.mv_int rfl rfl rfl ?_
    refine Ops.rung rfl rfl rfl ?_
    refine Ops.mv_sl rfl rfl rfl ?_
    refine Ops.rung rfl rfl rfl ?_
    refine Ops.len rfl rfl ?_
    refine Ops.rung rfl rfl rfl ?_
    refine Ops.lss rfl rfl rfl ?_
    refine Ops.pick_t rfl rfl rfl ?_
    refine Ops.nil ?_
    refine thenQ_n ?_
    refine Cd.cond_p _ rfl (fun h2 => ?_) (fun h2 => ?_)
    · rw [lexC_step (by omega) (by omega)] at hK
      refine Cd.skip ?_
      refine thenQ_n ?_
      refine Cd.seq ?_
      refine Cd.block ?_
      refine Cd.seq ?_
      refine Cd.draw [.ex (.slice (A) (n) (c)), .ex (.int .i64 ((k : Int))), .ex (.pointer (ptrAt (A) ((k : Int)).toNat)), .ex (.int .i64 (gi (xs) ((k : Int)))), .ex (.slice (A') (n') (c')), .ex (.int .i64 ((k : Int))), .ex (.pointer (ptrAt (A') ((k : Int)).toNat)), .ex (.int .i64 (gi (ys) ((k : Int)))), .ex (.bool (decide (¬ (gi (xs) ((k : Int))) = (gi (ys) ((k : Int))))))] (by kernel_rfl) (by kernel_rfl) rfl (List.forall_mem_cons.2 ⟨Yd.lasts_ex _, (List.forall_mem_cons.2 ⟨Yd.lasts_ex _, (List.forall_mem_cons.2 ⟨Yd.lasts_ex _, (List.forall_mem_cons.2 ⟨Yd.lasts_ex _, (List.forall_mem_cons.2 ⟨Yd.lasts_ex _, (List.forall_mem_cons.2 ⟨Yd.lasts_ex _, (List.forall_mem_cons.2 ⟨Yd.lasts_ex _, (List.forall_mem_cons.2 ⟨Yd.lasts_ex _, (List.forall_mem_cons.2 ⟨Yd.lasts_ex _, (fun _ h => by cases h)⟩)⟩)⟩)⟩)⟩)⟩)⟩)⟩)⟩) ⟨?_, ?_, ?_, ?_, ?_, ?_, ?_, ?_, ?_, trivial⟩ ?_
      · intro e1 w1 hb hp hun
        refine Ops.mv_sl rfl rfl rfl ?_
        refine Ops.nil ?_
        exact After.dn (Below.refl _ _) (by exact rfl)
      · intro e1 w1 hb hp hun
        refine Ops.mv_int rfl rfl rfl ?_
        refine Ops.nil ?_
        exact After.dn (Below.refl _ _) (by exact rfl)
      · intro e1 w1 hb hp hun
        refine Ops.idx (hX2.later hb).2 rfl rfl rfl (by omega) (by omega) ?_
        refine Ops.nil ?_
        exact After.dn (Below.refl _ _) (by exact rfl)
      · intro e1 w1 hb hp hun
        refine Ops.ld_int (hX2.later hb) rfl (by omega) rfl rfl ?_
        refine Ops.nil ?_
        exact After.dn (Below.refl _ _) (by exact rfl)
      · intro e1 w1 hb hp hun
        refine Ops.mv_sl rfl rfl rfl ?_
        refine Ops.nil ?_
        exact After.dn (Below.refl _ _) (by exact rfl)
      · intro e1 w1 hb hp hun
        refine Ops.mv_int rfl rfl rfl ?_
        refine Ops.nil ?_
        exact After.dn (Below.refl _ _) (by exact rfl)
      · intro e1 w1 hb hp hun
        refine Ops.idx (hY2.later hb).2 rfl rfl rfl (by omega) (by omega) ?_
        refine Ops.nil ?_
        exact After.dn (Below.refl _ _) (by exact rfl)
      · intro e1 w1 hb hp hun
        refine Ops.ld_int (hY2.later hb) rfl (by omega) rfl rfl ?_
        refine Ops.nil ?_
        exact After.dn (Below.refl _ _) (by exact rfl)
      · intro e1 w1 hb hp hun
        refine Ops.neq rfl rfl rfl ?_
        refine Ops.nil ?_
        exact After.dn (Below.refl _ _) (by exact rfl)
      intro u w3 hb3 _
      have hS3 := hS2.later hb3
      have hX3 := hS3.oldI hX
      have hY3 := hS3.oldI hY
      refine thenQ_n ?_
      refine Cd.cond_p _ rfl (fun h3 => ?_) (fun h3 => ?_)
      · rw [if_neg (fun h => h3 (cmpI_zero.1 h))] at hK
        refine Cd.seq ?_
        refine Cd.draw [.ex (.slice (A) (n) (c)), .ex (.int .i64 ((k : Int))), .ex (.pointer (ptrAt (A) ((k : Int)).toNat)), .ex (.int .i64 (gi (xs) ((k : Int)))), .ex (.slice (A') (n') (c')), .ex (.int .i64 ((k : Int))), .ex (.pointer (ptrAt (A') ((k : Int)).toNat)), .ex (.int .i64 (gi (ys) ((k : Int)))), .ex (.bool (decide ((gi (xs) ((k : Int))) < (gi (ys) ((k : Int)))))), .ex (.bool (decide ((gi (xs) ((k : Int))) < (gi (ys) ((k : Int))))))] (by kernel_rfl) (by kernel_rfl) rfl (List.forall_mem_cons.2 ⟨Yd.lasts_ex _, (List.forall_mem_cons.2 ⟨Yd.lasts_ex _, (List.forall_mem_cons.2 ⟨Yd.lasts_ex _, (List.forall_mem_cons.2 ⟨Yd.lasts_ex _, (List.forall_mem_cons.2 ⟨Yd.lasts_ex _, (List.forall_mem_cons.2 ⟨Yd.lasts_ex _, (List.forall_mem_cons.2 ⟨Yd.lasts_ex _, (List.forall_mem_cons.2 ⟨Yd.lasts_ex _, (List.forall_mem_cons.2 ⟨Yd.lasts_ex _, (List.forall_mem_cons.2 ⟨Yd.lasts_ex _, (fun _ h => by cases h)⟩)⟩)⟩)⟩)⟩)⟩)⟩)⟩)⟩)⟩) ⟨?_, ?_, ?_, ?_, ?_, ?_, ?_, ?_, ?_, ?_, trivial⟩ ?_
        · intro e1 w1 hb hp hun
          refine Ops.mv_sl rfl rfl rfl ?_
          refine Ops.nil ?_
          exact After.dn (Below.refl _ _) (by exact rfl)
        · intro e1 w1 hb hp hun
          refine Ops.mv_int rfl rfl rfl ?_
          refine Ops.nil ?_
          exact After.dn (Below.refl _ _) (by exact rfl)
        · intro e1 w1 hb hp hun
          refine Ops.idx (hX3.later hb).2 rfl rfl rfl (by omega) (by omega) ?_
          refine Ops.nil ?_
          exact After.dn (Below.refl _ _) (by exact rfl)
        · intro e1 w1 hb hp hun
          refine Ops.ld_int (hX3.later hb) rfl (by omega) rfl rfl ?_
          refine Ops.nil ?_
          exact After.dn (Below.refl _ _) (by exact rfl)
        · intro e1 w1 hb hp hun
          refine Ops.mv_sl rfl rfl rfl ?_
          refine Ops.nil ?_
          exact After.dn (Below.refl _ _) (by exact rfl)
        · intro e1 w1 hb hp hun
          refine Ops.mv_int rfl rfl rfl ?_
          refine Ops.nil ?_
          exact After.dn (Below.refl _ _) (by exact rfl)
        · intro e1 w1 hb hp hun
          refine Ops.idx (hY3.later hb).2 rfl rfl rfl (by omega) (by omega) ?_
          refine Ops.nil ?_
          exact After.dn (Below.refl _ _) (by exact rfl)
        · intro e1 w1 hb hp hun
          refine Ops.ld_int (hY3.later hb) rfl (by omega) rfl rfl ?_
          refine Ops.nil ?_
          exact After.dn (Below.refl _ _) (by exact rfl)
        · intro e1 w1 hb hp hun
          refine Ops.lss rfl rfl rfl ?_
          refine Ops.nil ?_
          exact After.dn (Below.refl _ _) (by exact rfl)
        · intro e1 w1 hb hp hun
          refine Ops.mv_bool rfl rfl rfl ?_
          refine Ops.nil ?_
          exact After.dn (Below.refl _ _) (by exact rfl)
        intro u2 w4 hb4 _
        have hS4 := hS3.later hb4
        refine thenQ_n ?_
        refine Cd.ret ?_
        refine blockQ_r ?_
        refine thenQ_r ?_
        refine thenQ_r ?_
        refine blockQ_r ?_
        refine thenQ_r ?_
        refine ret1_b rfl ?_
        exact ⟨congrArg Value.bool (decide_eq_decide.2 (by rw [hK, cmpI_neg])), hS4⟩
      · rw [if_pos (cmpI_zero.2 (Classical.not_not.1 h3))] at hK
        refine Cd.skip ?_
        refine blockQ_n ?_
        refine thenQ_n ?_
        refine Cd.region ?_
        refine Ops.mv_int rfl rfl rfl ?_
        refine Ops.add rfl rfl rfl (by omega) ?_
        refine Ops.mv_int rfl rfl rfl ?_
        refine Ops.nil ?_
        refine thenQ_n ?_
        exact ⟨k + 1, by show n - (k + 1) < n - k; omega, ⟨rfl, rfl, rfl, trivial⟩, hS3, by omega, by omega, hK⟩
    · rw [lexC_endR (by omega) (by omega)] at hK
      refine Cd.exit ?_
      refine thenQ_x ?_
      refine thenQ_x ?_
      refine blockQ_x ?_
      refine thenQ_n ?_
      refine Cd.seq ?_
      refine Cd.region ?_
      refine Ops.mv_sl rfl rfl rfl ?_
      refine Ops.len rfl rfl ?_
      refine Ops.mv_sl rfl rfl rfl ?_
      refine Ops.len rfl rfl ?_
      refine Ops.lss rfl rfl rfl ?_
      refine Ops.mv_bool rfl rfl rfl ?_
      refine Ops.nil ?_
      refine thenQ_n ?_
      refine Cd.ret ?_
      refine ret1_b rfl ?_
      exact ⟨congrArg Value.bool (decide_eq_decide.2 (by rw [hK]; omega)), hS2⟩
  · rw [lexC_endL (by omega)] at hK
    refine Ops.skipg rfl rfl rfl rfl rfl ?_
    refine Ops.skipg rfl rfl rfl rfl rfl ?_
    refine Ops.skipg rfl rfl rfl rfl rfl ?_
    refine Ops.skipg rfl rfl rfl rfl rfl ?_
    refine Ops.pick_f rfl rfl rfl ?_
    refine Ops.nil ?_
    refine thenQ_n ?_
    refine Cd.cond_f rfl ?_
    refine Cd.exit ?_
    refine thenQ_x ?_
    refine thenQ_x ?_
    refine blockQ_x ?_
    refine thenQ_n ?_
    refine Cd.seq ?_
    refine Cd.region ?_
    refine Ops.mv_sl rfl rfl rfl ?_
    refine Ops.len rfl rfl ?_
    refine Ops.mv_sl rfl rfl rfl ?_
    refine Ops.len rfl rfl ?_
    refine Ops.lss rfl rfl rfl ?_
    refine Ops.mv_bool rfl rfl rfl ?_
    refine Ops.nil ?_
    refine thenQ_n ?_
    refine Cd.ret ?_
    refine ret1_b rfl ?_
    exact ⟨congrArg Value.bool (decide_eq_decide.2 (by rw [hK]; split <;> omega)), hS2⟩


theorem LeastForm_c (A : Option Addr) (n c : Nat) (rs : List SlV) (xss : List (List Int)) (w : World) (hR : RowsI w A n rs xss) (hM : Mani xss) (hnc : n ≤ c) (hc : c ≤ 9223372036854775807) :
    Ret Tryz.prog 21 [.agg #[.slice A n c]] w (AnsX (leastL (gl xss 0).length xss) 0 w) := by
  have hxl := hR.len
  refine Ret.of_cd Tryz.func21 rfl Tryz.ntmps21 rfl (postc2 rfl rfl) ?_
  refine Cd.seq ?_
  refine Cd.region ?_
  refine Ops.box1 (St.refl w) rfl rfl ?_
  intro Ab w1 hS1
  skip
  refine Ops.new1 hS1 rfl ?_
  intro Ac w2 hS2
  refine Ops.mv_int rfl rfl rfl ?_
  refine Ops.nil ?_
  refine thenQ_n ?_
  refine Cd.seq ?_
  refine Cd.seq ?_
  refine Cd.region ?_
  refine Ops.ld_agg 0 (hS2.rd 1 rfl) rfl rfl rfl ?_
  refine Ops.call (isManiplex_c A n c rs xss _ (hS2.oldRows hR) hnc hc) rfl rfl rfl ?_
  rintro _ w3 ⟨rfl, hst⟩
  have hS3 := hS2.later hst.below
  first | refine Ops.not_p rfl rfl ?_ | refine Ops.not rfl rfl ?_
  refine Ops.nil ?_
  refine thenQ_n ?_
  refine Cd.cond_pf rfl (fun h => h hM) ?_
  refine Cd.skip ?_
  refine thenQ_n ?_
  refine Cd.seq ?_
  refine Cd.region ?_
  refine Ops.ld_agg 0 (hS3.rd 1 rfl) rfl rfl rfl ?_
  refine Ops.call (leastForm_c A n c rs xss (gl xss 0).length _ (hS3.oldRows hR) hM rfl) rfl rfl rfl ?_
  rintro _ w4 ⟨A', c', rs', rfl, hrl, hst4⟩
  have hS4 : St w w4 ([Bx 32 1 Ac [.slice none 0 0], Bx 32 1 Ab [.slice A n c]] ++ mat 34 2 A' n c' rs' (leastL (gl xss 0).length xss)) := (hS3.call hst4).perm List.perm_append_comm
  refine Ops.st_agg 1 0 hS4 rfl rfl rfl rfl rfl rfl rfl ?_
  intro w5 hS5
  refine Ops.mv_int rfl rfl rfl ?_
  refine Ops.nil ?_
  refine thenQ_n ?_
  refine Cd.ret ?_
  skip
  refine retc2_r rfl (hS5.rd 0 rfl) rfl ?_
  have hll : (leastL (gl xss 0).length xss).length = n := by rw [leastL_len, hxl]
  exact ⟨A', c', rs', by rw [hll]; rfl, by rw [hrl, hll], by rw [hll]; exact (hS5.sub ((List.Sublist.refl _).cons _)).sub ((List.Sublist.refl _).cons _)⟩
theorem IsRegular_c (A : Option Addr) (n c : Nat) (rs : List SlV) (xss : List (List Int)) (w : World) (hR : RowsI w A n rs xss) (hM : Mani xss) (hnc : n ≤ c) (hc : c ≤ 9223372036854775807) :
    Ret Tryz.prog 18 [.agg #[.slice A n c]] w (fun v w' => v = .tuple #[.bool (decide (((fset (gl xss 0).length xss (gl xss 0).length).length : Int) = 1)), .int .i64 0] ∧ St w w' []) := by
  refine Ret.of_cd Tryz.func18 rfl Tryz.ntmps18 rfl (post2 rfl) ?_
  refine Cd.seq ?_
  refine Cd.region ?_
  refine Ops.box1 (St.refl w) rfl rfl ?_
  intro Ab w1 hS1
  refine Ops.mv_bool rfl rfl rfl ?_
  refine Ops.mv_int rfl rfl rfl ?_
  refine Ops.nil ?_
  refine thenQ_n ?_
  refine Cd.seq ?_
  refine Cd.seq ?_
  refine Cd.region ?_
  refine Ops.ld_agg 0 (hS1.rd 0 rfl) rfl rfl rfl ?_
  refine Ops.call (isManiplex_c A n c rs xss _ (hS1.oldRows hR) hnc hc) rfl rfl rfl ?_
  rintro _ w3 ⟨rfl, hst⟩
  have hS3 := hS1.later hst.below
  first | refine Ops.not_p rfl rfl ?_ | refine Ops.not rfl rfl ?_
  refine Ops.nil ?_
  refine thenQ_n ?_
  refine Cd.cond_pf rfl (fun h => h hM) ?_
  refine Cd.skip ?_
  refine thenQ_n ?_
  refine Cd.seq ?_
  refine Cd.region ?_
  refine Ops.call (flagOrbits_c Ab A n c rs xss _ _ (Rd.first (hS3.rd 0 rfl)) (hS3.oldRows hR) hM rfl) rfl rfl rfl ?_
  rintro _ w4 ⟨A', rfl, hst4⟩
  refine Ops.mv_tup rfl rfl rfl ?_
  refine Ops.extract rfl rfl rfl ?_
  refine Ops.extract rfl rfl rfl ?_
  refine Ops.mv_sl rfl rfl rfl ?_
  refine Ops.mv_int rfl rfl rfl ?_
  refine Ops.nil ?_
  refine thenQ_n ?_
  refine Cd.seq ?_
  refine Cd.region ?_
  refine Ops.mv_int rfl rfl rfl ?_
  refine Ops.eql rfl rfl rfl ?_
  refine Ops.mv_bool rfl rfl rfl ?_
  refine Ops.mv_int rfl rfl rfl ?_
  refine Ops.nil ?_
  refine thenQ_n ?_
  refine Cd.ret ?_
  refine ret2_bi rfl rfl ?_
  exact ⟨rfl, (hS3.later hst4.below).none⟩
end Go.Proofs.YtjpkmpihmilgoaaGreat.Vc
/-
  A census compared, marked and found marked; and the walk of the law on CensusOf. Conditions: as each states them.
-/
namespace Go.Proofs.YtjpkmpihmilgoaaGreat.Vc
open Go.RowKit

/-- a census, read -/
structure CsR (w : World) (A : Option Addr) (es : List CE) : Prop where
  top : RdC w A es.length (es.map CE.cv)
  row : ∀ e ∈ es, RdI w e.s.a e.s.n e.xs
/-! marks -/
def totE (es : List CE) : Int := ((es.map fun e => e.s.n + 1).sum : Nat)
theorem totE_cons (es : List CE) (m : CE) : totE (m :: es) = (m.s.n : Int) + 1 + totE es := by simp [totE]
def mkE (k : Int) : List CE → List CE
  | [] => []
  | m :: es => ⟨m.s, marks k m.s.n, k + m.s.n⟩ :: mkE (k + m.s.n + 1) es
theorem insP_len (x : List Int) : ∀ R : Cs, (insP R x).length ≤ R.length + 1
  | [] => by simp [insP]
  | (y, n) :: R => by
    have := insP_len x R
    simp only [insP]
    split
    · simp only [List.length_cons]; omega
    · split <;> simp
theorem csS_len (l : List (List Int)) : (csS l).length ≤ l.length := by
  have key : ∀ r : List (List Int), (csS r.reverse).length ≤ r.length := fun r => by
    induction r with
    | nil => exact Nat.le_refl _
    | cons x r ih =>
      rw [List.reverse_cons, csS_snoc]
      have := insP_len x (csS r.reverse)
      simp only [List.length_cons]
      omega
  have := key l.reverse
  rwa [List.reverse_reverse, List.length_reverse] at this
theorem cnR_len (rank flags : Int) : (cnR rank flags).length ≤ 4000000000000 := by
  have h1 := csS_len ((lstI rank flags).map cntF)
  have h2 := lst_len rank flags
  rw [List.length_map] at h1
  unfold cnR
  omega
end Go.Proofs.YtjpkmpihmilgoaaGreat.Vc
/-
  The walk of the law FnLists. Conditions: as each states them.
-/
namespace Go.Proofs.YtjpkmpihmilgoaaGreat.Vc
open Go.RowKit

theorem St.capV {w0 w : World} {ks : List Ck} {m : MatV} (h : St w0 w ks) (hs : (m.cks 34 2).Sublist ks) : m.top.n ≤ m.top.c ∧ m.top.c ≤ 9223372036854775807 := by
  have h1 : St w0 w (CkR 34 m.top.a m.top.n m.top.c m.rs :: rowsCk 2 m.rs m.xss) := h.sub hs
  have h2 := h1.cap 0 rfl
  dsimp only [CkR] at h2
  simpa only [maxLen] using h2
theorem mul_bd {x y : Int} (hx : 0 ≤ x ∧ x ≤ 4000000000000) (hy : 0 ≤ y ∧ y ≤ 1000) : 0 ≤ x * y ∧ x * y ≤ 4000000000000000 := by
  refine ⟨Int.mul_nonneg hx.1 hy.1, ?_⟩
  have := Int.mul_le_mul hx.2 hy.2 hy.1 (by omega)
  omega
theorem wgt_take {l : List Int} {i : Nat} (h : i < l.length) : wgt 0 (l.take (i + 1)) = wgt 0 (l.take i) + gi l (i : Int) * ((i : Int) + 1) := by
  rw [List.take_succ_eq_append_getElem h, wgt_app, gi_mem h, List.length_take, Nat.min_eq_left (by omega)]
  simp [wgt]
theorem wgt_bd : ∀ (l : List Int) (j : Nat), (∀ x ∈ l, 0 ≤ x ∧ x ≤ 4000000000000) → j + l.length ≤ 100 → 0 ≤ wgt j l ∧ wgt j l ≤ 4000000000000000 * (l.length : Nat)
  | [], _, _, _ => by simp [wgt]
  | x :: l, j, h, hj => by
    have h1 := mul_bd (h x List.mem_cons_self) (y := (j : Int) + 1) (by simp at hj; omega)
    have h2 := wgt_bd l (j + 1) (fun y hy => h y (List.mem_cons_of_mem _ hy)) (by simp at hj; omega)
    simp only [wgt, List.length_cons]
    omega

theorem sumC_pos : ∀ (R : Cs), (∀ y n, (y, n) ∈ R → 0 ≤ n) → 0 ≤ sumC R
  | [], _ => by simp [sumC]
  | (y, n) :: R, h => by
    have h1 := h y n List.mem_cons_self
    have h2 := sumC_pos R (fun z k hz => h z k (List.mem_cons_of_mem _ hz))
    simp only [sumC]
    omega
/-- what a small rank and number of flags give -/
structure LsF (r f : Int) : Prop where
  k0 : lstK r f = 0
  c0 : cnt2 r f = 0
  len : ((ocL r f).length : Int) = f
  pos : 0 < (ocL r f).length
  bd : ∀ x ∈ ocL r f, 0 ≤ x ∧ x ≤ 4000000000000
  sum : sumI (ocL r f) = cnK r f
  reg : ((regL r f).length : Int) = gi (ocL r f) 0
  tot : wgt 0 (ocL r f) = cnt1 r f
  cen : sumC (cnR r f) = cnK r f
theorem lsF {r f : Int} (hs : Small r f) : LsF r f := by
  have h1 := hs.1
  have h2 := hs.2
  have hn : 0 < r.toNat := by omega
  have hF : 0 < f.toNat := by omega
  have hoc : ocL r f = cntL f.toNat (lstI r f) := by rw [ocL, if_pos hs]
  have hown : ∀ m ∈ lstI r f, Own1 f.toNat m := fun m hm => by
    rw [lstI, if_pos hs] at hm
    exact (listL_mem.1 hm).2
  obtain ⟨b1, b2⟩ := cntL_bd' hF (lstI r f) hown
  obtain ⟨c1, c2, c3⟩ := cntL_sum hF (lstI r f) hown
  have hlen := lst_len r f
  refine ⟨by rw [lstK, if_pos hs], by rw [cnt2, if_pos hs], by rw [hoc, b1]; omega, by rw [hoc, b1]; exact hF, fun x hx => ?_, ?_, ?_, ?_, ?_⟩
  · rw [hoc] at hx
    obtain ⟨k, hk, rfl⟩ := List.mem_iff_getElem.1 hx
    have := b2 (k : Int) (by omega) (by omega)
    rw [gi_mem hk] at this
    omega
  · rw [hoc, c1]; rfl
  · rw [hoc, c3]; rfl
  · rw [hoc, c2, cnt1, if_pos hs]
    have e : lstI r f = listL r.toNat f.toNat := by rw [lstI, if_pos hs]
    rw [e]
    exact congrArg Int.ofNat (forms_count hn hF).symm
  · show sumC (csS ((lstI r f).map cntF)) = _
    rw [csS_sum, List.length_map]; rfl
theorem lsN {r f : Int} (hs : ¬ Small r f) : ¬ lstK r f = 0 := by rw [lstK, if_neg hs]; decide

theorem FnLists_c (Ac : Option Addr) (nc cc : Nat) (bs : List Int) (w : World) (hY : RdY w Ac nc bs) :
    Ret Tryz.prog 3 [.slice Ac nc cc] w (fun v w' => v = .bool true ∧ St w w' []) := by
  refine Ret.of_cd Tryz.func3 rfl Tryz.ntmps3 rfl (post1 rfl) ?_
  refine Cd.seq ?_
  refine Cd.region ?_
  refine Ops.mv_bool rfl rfl rfl ?_
  refine Ops.nil ?_
  refine thenQ_n ?_
  refine Cd.seq ?_
  refine Cd.seq ?_
  refine Cd.region ?_
  refine Ops.mv_sl rfl rfl rfl ?_
  refine Ops.call (big_c Ac nc cc _) rfl rfl rfl ?_
  rintro _ w1 ⟨rfl, hS1⟩
  have hY1 := hY.below hS1.below
  refine Ops.nil ?_
  refine thenQ_n ?_
  refine Cd.cond_p _ rfl (fun h1 => ?_) (fun h1 => ?_)
  · refine Cd.seq ?_
    refine Cd.region ?_
    refine Ops.mv_bool rfl rfl rfl ?_
    refine Ops.nil ?_
    refine thenQ_n ?_
    refine Cd.ret ?_
    refine thenQ_r ?_
    refine ret1_b rfl ?_
    exact ⟨rfl, hS1⟩
  refine Cd.skip ?_
  refine thenQ_n ?_
  refine Cd.seq ?_
  refine Cd.region ?_
  refine Ops.mv_sl rfl rfl rfl ?_
  refine Ops.call (DrawAllManiplexes_c Ac nc cc bs _ hY1 (by omega)) rfl rfl rfl ?_
  rintro _ w2 ⟨r, f, rfl, hst2⟩
  have hS2 := hS1.later hst2.below
  have hlen := lst_len r f
  refine Ops.mv_tup rfl rfl rfl ?_
  refine Ops.extract rfl rfl rfl ?_
  refine Ops.extract rfl rfl rfl ?_
  refine Ops.mv_int rfl rfl rfl ?_
  refine Ops.mv_int rfl rfl rfl ?_
  refine Ops.nil ?_
  refine thenQ_n ?_
  refine Cd.seq ?_
  refine Cd.region ?_
  refine Ops.mv_int rfl rfl rfl ?_
  refine Ops.mv_int rfl rfl rfl ?_
  refine Ops.call (implAllManiplexes_c r f _) rfl rfl rfl ?_
  rintro _ w3 ⟨A0, c0, ms0, rfl, hL0, hok0, hA3⟩
  have hS3 := hS2.later hA3.below
  have hl0 : ms0.length = (lstI r f).length := by rw [← hL0, List.length_map]
  have hsm0 := hA3.smV (List.sublist_cons_self _ _) hL0 hok0
  refine Ops.mv_tup rfl rfl rfl ?_
  refine Ops.extract rfl rfl rfl ?_
  refine Ops.extract rfl rfl rfl ?_
  refine Ops.mv_sl rfl rfl rfl ?_
  refine Ops.mv_int rfl rfl rfl ?_
  refine Ops.nil ?_
  refine thenQ_n ?_
  refine Cd.seq ?_
  refine Cd.region ?_
  refine Ops.mv_int rfl rfl rfl ?_
  refine Ops.mv_int rfl rfl rfl ?_
  refine Ops.call (specAllManiplexes_c r f _) rfl rfl rfl ?_
  rintro _ w4 ⟨A1, c1, ms1, rfl, hL1, hok1, hB4⟩
  have hS4 := hS3.later hB4.below
  have hA4 := hA3.later hB4.below
  have hl1 : ms1.length = (lstI r f).length := by rw [← hL1, List.length_map]
  have hsm1 := hB4.smV (List.sublist_cons_self _ _) hL1 hok1
  refine Ops.mv_tup rfl rfl rfl ?_
  refine Ops.extract rfl rfl rfl ?_
  refine Ops.extract rfl rfl rfl ?_
  refine Ops.mv_sl rfl rfl rfl ?_
  refine Ops.mv_int rfl rfl rfl ?_
  refine Ops.nil ?_
  refine thenQ_n ?_
  refine Cd.seq ?_
  refine Cd.seq ?_
  refine Cd.region ?_
  refine Ops.mv_int rfl rfl rfl ?_
  refine Ops.mv_int rfl rfl rfl ?_
  refine Ops.neq rfl rfl rfl ?_
  refine Ops.mv_bool rfl rfl rfl ?_
  refine Ops.split_p 56 rfl (fun h => absurd rfl h) (fun _ => ?_) --f
  refine Ops.rung rfl rfl rfl ?_
  refine Ops.mv_sl rfl rfl rfl ?_
  refine Ops.rung rfl rfl rfl ?_
  refine Ops.len rfl rfl ?_
  refine Ops.rung rfl rfl rfl ?_
  refine Ops.mv_sl rfl rfl rfl ?_
  refine Ops.rung rfl rfl rfl ?_
  refine Ops.len rfl rfl ?_
  refine Ops.rung rfl rfl rfl ?_
  refine Ops.neq rfl rfl rfl ?_
  refine Ops.pick_f rfl rfl rfl ?_
  refine Ops.nil ?_
  refine thenQ_n ?_
  refine Cd.cond_pf rfl (by omega) ?_
  refine Cd.skip ?_
  refine thenQ_n ?_
  refine Cd.seq ?_
  refine Cd.seq ?_
  refine Cd.region ?_
  refine Ops.mv_int rfl rfl rfl ?_
  refine Ops.nil ?_
  refine thenQ_n ?_
  refine Cd.block ?_
  have hMA4 := hA4.msR hok0 (List.Sublist.refl _)
  have hMB4 := hB4.msR hok1 (List.Sublist.refl _)
  refine Cd.loop (α := Nat) (fun i => [(0, .slice Ac nc cc), (3, .int .i64 r), (4, .int .i64 f), (5, .slice A0 ms0.length c0), (6, .int .i64 (lstK r f)), (7, .slice A1 ms1.length c1), (9, .int .i64 (i : Int))]) (fun i w' => St w4 w' [] ∧ i ≤ ms0.length) (fun i => ms0.length - i) 0 ⟨rfl, rfl, rfl, rfl, rfl, rfl, rfl, trivial⟩ ⟨St.refl w4, Nat.zero_le _⟩ ?_
  rintro i e w5 ⟨hst5, hi⟩
  have hS5 := hS4.later hst5.below
  have hA5 := hA4.later hst5.below
  have hB5 := hB4.later hst5.below
  have hMA := hA5.msR hok0 (List.Sublist.refl _)
  have hMB := hB5.msR hok1 (List.Sublist.refl _)
  refine Cd.seq ?_
  refine Cd.seq ?_
  refine Cd.region ?_
  refine Ops.mv_int rfl rfl rfl ?_
  refine Ops.mv_sl rfl rfl rfl ?_
  refine Ops.len rfl rfl ?_
  refine Ops.lss rfl rfl rfl ?_
  refine Ops.nil ?_
  refine thenQ_n ?_
  refine Cd.cond_p _ rfl (fun h2 => ?_) (fun h2 => ?_)
  · have hi0 : i < ms0.length := by omega
    have hi1 : i < ms1.length := by omega
    have ha := hMA.at_ hi0
    have hb' := hMB.at_ hi1
    have hsm := hsm0 _ (List.getElem_mem hi0)
    have hst := top_at hi0
    have hn0 : (rg (ms0.map (·.top)) (i : Int)).n ≤ 9223372036854775806 := by rw [hst]; have := hsm.2.2.1; omega
    have hr0 : ∀ x ∈ ms0[i].xss, x.length ≤ 9223372036854775806 := fun x hx => by have := hsm.2.2.2 x hx; omega
    have heq : ms0[i].xss = ms1[i].xss := by
      have e1 : (ms0.map (·.xss))[i]? = (ms1.map (·.xss))[i]? := by rw [hL0, hL1]
      rw [List.getElem?_map, List.getElem?_map, List.getElem?_eq_getElem hi0, List.getElem?_eq_getElem hi1] at e1
      exact Option.some.inj e1
    refine Cd.skip ?_
    refine thenQ_n ?_
    refine Cd.seq ?_
    refine Cd.block ?_
    refine Cd.seq ?_
    refine Cd.draw [.ex (.slice (A0) (ms0.length) (c0)), .ex (.int .i64 ((i : Int))), .ex (.pointer (ptrAt (A0) ((i : Int)).toNat)), .ex (.agg #[.slice (rg (ms0.map (·.top)) ((i : Int))).a (rg (ms0.map (·.top)) ((i : Int))).n (rg (ms0.map (·.top)) ((i : Int))).c]), .ex (.slice (A1) (ms1.length) (c1)), .ex (.int .i64 ((i : Int))), .ex (.pointer (ptrAt (A1) ((i : Int)).toNat)), .ex (.agg #[.slice (rg (ms1.map (·.top)) ((i : Int))).a (rg (ms1.map (·.top)) ((i : Int))).n (rg (ms1.map (·.top)) ((i : Int))).c]), .ex (.bool (decide (ms0[i].xss = ms1[i].xss))), .ex (.bool (decide (¬ (ms0[i].xss = ms1[i].xss))))] (by kernel_rfl) (by kernel_rfl) rfl (List.forall_mem_cons.2 ⟨Yd.lasts_ex _, (List.forall_mem_cons.2 ⟨Yd.lasts_ex _, (List.forall_mem_cons.2 ⟨Yd.lasts_ex _, (List.forall_mem_cons.2 ⟨Yd.lasts_ex _, (List.forall_mem_cons.2 ⟨Yd.lasts_ex _, (List.forall_mem_cons.2 ⟨Yd.lasts_ex _, (List.forall_mem_cons.2 ⟨Yd.lasts_ex _, (List.forall_mem_cons.2 ⟨Yd.lasts_ex _, (List.forall_mem_cons.2 ⟨Yd.lasts_ex _, (List.forall_mem_cons.2 ⟨Yd.lasts_ex _, (fun _ h => by cases h)⟩)⟩)⟩)⟩)⟩)⟩)⟩)⟩)⟩)⟩) ⟨?_, ?_, ?_, ?_, ?_, ?_, ?_, ?_, ?_, ?_, trivial⟩ ?_
    · intro e1 w1 hb hp hun
      refine Ops.mv_sl rfl rfl rfl ?_
      refine Ops.nil ?_
      exact After.dn (Below.refl _ _) (by exact rfl)
    · intro e1 w1 hb hp hun
      refine Ops.mv_int rfl rfl rfl ?_
      refine Ops.nil ?_
      exact After.dn (Below.refl _ _) (by exact rfl)
    · intro e1 w1 hb hp hun
      refine Ops.idx (hMA.top.later hb).2 rfl rfl rfl (by omega) (by omega) ?_
      refine Ops.nil ?_
      exact After.dn (Below.refl _ _) (by exact rfl)
    · intro e1 w1 hb hp hun
      refine Ops.ld_ag (hMA.top.later hb) rfl (by omega) rfl ?_
      refine Ops.nil ?_
      exact After.dn (Below.refl _ _) (by exact rfl)
    · intro e1 w1 hb hp hun
      refine Ops.mv_sl rfl rfl rfl ?_
      refine Ops.nil ?_
      exact After.dn (Below.refl _ _) (by exact rfl)
    · intro e1 w1 hb hp hun
      refine Ops.mv_int rfl rfl rfl ?_
      refine Ops.nil ?_
      exact After.dn (Below.refl _ _) (by exact rfl)
    · intro e1 w1 hb hp hun
      refine Ops.idx (hMB.top.later hb).2 rfl rfl rfl (by omega) (by omega) ?_
      refine Ops.nil ?_
      exact After.dn (Below.refl _ _) (by exact rfl)
    · intro e1 w1 hb hp hun
      refine Ops.ld_ag (hMB.top.later hb) rfl (by omega) rfl ?_
      refine Ops.nil ?_
      exact After.dn (Below.refl _ _) (by exact rfl)
    · intro e1 w1 hb hp hun
      refine Ops.call (equal9_c _ _ _ _ _ _ _ _ _ _ _ (ha.later hb) (hb'.later hb) hn0 hr0) rfl rfl rfl ?_
      rintro _ w2 ⟨rfl, hst⟩
      refine Ops.nil ?_
      exact After.dn hst.below (by exact rfl)
    · intro e1 w1 hb hp hun
      refine Ops.not_p rfl rfl ?_
      refine Ops.nil ?_
      exact After.dn (Below.refl _ _) (by exact rfl)
    intro u w6 hb6 _
    refine thenQ_n ?_
    refine Cd.cond_pf rfl (fun h => h heq) ?_
    refine Cd.skip ?_
    refine blockQ_n ?_
    refine thenQ_n ?_
    refine Cd.region ?_
    refine Ops.mv_int rfl rfl rfl ?_
    refine Ops.add rfl rfl rfl (by omega) ?_
    refine Ops.mv_int rfl rfl rfl ?_
    refine Ops.nil ?_
    refine thenQ_n ?_
    exact ⟨i + 1, by omega, ⟨rfl, rfl, rfl, rfl, rfl, rfl, rfl, trivial⟩, hst5.later hb6, by omega⟩
  refine Cd.exit ?_
  refine thenQ_x ?_
  refine thenQ_x ?_
  refine blockQ_x ?_
  refine thenQ_n ?_
  refine Cd.seq ?_
  refine Cd.region ?_
  refine Ops.mv_int rfl rfl rfl ?_
  refine Ops.mv_int rfl rfl rfl ?_
  refine Ops.call (implCountManiplexes_c r f _) rfl rfl rfl ?_
  rintro _ w6 ⟨rfl, hst6⟩
  have hS6 := hS5.later hst6.below
  have hA6 := hA5.later hst6.below
  refine Ops.mv_tup rfl rfl rfl ?_
  refine Ops.extract rfl rfl rfl ?_
  refine Ops.extract rfl rfl rfl ?_
  refine Ops.mv_int rfl rfl rfl ?_
  refine Ops.mv_int rfl rfl rfl ?_
  refine Ops.nil ?_
  refine thenQ_n ?_
  refine Cd.seq ?_
  refine Cd.region ?_
  refine Ops.mv_int rfl rfl rfl ?_
  refine Ops.mv_int rfl rfl rfl ?_
  refine Ops.call (implCountRooted_c r f _) rfl rfl rfl ?_
  rintro _ w7 ⟨rfl, hst7⟩
  have hS7 := hS6.later hst7.below
  have hA7 := hA6.later hst7.below
  refine Ops.mv_tup rfl rfl rfl ?_
  refine Ops.extract rfl rfl rfl ?_
  refine Ops.extract rfl rfl rfl ?_
  refine Ops.mv_int rfl rfl rfl ?_
  refine Ops.mv_int rfl rfl rfl ?_
  refine Ops.nil ?_
  refine thenQ_n ?_
  refine Cd.seq ?_
  refine Cd.region ?_
  refine Ops.mv_int rfl rfl rfl ?_
  refine Ops.mv_int rfl rfl rfl ?_
  refine Ops.call (implOrbitCounts_c r f _) rfl rfl rfl ?_
  rintro _ w8 ⟨Ao, co, rfl, hO8⟩
  have hS8 := hS7.later hO8.below
  have hA8 := hA7.later hO8.below
  refine Ops.mv_tup rfl rfl rfl ?_
  refine Ops.extract rfl rfl rfl ?_
  refine Ops.extract rfl rfl rfl ?_
  refine Ops.mv_sl rfl rfl rfl ?_
  refine Ops.mv_int rfl rfl rfl ?_
  refine Ops.nil ?_
  refine thenQ_n ?_
  refine Cd.seq ?_
  refine Cd.region ?_
  refine Ops.mv_int rfl rfl rfl ?_
  refine Ops.mv_int rfl rfl rfl ?_
  refine Ops.call (implCensusOf_c r f _) rfl rfl rfl ?_
  rintro _ w9 ⟨Az, cz, es, rfl, hes, hC9⟩
  have hS9 := hS8.later hC9.below
  have hA9 := hA8.later hC9.below
  have hO9 := hO8.later hC9.below
  refine Ops.mv_tup rfl rfl rfl ?_
  refine Ops.extract rfl rfl rfl ?_
  refine Ops.extract rfl rfl rfl ?_
  refine Ops.mv_sl rfl rfl rfl ?_
  refine Ops.mv_int rfl rfl rfl ?_
  refine Ops.nil ?_
  refine thenQ_n ?_
  refine Cd.seq ?_
  refine Cd.region ?_
  refine Ops.mv_int rfl rfl rfl ?_
  refine Ops.mv_int rfl rfl rfl ?_
  refine Ops.call (implRegularManiplexes_c r f _) rfl rfl rfl ?_
  rintro _ w10 ⟨Ar, cr, mr, rfl, hLr, hokr, hR10⟩
  have hS10 := hS9.later hR10.below
  have hA10 := hA9.later hR10.below
  have hO10 := hO9.later hR10.below
  have hC10 := hC9.later hR10.below
  refine Ops.mv_tup rfl rfl rfl ?_
  refine Ops.extract rfl rfl rfl ?_
  refine Ops.extract rfl rfl rfl ?_
  refine Ops.mv_sl rfl rfl rfl ?_
  refine Ops.mv_int rfl rfl rfl ?_
  refine Ops.nil ?_
  refine thenQ_n ?_
  refine Cd.seq ?_
  refine Cd.seq ?_
  refine Cd.region ?_
  refine Ops.mv_int rfl rfl rfl ?_
  refine Ops.neq rfl rfl rfl ?_
  refine Ops.nil ?_
  refine thenQ_n ?_
  refine Cd.cond_p _ rfl (fun h3 => ?_) (fun h3 => ?_)
  · have hcl : cnt2 r f = lstK r f := rfl
    refine Cd.seq ?_
    refine Cd.region ?_
    refine Ops.mv_int rfl rfl rfl ?_
    refine Ops.mv_int rfl rfl rfl ?_
    refine Ops.eql rfl rfl rfl ?_
    refine Ops.mv_bool rfl rfl rfl ?_
    refine Ops.split_p 114 rfl (fun _ => ?_) (fun h => absurd rfl h) --t
    refine Ops.rung rfl rfl rfl ?_
    refine Ops.mv_int rfl rfl rfl ?_
    refine Ops.rung rfl rfl rfl ?_
    refine Ops.mv_int rfl rfl rfl ?_
    refine Ops.rung rfl rfl rfl ?_
    refine Ops.eql rfl rfl rfl ?_
    refine Ops.pick_t rfl rfl rfl ?_
    refine Ops.mv_bool rfl rfl rfl ?_
    refine Ops.split_p 119 rfl (fun _ => ?_) (fun h => absurd hcl h) --t
    refine Ops.rung rfl rfl rfl ?_
    refine Ops.mv_int rfl rfl rfl ?_
    refine Ops.rung rfl rfl rfl ?_
    refine Ops.mv_int rfl rfl rfl ?_
    refine Ops.rung rfl rfl rfl ?_
    refine Ops.eql rfl rfl rfl ?_
    refine Ops.pick_t rfl rfl rfl ?_
    refine Ops.mv_bool rfl rfl rfl ?_
    refine Ops.split_p 124 rfl (fun _ => ?_) (fun h => absurd rfl h) --t
    refine Ops.rung rfl rfl rfl ?_
    refine Ops.mv_int rfl rfl rfl ?_
    refine Ops.rung rfl rfl rfl ?_
    refine Ops.mv_int rfl rfl rfl ?_
    refine Ops.rung rfl rfl rfl ?_
    refine Ops.eql rfl rfl rfl ?_
    refine Ops.pick_t rfl rfl rfl ?_
    refine Ops.mv_bool rfl rfl rfl ?_
    refine Ops.split_p 129 rfl (fun _ => ?_) (fun h => absurd rfl h) --t
    refine Ops.rung rfl rfl rfl ?_
    refine Ops.mv_int rfl rfl rfl ?_
    refine Ops.rung rfl rfl rfl ?_
    refine Ops.mv_int rfl rfl rfl ?_
    refine Ops.rung rfl rfl rfl ?_
    refine Ops.eql rfl rfl rfl ?_
    refine Ops.pick_t rfl rfl rfl ?_
    refine Ops.mv_bool rfl rfl rfl ?_
    refine Ops.nil ?_
    refine thenQ_n ?_
    refine Cd.ret ?_
    refine thenQ_r ?_
    refine ret1_b rfl ?_
    exact ⟨by rw [decide_eq_true rfl], hS10⟩
  have hsm : Small r f := Classical.byContradiction fun h => h3 (lsN h)
  obtain ⟨k0, c0', olen, opos, obd, osum, oreg, otot, ocen⟩ := lsF hsm
  have hRo := hO10.rdI 0 rfl
  have hol : (ocL r f).length ≤ 12 := ocL_small r f
  refine Cd.skip ?_
  refine thenQ_n ?_
  refine Cd.seq ?_
  refine Cd.seq ?_
  refine Cd.region ?_
  refine Ops.mv_int rfl rfl rfl ?_
  refine Ops.neq rfl rfl rfl ?_
  refine Ops.mv_bool rfl rfl rfl ?_
  refine Ops.split_p 136 rfl (fun h => absurd k0 h) (fun _ => ?_) --f
  refine Ops.rung rfl rfl rfl ?_
  refine Ops.mv_int rfl rfl rfl ?_
  refine Ops.rung rfl rfl rfl ?_
  refine Ops.neq rfl rfl rfl ?_
  refine Ops.pick_f rfl rfl rfl ?_
  refine Ops.mv_bool rfl rfl rfl ?_
  refine Ops.split_p 140 rfl (fun h => absurd c0' h) (fun _ => ?_) --f
  refine Ops.rung rfl rfl rfl ?_
  refine Ops.mv_int rfl rfl rfl ?_
  refine Ops.rung rfl rfl rfl ?_
  refine Ops.neq rfl rfl rfl ?_
  refine Ops.pick_f rfl rfl rfl ?_
  refine Ops.mv_bool rfl rfl rfl ?_
  refine Ops.split_p 144 rfl (fun h => absurd k0 h) (fun _ => ?_) --f
  refine Ops.rung rfl rfl rfl ?_
  refine Ops.mv_int rfl rfl rfl ?_
  refine Ops.rung rfl rfl rfl ?_
  refine Ops.neq rfl rfl rfl ?_
  refine Ops.pick_f rfl rfl rfl ?_
  refine Ops.mv_bool rfl rfl rfl ?_
  refine Ops.split_p 148 rfl (fun h => absurd k0 h) (fun _ => ?_) --f
  refine Ops.rung rfl rfl rfl ?_
  refine Ops.mv_int rfl rfl rfl ?_
  refine Ops.rung rfl rfl rfl ?_
  refine Ops.neq rfl rfl rfl ?_
  refine Ops.pick_f rfl rfl rfl ?_
  refine Ops.mv_bool rfl rfl rfl ?_
  refine Ops.split_p 152 rfl (fun h => absurd k0 h) (fun _ => ?_) --f
  refine Ops.rung rfl rfl rfl ?_
  refine Ops.mv_int rfl rfl rfl ?_
  refine Ops.rung rfl rfl rfl ?_
  refine Ops.mv_sl rfl rfl rfl ?_
  refine Ops.rung rfl rfl rfl ?_
  refine Ops.len rfl rfl ?_
  refine Ops.rung rfl rfl rfl ?_
  refine Ops.neq rfl rfl rfl ?_
  refine Ops.pick_f rfl rfl rfl ?_
  refine Ops.mv_bool rfl rfl rfl ?_
  refine Ops.split_p 158 rfl (fun h => absurd (show cnK r f = (ms0.length : Int) by rw [hl0]; rfl) h) (fun _ => ?_) --f
  refine Ops.rung rfl rfl rfl ?_
  refine Ops.mv_sl rfl rfl rfl ?_
  refine Ops.rung rfl rfl rfl ?_
  refine Ops.len rfl rfl ?_
  refine Ops.rung rfl rfl rfl ?_
  refine Ops.mv_int rfl rfl rfl ?_
  refine Ops.rung rfl rfl rfl ?_
  refine Ops.neq rfl rfl rfl ?_
  refine Ops.pick_f rfl rfl rfl ?_
  refine Ops.mv_bool rfl rfl rfl ?_
  refine Ops.split_p 164 rfl (fun h => absurd olen h) (fun _ => ?_) --f
  refine Ops.rung rfl rfl rfl ?_
  refine Ops.mv_sl rfl rfl rfl ?_
  refine Ops.rung rfl rfl rfl ?_
  refine Ops.call (sum_c Ao (ocL r f).length co (ocL r f) _ hRo (by omega) (fun x hx => by have := obd x hx; omega)) rfl rfl rfl ?_
  rintro _ w11 ⟨rfl, hst11⟩
  have hS11 := hS10.later hst11.below
  have hA11 := hA10.later hst11.below
  have hO11 := hO10.later hst11.below
  have hC11 := hC10.later hst11.below
  have hR11 := hR10.later hst11.below
  have hRo11 := hO11.rdI 0 rfl
  refine Ops.rung rfl rfl rfl ?_
  refine Ops.mv_int rfl rfl rfl ?_
  refine Ops.rung rfl rfl rfl ?_
  refine Ops.neq rfl rfl rfl ?_
  refine Ops.pick_f rfl rfl rfl ?_
  refine Ops.mv_bool rfl rfl rfl ?_
  refine Ops.split_p 170 rfl (fun h => absurd osum h) (fun _ => ?_) --f
  refine Ops.rung rfl rfl rfl ?_
  refine Ops.mv_sl rfl rfl rfl ?_
  refine Ops.rung rfl rfl rfl ?_
  refine Ops.len rfl rfl ?_
  refine Ops.rung rfl rfl rfl ?_
  refine Ops.mv_sl rfl rfl rfl ?_
  refine Ops.rung rfl rfl rfl ?_
  refine Ops.idx hRo11.2 rfl rfl rfl (by omega) (by omega) ?_
  refine Ops.rung rfl rfl rfl ?_
  refine Ops.ld_int (i := 0) hRo11 rfl (by omega) rfl rfl ?_
  have hrl : ((mr.length : Nat) : Int) = gi (ocL r f) 0 := by
    rw [← oreg, ← hLr, List.length_map]
  refine Ops.rung rfl rfl rfl ?_
  refine Ops.neq rfl rfl rfl ?_
  refine Ops.pick_f rfl rfl rfl ?_
  refine Ops.nil ?_
  refine thenQ_n ?_
  refine Cd.cond_pf rfl (fun h => h hrl) ?_
  refine Cd.skip ?_
  refine thenQ_n ?_
  refine Cd.seq ?_
  refine Cd.region ?_
  refine Ops.mv_int rfl rfl rfl ?_
  refine Ops.nil ?_
  refine thenQ_n ?_
  refine Cd.seq ?_
  refine Cd.seq ?_
  refine Cd.region ?_
  refine Ops.mv_int rfl rfl rfl ?_
  refine Ops.nil ?_
  refine thenQ_n ?_
  refine Cd.block ?_
  refine Cd.loop (α := Nat) (fun i => [(0, .slice Ac nc cc), (3, .int .i64 r), (4, .int .i64 f), (5, .slice A0 ms0.length c0), (10, .int .i64 (cnK r f)), (12, .int .i64 (cnt1 r f)), (14, .slice Ao (ocL r f).length co), (16, .slice Az es.length cz), (18, .slice Ar mr.length cr), (20, .int .i64 (wgt 0 ((ocL r f).take i))), (21, .int .i64 (i : Int))]) (fun i w' => w' = w11 ∧ i ≤ (ocL r f).length) (fun i => (ocL r f).length - i) 0 ⟨rfl, rfl, rfl, rfl, rfl, rfl, rfl, rfl, rfl, rfl, rfl, trivial⟩ ⟨rfl, Nat.zero_le _⟩ ?_
  rintro i e w12 ⟨rfl, hi⟩
  refine Cd.seq ?_
  refine Cd.seq ?_
  refine Cd.region ?_
  refine Ops.mv_int rfl rfl rfl ?_
  refine Ops.mv_sl rfl rfl rfl ?_
  refine Ops.len rfl rfl ?_
  refine Ops.lss rfl rfl rfl ?_
  refine Ops.nil ?_
  refine thenQ_n ?_
  refine Cd.cond_p _ rfl (fun h4 => ?_) (fun h4 => ?_)
  · have hil : i < (ocL r f).length := by omega
    have hm := mul_bd (obd _ (List.getElem_mem hil)) (y := (i : Int) + 1) (by omega)
    rw [← gi_mem hil] at hm
    have hw1 := wgt_bd ((ocL r f).take i) 0 (fun x hx => obd x (List.mem_of_mem_take hx)) (by rw [List.length_take]; omega)
    have hw2 : ((ocL r f).take i).length ≤ 12 := by rw [List.length_take]; omega
    refine Cd.skip ?_
    refine thenQ_n ?_
    refine Cd.seq ?_
    refine Cd.block ?_
    refine Cd.region ?_
    refine Ops.mv_int rfl rfl rfl ?_
    refine Ops.mv_sl rfl rfl rfl ?_
    refine Ops.mv_int rfl rfl rfl ?_
    refine Ops.idx hRo11.2 rfl rfl rfl (by omega) (by omega) ?_
    refine Ops.ld_int hRo11 rfl (by omega) rfl rfl ?_
    refine Ops.mv_int rfl rfl rfl ?_
    refine Ops.add rfl rfl rfl (by omega) ?_
    refine Ops.mul rfl rfl rfl (by omega) ?_
    refine Ops.add rfl rfl rfl (by omega) ?_
    refine Ops.mv_int rfl rfl rfl ?_
    refine Ops.nil ?_
    refine blockQ_n ?_
    refine thenQ_n ?_
    refine Cd.region ?_
    refine Ops.mv_int rfl rfl rfl ?_
    refine Ops.add rfl rfl rfl (by omega) ?_
    refine Ops.mv_int rfl rfl rfl ?_
    refine Ops.nil ?_
    refine thenQ_n ?_
    exact ⟨i + 1, by omega, ⟨rfl, rfl, rfl, rfl, rfl, rfl, rfl, rfl, rfl, by rw [wgt_take hil]; rfl, rfl, trivial⟩, rfl, by omega⟩
  have hwt : (ocL r f).take i = ocL r f := List.take_of_length_le (by omega)
  rw [hwt, otot]
  have hCen : CenOf (cnR r f) ((lstI r f).map cntF) := csS_cen _
  have hrl2 : (cnR r f).length = es.length := by rw [← hes, List.length_map]
  have hpr : ∀ (j : Nat) (hj : j < es.length), (cnR r f)[j]? = some (es[j].xs, es[j].v) := fun j hj => by
    rw [← hes, List.getElem?_map, List.getElem?_eq_getElem hj]; rfl
  have hnum : ∀ (j : Nat) (hj : j < es.length), 1 ≤ es[j].v ∧ es[j].v ≤ 4000000000000 := fun j hj => by
    have hm := (hCen.2 es[j].xs es[j].v).1 (List.mem_of_getElem? (hpr j hj))
    have h5 := List.count_pos_iff.2 hm.1
    have h6 := List.count_le_length (a := es[j].xs) (l := (lstI r f).map cntF)
    rw [List.length_map] at h6
    omega
  have hlt : ∀ (j : Nat) (hj : j + 1 < es.length), lexC es[j].xs es[j + 1].xs < 0 := fun j hj => by
    have hp : (cnR r f).Pairwise fun a b => lexC a.1 b.1 < 0 := hCen.1
    have h5 := List.pairwise_iff_getElem.1 hp j (j + 1) (by omega) (by omega) (by omega)
    have e1 := hpr j (by omega)
    have e2 := hpr (j + 1) hj
    rw [List.getElem?_eq_getElem (by omega)] at e1 e2
    rw [Option.some.inj e1, Option.some.inj e2] at h5
    exact h5
  have hsumC : ∀ (j : Nat) (hj : j < es.length), sumC ((cnR r f).take (j + 1)) = sumC ((cnR r f).take j) + es[j].v := fun j hj => by
    have e1 := hpr j hj
    rw [List.getElem?_eq_getElem (by omega)] at e1
    rw [List.take_succ_eq_append_getElem (by omega), sumC_app, Option.some.inj e1]
    simp [sumC]
  have hel : es.length ≤ 4000000000000 := by
    rw [← hrl2]; exact cnR_len r f
  refine Cd.exit ?_
  refine thenQ_x ?_
  refine thenQ_x ?_
  refine blockQ_x ?_
  refine thenQ_n ?_
  refine Cd.seq ?_
  refine Cd.region ?_
  refine Ops.mv_int rfl rfl rfl ?_
  refine Ops.nil ?_
  refine thenQ_n ?_
  refine Cd.seq ?_
  refine Cd.seq ?_
  refine Cd.region ?_
  refine Ops.mv_int rfl rfl rfl ?_
  refine Ops.nil ?_
  refine thenQ_n ?_
  refine Cd.block ?_
  have hsb : ∀ i, 0 ≤ sumC ((cnR r f).take i) ∧ sumC ((cnR r f).take i) ≤ 4000000000000 := fun i => by
    have hz : ∀ y n, (y, n) ∈ cnR r f → 0 ≤ n := fun y n h => by have := ((hCen.2 y n).1 h).2; omega
    have h6 := sumC_pos ((cnR r f).take i) (fun y n h => hz y n (List.mem_of_mem_take h))
    have h7 := sumC_pos ((cnR r f).drop i) (fun y n h => hz y n (List.mem_of_mem_drop h))
    have h8 := sumC_app ((cnR r f).take i) ((cnR r f).drop i)
    rw [List.take_append_drop, ocen] at h8
    have h9 : cnK r f = ((lstI r f).length : Nat) := rfl
    omega
  have hcv : ∀ (j : Nat) (hj : j < es.length), (es.map CE.cv)[j]'(by simpa using hj) = ⟨es[j].s, es[j].v⟩ := fun j hj => by rw [List.getElem_map]; rfl
  refine Cd.loop (α := Nat) (fun i => [(0, .slice Ac nc cc), (3, .int .i64 r), (4, .int .i64 f), (5, .slice A0 ms0.length c0), (10, .int .i64 (cnK r f)), (12, .int .i64 (cnt1 r f)), (16, .slice Az es.length cz), (18, .slice Ar mr.length cr), (20, .int .i64 (cnt1 r f)), (22, .int .i64 (sumC ((cnR r f).take i))), (23, .int .i64 (i : Int))]) (fun i w' => St w12 w' [] ∧ i ≤ es.length) (fun i => es.length - i) 0 ⟨rfl, rfl, rfl, rfl, rfl, rfl, rfl, rfl, rfl, rfl, rfl, trivial⟩ ⟨St.refl w12, Nat.zero_le _⟩ ?_
  rintro i e w13 ⟨hst13, hi⟩
  have hC13 := hC11.later hst13.below
  have hCd := hC13.rdC 0 rfl
  refine Cd.seq ?_
  refine Cd.seq ?_
  refine Cd.region ?_
  refine Ops.mv_int rfl rfl rfl ?_
  refine Ops.mv_sl rfl rfl rfl ?_
  refine Ops.len rfl rfl ?_
  refine Ops.lss rfl rfl rfl ?_
  refine Ops.nil ?_
  refine thenQ_n ?_
  refine Cd.cond_p _ rfl (fun h5 => ?_) (fun h5 => ?_)
  · have hil : i < es.length := by omega
    have hCi := hCd.at_ (j := i) (by omega)
    rw [hcv i hil] at hCi
    have hni := hnum i hil
    have hsi := hsumC i hil
    have hb0 := hsb i
    have hb1 := hsb (i + 1)
    rcases Nat.eq_zero_or_pos i with h0 | h0 --dup 2
    · skip
      refine Cd.skip ?_
      refine thenQ_n ?_
      refine Cd.seq ?_
      refine Cd.block ?_
      refine Cd.seq ?_
      refine Cd.seq ?_
      refine Cd.draw [.ex (.int .i64 ((i : Int))), .ex (.bool (decide (((0 : Int)) < ((i : Int))))), .ex (.bool (false)), .ex (undef), .ex (undef), .ex (undef), .ex (undef), .ex (undef), .ex (undef), .ex (undef), .ex (undef), .ex (undef), .ex (undef), .ex (undef), .ex (undef), .ex (undef), .ex (.bool (false)), .ex (.bool (false)), .ex (.slice (Az) (es.length) (cz)), .ex (.int .i64 ((i : Int))), .ex (.pointer (ptrAt Az ((i : Int).toNat * 2))), .ex (.pointer (ptrAt (ptrAt Az ((i : Int).toNat * 2)) 1)), .ex (.int .i64 (es[i].v)), .ex (.bool (decide ((es[i].v) < ((1 : Int))))), .ex (.bool (false))] (by kernel_rfl) (by kernel_rfl) rfl (List.forall_mem_cons.2 ⟨Yd.lasts_ex _, (List.forall_mem_cons.2 ⟨Yd.lasts_ex _, (List.forall_mem_cons.2 ⟨Yd.lasts_ex _, (List.forall_mem_cons.2 ⟨Yd.lasts_ex _, (List.forall_mem_cons.2 ⟨Yd.lasts_ex _, (List.forall_mem_cons.2 ⟨Yd.lasts_ex _, (List.forall_mem_cons.2 ⟨Yd.lasts_ex _, (List.forall_mem_cons.2 ⟨Yd.lasts_ex _, (List.forall_mem_cons.2 ⟨Yd.lasts_ex _, (List.forall_mem_cons.2 ⟨Yd.lasts_ex _, (List.forall_mem_cons.2 ⟨Yd.lasts_ex _, (List.forall_mem_cons.2 ⟨Yd.lasts_ex _, (List.forall_mem_cons.2 ⟨Yd.lasts_ex _, (List.forall_mem_cons.2 ⟨Yd.lasts_ex _, (List.forall_mem_cons.2 ⟨Yd.lasts_ex _, (List.forall_mem_cons.2 ⟨Yd.lasts_ex _, (List.forall_mem_cons.2 ⟨Yd.lasts_ex _, (List.forall_mem_cons.2 ⟨Yd.lasts_ex _, (List.forall_mem_cons.2 ⟨Yd.lasts_ex _, (List.forall_mem_cons.2 ⟨Yd.lasts_ex _, (List.forall_mem_cons.2 ⟨Yd.lasts_ex _, (List.forall_mem_cons.2 ⟨Yd.lasts_ex _, (List.forall_mem_cons.2 ⟨Yd.lasts_ex _, (List.forall_mem_cons.2 ⟨Yd.lasts_ex _, (List.forall_mem_cons.2 ⟨Yd.lasts_ex _, (fun _ h => by cases h)⟩)⟩)⟩)⟩)⟩)⟩)⟩)⟩)⟩)⟩)⟩)⟩)⟩)⟩)⟩)⟩)⟩)⟩)⟩)⟩)⟩)⟩)⟩)⟩)⟩) ⟨?_, ?_, ?_, ?_, ?_, ?_, ?_, ?_, ?_, ?_, ?_, ?_, ?_, ?_, ?_, ?_, ?_, ?_, ?_, ?_, ?_, ?_, ?_, ?_, ?_, trivial⟩ ?_
      · intro e1 w1 hb hp hun
        refine Ops.mv_int rfl rfl rfl ?_
        refine Ops.nil ?_
        exact After.dn (Below.refl _ _) (by exact rfl)
      · intro e1 w1 hb hp hun
        refine Ops.gtr rfl rfl rfl ?_
        refine Ops.nil ?_
        exact After.dn (Below.refl _ _) (by exact rfl)
      · intro e1 w1 hb hp hun
        refine Ops.mv_bool rfl rfl rfl ?_
        refine Ops.nil ?_
        exact After.dn (Below.refl _ _) (by exact congrArg Value.bool ((decide_eq_false (by omega))))
      · intro e1 w1 hb hp hun
        refine Ops.skipg rfl rfl rfl rfl rfl ?_
        refine Ops.nil ?_
        exact After.dn (Below.refl _ _) (by exact rfl)
      · intro e1 w1 hb hp hun
        refine Ops.skipg rfl rfl rfl rfl rfl ?_
        refine Ops.nil ?_
        exact After.dn (Below.refl _ _) (by exact rfl)
      · intro e1 w1 hb hp hun
        refine Ops.skipg rfl rfl rfl rfl rfl ?_
        refine Ops.nil ?_
        exact After.dn (Below.refl _ _) (by exact rfl)
      · intro e1 w1 hb hp hun
        refine Ops.skipg rfl rfl rfl rfl rfl ?_
        refine Ops.nil ?_
        exact After.dn (Below.refl _ _) (by exact rfl)
      · intro e1 w1 hb hp hun
        refine Ops.skipg rfl rfl rfl rfl rfl ?_
        refine Ops.nil ?_
        exact After.dn (Below.refl _ _) (by exact rfl)
      · intro e1 w1 hb hp hun
        refine Ops.skipg rfl rfl rfl rfl rfl ?_
        refine Ops.nil ?_
        exact After.dn (Below.refl _ _) (by exact rfl)
      · intro e1 w1 hb hp hun
        refine Ops.skipg rfl rfl rfl rfl rfl ?_
        refine Ops.nil ?_
        exact After.dn (Below.refl _ _) (by exact rfl)
      · intro e1 w1 hb hp hun
        refine Ops.skipg rfl rfl rfl rfl rfl ?_
        refine Ops.nil ?_
        exact After.dn (Below.refl _ _) (by exact rfl)
      · intro e1 w1 hb hp hun
        refine Ops.skipg rfl rfl rfl rfl rfl ?_
        refine Ops.nil ?_
        exact After.dn (Below.refl _ _) (by exact rfl)
      · intro e1 w1 hb hp hun
        refine Ops.skipg rfl rfl rfl rfl rfl ?_
        refine Ops.nil ?_
        exact After.dn (Below.refl _ _) (by exact rfl)
      · intro e1 w1 hb hp hun
        refine Ops.skipg rfl rfl rfl rfl rfl ?_
        refine Ops.nil ?_
        exact After.dn (Below.refl _ _) (by exact rfl)
      · intro e1 w1 hb hp hun
        refine Ops.skipg rfl rfl rfl rfl rfl ?_
        refine Ops.nil ?_
        exact After.dn (Below.refl _ _) (by exact rfl)
      · intro e1 w1 hb hp hun
        refine Ops.skipg rfl rfl rfl rfl rfl ?_
        refine Ops.nil ?_
        exact After.dn (Below.refl _ _) (by exact rfl)
      · intro e1 w1 hb hp hun
        refine Ops.pick_f rfl rfl rfl ?_
        refine Ops.nil ?_
        exact After.dn (Below.refl _ _) (by exact rfl)
      · intro e1 w1 hb hp hun
        refine Ops.mv_bool rfl rfl rfl ?_
        refine Ops.nil ?_
        exact After.dn (Below.refl _ _) (by exact rfl)
      · intro e1 w1 hb hp hun
        refine Ops.rung rfl rfl rfl ?_
        refine Ops.mv_sl rfl rfl rfl ?_
        refine Ops.nil ?_
        exact After.dn (Below.refl _ _) (by exact rfl)
      · intro e1 w1 hb hp hun
        refine Ops.rung rfl rfl rfl ?_
        refine Ops.mv_int rfl rfl rfl ?_
        refine Ops.nil ?_
        exact After.dn (Below.refl _ _) (by exact rfl)
      · intro e1 w1 hb hp hun
        refine Ops.rung rfl rfl rfl ?_
        refine Ops.idx2 (RdC.below hCd hb) rfl rfl rfl (by omega) (by omega) ?_
        refine Ops.nil ?_
        exact After.dn (Below.refl _ _) (by exact rfl)
      · intro e1 w1 hb hp hun
        refine Ops.rung rfl rfl rfl ?_
        refine Ops.fld (Rd.below hCi hb) rfl rfl rfl rfl inferInstance ?_
        refine Ops.nil ?_
        exact After.dn (Below.refl _ _) (by exact rfl)
      · intro e1 w1 hb hp hun
        refine Ops.rung rfl rfl rfl ?_
        refine Ops.ldf_i (j := 1) (i := es[i].v) (Rd.below hCi hb) rfl rfl rfl rfl rfl ?_
        refine Ops.nil ?_
        exact After.dn (Below.refl _ _) (by exact rfl)
      · intro e1 w1 hb hp hun
        refine Ops.rung rfl rfl rfl ?_
        refine Ops.lss rfl rfl rfl ?_
        refine Ops.nil ?_
        exact After.dn (Below.refl _ _) (by exact rfl)
      · intro e1 w1 hb hp hun
        refine Ops.pick_f rfl rfl rfl ?_
        refine Ops.nil ?_
        exact After.dn (Below.refl _ _) (by exact congrArg Value.bool ((decide_eq_false (by omega))))
      intro u w14 hb14 _
      have hst14 := hst13.later hb14
      have hC14 := hC13.later hb14
      have hCd4 := hC14.rdC 0 rfl
      have hCi4 := hCd4.at_ (j := i) (by omega)
      rw [hcv i hil] at hCi4
      refine thenQ_n ?_
      refine Cd.cond_f rfl ?_
      refine Cd.skip ?_
      refine thenQ_n ?_
      refine Cd.region ?_
      refine Ops.mv_int rfl rfl rfl ?_
      refine Ops.mv_sl rfl rfl rfl ?_
      refine Ops.mv_int rfl rfl rfl ?_
      refine Ops.idx2 hCd4 rfl rfl rfl (by omega) (by omega) ?_
      refine Ops.fld hCi4 rfl rfl rfl rfl inferInstance ?_
      refine Ops.ldf_i (j := 1) (i := es[i].v) hCi4 rfl rfl rfl rfl rfl ?_
      refine Ops.add rfl rfl rfl (by omega) ?_
      refine Ops.mv_int rfl rfl rfl ?_
      refine Ops.nil ?_
      refine blockQ_n ?_
      refine thenQ_n ?_
      refine Cd.region ?_
      refine Ops.mv_int rfl rfl rfl ?_
      refine Ops.add rfl rfl rfl (by omega) ?_
      refine Ops.mv_int rfl rfl rfl ?_
      refine Ops.nil ?_
      refine thenQ_n ?_
      exact ⟨i + 1, by omega, ⟨rfl, rfl, rfl, rfl, rfl, rfl, rfl, rfl, rfl, by rw [hsi]; rfl, rfl, trivial⟩, hst14, by omega⟩
    · obtain ⟨j, rfl⟩ : ∃ j, i = j + 1 := ⟨i - 1, by omega⟩
      have e1 : (((j + 1 : Nat) : Int) - 1).toNat = j := by omega
      have hlj := hlt j hil
      have hCj0 := hCd.at_ (j := j) (by omega)
      rw [hcv j (by omega)] at hCj0
      have hCj : Rd w13 (ptrAt Az ((((j + 1 : Nat) : Int) - 1).toNat * 2)) 2 (fun m => [es[j].s.v, .int .i64 es[j].v].getD m undef) := by
        rw [show ptrAt Az ((((j + 1 : Nat) : Int) - 1).toNat * 2) = ptrAt Az (j * 2) by rw [e1]]
        exact hCj0
      have hxj := hC13.rdI (j + 1) (by exact CE.get (by omega))
      have hxi := hC13.rdI (j + 2) (by exact CE.get hil)
      have hcy := hC13.cap (j + 1) (CE.get (by omega))
      dsimp only [CkI] at hcy
      have hyn : es[j].s.n ≤ 9223372036854775807 := by have h1 := hcy.1; have h2 := hcy.2; simp only [maxLen] at h2; omega
      refine Cd.skip ?_
      refine thenQ_n ?_
      refine Cd.seq ?_
      refine Cd.block ?_
      refine Cd.seq ?_
      refine Cd.seq ?_
      refine Cd.draw [.ex (.int .i64 (((j + 1 : Nat) : Int))), .ex (.bool (decide (((0 : Int)) < (((j + 1 : Nat) : Int))))), .ex (.bool (true)), .ex (.slice (Az) (es.length) (cz)), .ex (.int .i64 (((j + 1 : Nat) : Int))), .ex (.int .i64 ((((j + 1 : Nat) : Int)) - ((1 : Int)))), .ex (.pointer (ptrAt Az ((((j + 1 : Nat) : Int) - 1).toNat * 2))), .ex (.pointer (ptrAt (ptrAt Az ((((j + 1 : Nat) : Int) - 1).toNat * 2)) 0)), .ex (.slice (es[j].s.a) (es[j].s.n) (es[j].s.c)), .ex (.slice (Az) (es.length) (cz)), .ex (.int .i64 (((j + 1 : Nat) : Int))), .ex (.pointer (ptrAt Az (((j + 1 : Nat) : Int).toNat * 2))), .ex (.pointer (ptrAt (ptrAt Az (((j + 1 : Nat) : Int).toNat * 2)) 0)), .ex (.slice (es[j + 1].s.a) (es[j + 1].s.n) (es[j + 1].s.c)), .ex (.bool (decide (lexC es[j].xs es[j + 1].xs < 0))), .ex (.bool (false)), .ex (.bool (false)), .ex (.bool (false)), .ex (.slice (Az) (es.length) (cz)), .ex (.int .i64 (((j + 1 : Nat) : Int))), .ex (.pointer (ptrAt Az (((j + 1 : Nat) : Int).toNat * 2))), .ex (.pointer (ptrAt (ptrAt Az (((j + 1 : Nat) : Int).toNat * 2)) 1)), .ex (.int .i64 (es[j + 1].v)), .ex (.bool (decide ((es[j + 1].v) < ((1 : Int))))), .ex (.bool (false))] (by kernel_rfl) (by kernel_rfl) rfl (List.forall_mem_cons.2 ⟨Yd.lasts_ex _, (List.forall_mem_cons.2 ⟨Yd.lasts_ex _, (List.forall_mem_cons.2 ⟨Yd.lasts_ex _, (List.forall_mem_cons.2 ⟨Yd.lasts_ex _, (List.forall_mem_cons.2 ⟨Yd.lasts_ex _, (List.forall_mem_cons.2 ⟨Yd.lasts_ex _, (List.forall_mem_cons.2 ⟨Yd.lasts_ex _, (List.forall_mem_cons.2 ⟨Yd.lasts_ex _, (List.forall_mem_cons.2 ⟨Yd.lasts_ex _, (List.forall_mem_cons.2 ⟨Yd.lasts_ex _, (List.forall_mem_cons.2 ⟨Yd.lasts_ex _, (List.forall_mem_cons.2 ⟨Yd.lasts_ex _, (List.forall_mem_cons.2 ⟨Yd.lasts_ex _, (List.forall_mem_cons.2 ⟨Yd.lasts_ex _, (List.forall_mem_cons.2 ⟨Yd.lasts_ex _, (List.forall_mem_cons.2 ⟨Yd.lasts_ex _, (List.forall_mem_cons.2 ⟨Yd.lasts_ex _, (List.forall_mem_cons.2 ⟨Yd.lasts_ex _, (List.forall_mem_cons.2 ⟨Yd.lasts_ex _, (List.forall_mem_cons.2 ⟨Yd.lasts_ex _, (List.forall_mem_cons.2 ⟨Yd.lasts_ex _, (List.forall_mem_cons.2 ⟨Yd.lasts_ex _, (List.forall_mem_cons.2 ⟨Yd.lasts_ex _, (List.forall_mem_cons.2 ⟨Yd.lasts_ex _, (List.forall_mem_cons.2 ⟨Yd.lasts_ex _, (fun _ h => by cases h)⟩)⟩)⟩)⟩)⟩)⟩)⟩)⟩)⟩)⟩)⟩)⟩)⟩)⟩)⟩)⟩)⟩)⟩)⟩)⟩)⟩)⟩)⟩)⟩)⟩) ⟨?_, ?_, ?_, ?_, ?_, ?_, ?_, ?_, ?_, ?_, ?_, ?_, ?_, ?_, ?_, ?_, ?_, ?_, ?_, ?_, ?_, ?_, ?_, ?_, ?_, trivial⟩ ?_
      · intro e1 w1 hb hp hun
        refine Ops.mv_int rfl rfl rfl ?_
        refine Ops.nil ?_
        exact After.dn (Below.refl _ _) (by exact rfl)
      · intro e1 w1 hb hp hun
        refine Ops.gtr rfl rfl rfl ?_
        refine Ops.nil ?_
        exact After.dn (Below.refl _ _) (by exact rfl)
      · intro e1 w1 hb hp hun
        refine Ops.mv_bool rfl rfl rfl ?_
        refine Ops.nil ?_
        exact After.dn (Below.refl _ _) (by exact congrArg Value.bool ((decide_eq_true (by omega))))
      · intro e1 w1 hb hp hun
        refine Ops.rung rfl rfl rfl ?_
        refine Ops.mv_sl rfl rfl rfl ?_
        refine Ops.nil ?_
        exact After.dn (Below.refl _ _) (by exact rfl)
      · intro e1 w1 hb hp hun
        refine Ops.rung rfl rfl rfl ?_
        refine Ops.mv_int rfl rfl rfl ?_
        refine Ops.nil ?_
        exact After.dn (Below.refl _ _) (by exact rfl)
      · intro e1 w1 hb hp hun
        refine Ops.rung rfl rfl rfl ?_
        refine Ops.sub rfl rfl rfl (by omega) ?_
        refine Ops.nil ?_
        exact After.dn (Below.refl _ _) (by exact rfl)
      · intro e1 w1 hb hp hun
        refine Ops.rung rfl rfl rfl ?_
        refine Ops.idx2 (RdC.below hCd hb) rfl rfl rfl (by omega) (by omega) ?_
        refine Ops.nil ?_
        exact After.dn (Below.refl _ _) (by exact rfl)
      · intro e1 w1 hb hp hun
        refine Ops.rung rfl rfl rfl ?_
        refine Ops.fld (Rd.below hCj hb) rfl rfl rfl rfl inferInstance ?_
        refine Ops.nil ?_
        exact After.dn (Below.refl _ _) (by exact rfl)
      · intro e1 w1 hb hp hun
        refine Ops.rung rfl rfl rfl ?_
        refine Ops.ldf_s (j := 0) (Rd.below hCj hb) rfl rfl rfl rfl rfl ?_
        refine Ops.nil ?_
        exact After.dn (Below.refl _ _) (by exact rfl)
      · intro e1 w1 hb hp hun
        refine Ops.rung rfl rfl rfl ?_
        refine Ops.mv_sl rfl rfl rfl ?_
        refine Ops.nil ?_
        exact After.dn (Below.refl _ _) (by exact rfl)
      · intro e1 w1 hb hp hun
        refine Ops.rung rfl rfl rfl ?_
        refine Ops.mv_int rfl rfl rfl ?_
        refine Ops.nil ?_
        exact After.dn (Below.refl _ _) (by exact rfl)
      · intro e1 w1 hb hp hun
        refine Ops.rung rfl rfl rfl ?_
        refine Ops.idx2 (RdC.below hCd hb) rfl rfl rfl (by omega) (by omega) ?_
        refine Ops.nil ?_
        exact After.dn (Below.refl _ _) (by exact rfl)
      · intro e1 w1 hb hp hun
        refine Ops.rung rfl rfl rfl ?_
        refine Ops.fld (Rd.below hCi hb) rfl rfl rfl rfl inferInstance ?_
        refine Ops.nil ?_
        exact After.dn (Below.refl _ _) (by exact rfl)
      · intro e1 w1 hb hp hun
        refine Ops.rung rfl rfl rfl ?_
        refine Ops.ldf_s (j := 0) (Rd.below hCi hb) rfl rfl rfl rfl rfl ?_
        refine Ops.nil ?_
        exact After.dn (Below.refl _ _) (by exact rfl)
      · intro e1 w1 hb hp hun
        refine Ops.rung rfl rfl rfl ?_
        refine Ops.call (less9_c _ _ _ _ _ _ _ _ _ (hxj.later hb) (hxi.later hb) hyn) rfl rfl rfl ?_
        rintro _ w2 ⟨rfl, hst⟩
        refine Ops.nil ?_
        exact After.dn hst.below (by exact rfl)
      · intro e1 w1 hb hp hun
        refine Ops.rung rfl rfl rfl ?_
        refine Ops.not_p rfl rfl ?_
        refine Ops.nil ?_
        exact After.dn (Below.refl _ _) (by exact congrArg Value.bool ((decide_eq_false (fun h => h hlj))))
      · intro e1 w1 hb hp hun
        refine Ops.pick_t rfl rfl rfl ?_
        refine Ops.nil ?_
        exact After.dn (Below.refl _ _) (by exact rfl)
      · intro e1 w1 hb hp hun
        refine Ops.mv_bool rfl rfl rfl ?_
        refine Ops.nil ?_
        exact After.dn (Below.refl _ _) (by exact rfl)
      · intro e1 w1 hb hp hun
        refine Ops.rung rfl rfl rfl ?_
        refine Ops.mv_sl rfl rfl rfl ?_
        refine Ops.nil ?_
        exact After.dn (Below.refl _ _) (by exact rfl)
      · intro e1 w1 hb hp hun
        refine Ops.rung rfl rfl rfl ?_
        refine Ops.mv_int rfl rfl rfl ?_
        refine Ops.nil ?_
        exact After.dn (Below.refl _ _) (by exact rfl)
      · intro e1 w1 hb hp hun
        refine Ops.rung rfl rfl rfl ?_
        refine Ops.idx2 (RdC.below hCd hb) rfl rfl rfl (by omega) (by omega) ?_
        refine Ops.nil ?_
        exact After.dn (Below.refl _ _) (by exact rfl)
      · intro e1 w1 hb hp hun
        refine Ops.rung rfl rfl rfl ?_
        refine Ops.fld (Rd.below hCi hb) rfl rfl rfl rfl inferInstance ?_
        refine Ops.nil ?_
        exact After.dn (Below.refl _ _) (by exact rfl)
      · intro e1 w1 hb hp hun
        refine Ops.rung rfl rfl rfl ?_
        refine Ops.ldf_i (j := 1) (i := es[j + 1].v) (Rd.below hCi hb) rfl rfl rfl rfl rfl ?_
        refine Ops.nil ?_
        exact After.dn (Below.refl _ _) (by exact rfl)
      · intro e1 w1 hb hp hun
        refine Ops.rung rfl rfl rfl ?_
        refine Ops.lss rfl rfl rfl ?_
        refine Ops.nil ?_
        exact After.dn (Below.refl _ _) (by exact rfl)
      · intro e1 w1 hb hp hun
        refine Ops.pick_f rfl rfl rfl ?_
        refine Ops.nil ?_
        exact After.dn (Below.refl _ _) (by exact congrArg Value.bool ((decide_eq_false (by omega))))
      intro u w14 hb14 _
      have hst14 := hst13.later hb14
      have hC14 := hC13.later hb14
      have hCd4 := hC14.rdC 0 rfl
      have hCi4 := hCd4.at_ (j := j + 1) (by omega)
      rw [hcv (j + 1) hil] at hCi4
      refine thenQ_n ?_
      refine Cd.cond_f rfl ?_
      refine Cd.skip ?_
      refine thenQ_n ?_
      refine Cd.region ?_
      refine Ops.mv_int rfl rfl rfl ?_
      refine Ops.mv_sl rfl rfl rfl ?_
      refine Ops.mv_int rfl rfl rfl ?_
      refine Ops.idx2 hCd4 rfl rfl rfl (by omega) (by omega) ?_
      refine Ops.fld hCi4 rfl rfl rfl rfl inferInstance ?_
      refine Ops.ldf_i (j := 1) (i := es[j + 1].v) hCi4 rfl rfl rfl rfl rfl ?_
      refine Ops.add rfl rfl rfl (by omega) ?_
      refine Ops.mv_int rfl rfl rfl ?_
      refine Ops.nil ?_
      refine blockQ_n ?_
      refine thenQ_n ?_
      refine Cd.region ?_
      refine Ops.mv_int rfl rfl rfl ?_
      refine Ops.add rfl rfl rfl (by omega) ?_
      refine Ops.mv_int rfl rfl rfl ?_
      refine Ops.nil ?_
      refine thenQ_n ?_
      exact ⟨j + 1 + 1, by omega, ⟨rfl, rfl, rfl, rfl, rfl, rfl, rfl, rfl, rfl, by rw [hsi]; rfl, rfl, trivial⟩, hst14, by omega⟩
  have hie : i = es.length := by omega
  have hwt2 : (cnR r f).take i = cnR r f := List.take_of_length_le (by omega)
  rw [hwt2, ocen]
  have hS13 := hS11.later hst13.below
  have hA13 := hA11.later hst13.below
  have hR13 := hR11.later hst13.below
  refine Cd.exit ?_
  refine thenQ_x ?_
  refine thenQ_x ?_
  refine blockQ_x ?_
  refine thenQ_n ?_
  refine Cd.seq ?_
  refine Cd.seq ?_
  refine Cd.region ?_
  refine Ops.mv_int rfl rfl rfl ?_
  refine Ops.mv_int rfl rfl rfl ?_
  refine Ops.neq rfl rfl rfl ?_
  refine Ops.mv_bool rfl rfl rfl ?_
  refine Ops.split_p 234 rfl (fun h => absurd rfl h) (fun _ => ?_) --f
  refine Ops.rung rfl rfl rfl ?_
  refine Ops.mv_int rfl rfl rfl ?_
  refine Ops.rung rfl rfl rfl ?_
  refine Ops.mv_int rfl rfl rfl ?_
  refine Ops.rung rfl rfl rfl ?_
  refine Ops.neq rfl rfl rfl ?_
  refine Ops.pick_f rfl rfl rfl ?_
  refine Ops.nil ?_
  refine thenQ_n ?_
  refine Cd.cond_pf rfl (fun h => h rfl) ?_
  refine Cd.skip ?_
  refine thenQ_n ?_
  refine Cd.seq ?_
  refine Cd.seq ?_
  refine Cd.region ?_
  refine Ops.mv_int rfl rfl rfl ?_
  refine Ops.nil ?_
  refine thenQ_n ?_
  refine Cd.block ?_
  refine Cd.loop (α := Nat) (fun i => [(0, .slice Ac nc cc), (3, .int .i64 r), (4, .int .i64 f), (5, .slice A0 ms0.length c0), (10, .int .i64 (cnK r f)), (18, .slice Ar mr.length cr), (24, .int .i64 (i : Int))]) (fun i w' => St w13 w' [] ∧ i ≤ mr.length) (fun i => mr.length - i) 0 ⟨rfl, rfl, rfl, rfl, rfl, rfl, rfl, trivial⟩ ⟨St.refl w13, Nat.zero_le _⟩ ?_
  rintro i1 e w14 ⟨hst14, hi1⟩
  have hS14 := hS13.later hst14.below
  have hA14 := hA13.later hst14.below
  have hR14 := hR13.later hst14.below
  have hMR := hR14.msR hokr (List.Sublist.refl _)
  have hml : mr.length ≤ 4000000000000 := by
    have := regL_len r f
    rwa [← hLr, List.length_map] at this
  refine Cd.seq ?_
  refine Cd.seq ?_
  refine Cd.region ?_
  refine Ops.mv_int rfl rfl rfl ?_
  refine Ops.mv_sl rfl rfl rfl ?_
  refine Ops.len rfl rfl ?_
  refine Ops.lss rfl rfl rfl ?_
  refine Ops.nil ?_
  refine thenQ_n ?_
  refine Cd.cond_p _ rfl (fun h6 => ?_) (fun h6 => ?_)
  · have hil : i1 < mr.length := by omega
    have hr := hMR.at_ hil
    have htp := top_at hil
    have hcv2 := hR14.capV ((MatV.sub_ (List.getElem_mem hil)).trans (List.sublist_cons_self _ _))
    have hreg : mr[i1].xss ∈ regL r f := by rw [← hLr]; exact List.mem_map_of_mem (List.getElem_mem hil)
    have hlm := regL_mem hreg
    rw [lstI, if_pos hsm] at hlm
    obtain ⟨g1, g2⟩ := listL_mem.1 hlm
    have hn0 : 0 < r.toNat := by have := hsm.1; omega
    have hF0 : 0 < f.toNat := by have := hsm.2; omega
    obtain ⟨g3, g4⟩ := forms_mani hn0 hF0 g1
    have g5 : (gl mr[i1].xss 0).length = f.toNat := g4.shp.row (i := 0) hn0
    have hone : ((fset (gl mr[i1].xss 0).length mr[i1].xss (gl mr[i1].xss 0).length).length : Int) = 1 := by
      have h7 : orbN f.toNat mr[i1].xss = 1 := by simpa using (List.mem_filter.1 hreg).2
      rw [orbN, if_pos g2] at h7
      rw [g5, h7]
      rfl
    refine Cd.skip ?_
    refine thenQ_n ?_
    refine Cd.seq ?_
    refine Cd.block ?_
    refine Cd.seq ?_
    refine Cd.region ?_
    refine Ops.mv_sl rfl rfl rfl ?_
    refine Ops.mv_int rfl rfl rfl ?_
    refine Ops.idx hMR.top.2 rfl rfl rfl (by omega) (by omega) ?_
    refine Ops.ld_ag hMR.top rfl (by omega) rfl ?_
    refine Ops.call (IsRegular_c _ _ _ _ mr[i1].xss _ hr g3 (by rw [htp]; exact hcv2.1) (by rw [htp]; exact hcv2.2)) rfl rfl rfl ?_
    rintro _ w15 ⟨rfl, hst15⟩
    refine Ops.mv_tup rfl rfl rfl ?_
    refine Ops.extract rfl rfl rfl ?_
    refine Ops.extract rfl rfl rfl ?_
    refine Ops.mv_bool rfl rfl rfl ?_
    refine Ops.mv_int rfl rfl rfl ?_
    refine Ops.nil ?_
    refine thenQ_n ?_
    refine Cd.seq ?_
    refine Cd.region ?_
    refine Ops.mv_int rfl rfl rfl ?_
    refine Ops.neq rfl rfl rfl ?_
    refine Ops.mv_bool rfl rfl rfl ?_
    refine Ops.split_p 255 rfl (fun h => absurd rfl h) (fun _ => ?_) --f
    refine Ops.rung rfl rfl rfl ?_
    refine Ops.mv_bool rfl rfl rfl ?_
    refine Ops.rung rfl rfl rfl ?_
    first | refine Ops.not_p rfl rfl ?_ | refine Ops.not rfl rfl ?_
    refine Ops.pick_f rfl rfl rfl ?_
    refine Ops.nil ?_
    refine thenQ_n ?_
    refine Cd.cond_pf rfl (fun h => h hone) ?_
    refine Cd.skip ?_
    refine blockQ_n ?_
    refine thenQ_n ?_
    refine Cd.region ?_
    refine Ops.mv_int rfl rfl rfl ?_
    refine Ops.add rfl rfl rfl (by omega) ?_
    refine Ops.mv_int rfl rfl rfl ?_
    refine Ops.nil ?_
    refine thenQ_n ?_
    exact ⟨i1 + 1, by omega, ⟨rfl, rfl, rfl, rfl, rfl, rfl, rfl, trivial⟩, hst14.later hst15.below, by omega⟩
  refine Cd.exit ?_
  refine thenQ_x ?_
  refine thenQ_x ?_
  refine blockQ_x ?_
  refine thenQ_n ?_
  refine Cd.seq ?_
  refine Cd.seq ?_
  refine Cd.region ?_
  refine Ops.mv_int rfl rfl rfl ?_
  refine Ops.eql rfl rfl rfl ?_
  refine Ops.nil ?_
  refine thenQ_n ?_
  refine Cd.cond_p _ rfl (fun h7 => ?_) (fun h7 => ?_)
  · refine Cd.seq ?_
    refine Cd.region ?_
    refine Ops.mv_bool rfl rfl rfl ?_
    refine Ops.nil ?_
    refine thenQ_n ?_
    refine Cd.ret ?_
    refine thenQ_r ?_
    refine ret1_b rfl ?_
    exact ⟨rfl, hS14⟩
  have hcn : cnK r f = (ms0.length : Int) := by rw [hl0]; rfl
  have hY14 : RdY w14 Ac nc bs := hY.below hS14.below
  refine Cd.skip ?_
  refine thenQ_n ?_
  refine Cd.seq ?_
  refine Cd.region ?_
  refine Ops.mv_sl rfl rfl rfl ?_
  refine Ops.call (roll_c Ac nc cc bs 1191 _ hY14 (by omega)) rfl rfl rfl ?_
  rintro _ w15 ⟨As, kk, rfl, hK, hD⟩
  refine Ops.mv_int rfl rfl rfl ?_
  refine Ops.call (dicNext_c 0 (cnK r f) hD rfl hK) rfl rfl rfl ?_
  rintro _ w16 ⟨x, kk', rfl, ⟨hx0, hx1, _⟩, hK', hD'⟩
  have hx1 := hx1 (by omega)
  obtain ⟨q, rfl⟩ : ∃ q : Nat, x = q := ⟨x.toNat, by omega⟩
  have hS16 := hS14.later hD'.below
  have hA16 := hA14.later hD'.below
  have hq : q < ms0.length := by omega
  have hMA16 := hA16.msR hok0 (List.Sublist.refl _)
  have hrq := hMA16.at_ hq
  have htq := top_at hq
  have hcq := hA16.capV ((MatV.sub_ (List.getElem_mem hq)).trans (List.sublist_cons_self _ _))
  have hLq : ms0[q].xss = (lstI r f)[q]'(by omega) := by
    have e1 : (ms0.map (·.xss))[q]? = (lstI r f)[q]? := by rw [hL0]
    rw [List.getElem?_map, List.getElem?_eq_getElem hq, List.getElem?_eq_getElem (by omega)] at e1
    exact Option.some.inj e1
  obtain ⟨p1, p2, p3, p4⟩ := lst_place hsm (i := q) (by omega)
  rw [← hLq] at p1 p2 p3 p4
  have hsmq := hsm0 _ (List.getElem_mem hq)
  have hkN : (rg (ms0.map (·.top)) (q : Int)).n = ms0[q].top.n := by rw [htq]
  have hLl : ms0[q].xss.length = ms0[q].top.n := hok0 _ (List.getElem_mem hq)
  have hLr : ∀ x ∈ ms0[q].xss, x.length ≤ 9223372036854775806 := fun x hx => by have := hsmq.2.2.2 x hx; omega
  have hLn : ms0[q].top.n ≤ 4 := hsmq.2.2.1
  have hLF := LeastForm_c _ _ (rg (ms0.map (·.top)) (q : Int)).c _ ms0[q].xss _ hrq p1.1 (by rw [htq]; exact hcq.1) (by rw [htq]; exact hcq.2)
  rw [p4, p2] at hLF
  refine Ops.mv_int rfl rfl rfl ?_
  refine Ops.nil ?_
  refine thenQ_n ?_
  refine Cd.seq ?_
  refine Cd.region ?_
  refine Ops.mv_sl rfl rfl rfl ?_
  refine Ops.mv_int rfl rfl rfl ?_
  refine Ops.idx hMA16.top.2 rfl rfl rfl (by omega) (by omega) ?_
  refine Ops.ld_ag hMA16.top rfl (by omega) rfl ?_
  refine Ops.call hLF rfl rfl rfl ?_
  rintro _ w17 ⟨A8, c8, rs8, rfl, hrl8, hL8⟩
  have hS17 := hS16.later hL8.below
  have hA17 := hA16.later hL8.below
  refine Ops.mv_tup rfl rfl rfl ?_
  refine Ops.extract rfl rfl rfl ?_
  refine Ops.extract rfl rfl rfl ?_
  refine Ops.new1 (St.refl w17) rfl ?_
  intro A9 w18 hB18
  skip
  refine Ops.st_agg 1 0 hB18 rfl rfl rfl rfl rfl rfl rfl ?_
  intro w19 hB19
  have hB19 : St w17 w19 [Bx 32 1 A9 [.slice A8 ms0[q].xss.length c8]] := hB19
  have hS19 := hS17.later hB19.below
  have hA19 := hA17.later hB19.below
  have hL19 := hL8.later hB19.below
  have hAt := implManiplexAt_c r f (q : Int) w19
  have eL : atL r f (q : Int) = ms0[q].xss := by
    rw [atL, if_neg (by omega), hLq, Int.toNat_natCast, List.getD_eq_getElem?_getD, List.getElem?_eq_getElem (by omega)]
    rfl
  have eK : atK r f (q : Int) = 0 := by
    rw [atK, if_neg (by intro h; rcases h with h | h; exact h hsm; omega), if_neg (by omega)]
  rw [eL, eK] at hAt
  refine Ops.mv_int rfl rfl rfl ?_
  refine Ops.nil ?_
  refine thenQ_n ?_
  refine Cd.seq ?_
  refine Cd.region ?_
  refine Ops.mv_int rfl rfl rfl ?_
  refine Ops.mv_int rfl rfl rfl ?_
  refine Ops.mv_int rfl rfl rfl ?_
  refine Ops.call hAt rfl rfl rfl ?_
  rintro _ w20 ⟨A10, c10, rs10, rfl, hrl10, hT10⟩
  have hS20 := hS19.later hT10.below
  have hA20 := hA19.later hT10.below
  have hL20 := hL19.later hT10.below
  have hB20 := hB19.later hT10.below
  refine Ops.mv_tup rfl rfl rfl ?_
  refine Ops.extract rfl rfl rfl ?_
  refine Ops.extract rfl rfl rfl ?_
  refine Ops.new1 (St.refl w20) rfl ?_
  intro A11 w21 hB21
  skip
  refine Ops.st_agg 1 0 hB21 rfl rfl rfl rfl rfl rfl rfl ?_
  intro w22 hB22
  have hB22 : St w20 w22 [Bx 32 1 A11 [.slice A10 ms0[q].xss.length c10]] := hB22
  have hS22 := hS20.later hB22.below
  have hA22 := hA20.later hB22.below
  have hL22 := hL20.later hB22.below
  have hC22 := hB20.later hB22.below
  have hT22 := hT10.later hB22.below
  have hMA22 := hA22.msR hok0 (List.Sublist.refl _)
  have hrq22 := hMA22.at_ hq
  have hPl := implPlaceOf_c _ _ (rg (ms0.map (·.top)) (q : Int)).c _ ms0[q].xss _ hrq22 (by rw [htq]; exact hcq.1) (by rw [htq]; exact hcq.2)
  rw [p3, p1.k0] at hPl
  refine Ops.mv_int rfl rfl rfl ?_
  refine Ops.nil ?_
  refine thenQ_n ?_
  refine Cd.seq ?_
  refine Cd.region ?_
  refine Ops.mv_sl rfl rfl rfl ?_
  refine Ops.mv_int rfl rfl rfl ?_
  refine Ops.idx hMA22.top.2 rfl rfl rfl (by omega) (by omega) ?_
  refine Ops.ld_ag hMA22.top rfl (by omega) rfl ?_
  refine Ops.call hPl rfl rfl rfl ?_
  rintro _ w23 ⟨rfl, hst23⟩
  have hS23 := hS22.later hst23.below
  have hA23 := hA22.later hst23.below
  have hL23 := hL22.later hst23.below
  have hC23 := hC22.later hst23.below
  have hT23 := hT22.later hst23.below
  have hB23 := hB22.later hst23.below
  have hMA23 := hA23.msR hok0 (List.Sublist.refl _)
  have hrq23 := hMA23.at_ hq
  have hRL : RowsI w23 A8 ms0[q].xss.length rs8 ms0[q].xss := (St.rowsI (ks := []) (by rwa [List.append_nil]) rfl)
  have hRT : RowsI w23 A10 ms0[q].xss.length rs10 ms0[q].xss := (St.rowsI (ks := []) (by rwa [List.append_nil]) rfl)
  have hln : ms0[q].xss.length ≤ 9223372036854775806 := by omega
  refine Ops.mv_tup rfl rfl rfl ?_
  refine Ops.extract rfl rfl rfl ?_
  refine Ops.extract rfl rfl rfl ?_
  refine Ops.mv_int rfl rfl rfl ?_
  refine Ops.mv_int rfl rfl rfl ?_
  refine Ops.nil ?_
  refine thenQ_n ?_
  refine Cd.seq ?_
  refine Cd.draw [.ex (.int .i64 (0)), .ex (.bool (true)), .ex (.bool (true)), .ex (.int .i64 (0)), .ex (.bool (true)), .ex (.bool (true)), .ex (.bool (true)), .ex (.int .i64 (0)), .ex (.bool (true)), .ex (.bool (true)), .ex (.bool (true)), .ex (.int .i64 (((q : Nat) : Int))), .ex (.int .i64 ((q : Int))), .ex (.bool (true)), .ex (.bool (true)), .ex (.bool (true)), .ex (.agg #[.slice (A8) (ms0[q].xss.length) (c8)]), .ex (.slice (A0) (ms0.length) (c0)), .ex (.int .i64 ((q : Int))), .ex (.pointer (ptrAt (A0) ((q : Int)).toNat)), .ex (.agg #[.slice (rg (ms0.map (·.top)) ((q : Int))).a (rg (ms0.map (·.top)) ((q : Int))).n (rg (ms0.map (·.top)) ((q : Int))).c]), .ex (.bool (true)), .ex (.bool (true)), .ex (.bool (true)), .ex (.agg #[.slice (A10) (ms0[q].xss.length) (c10)]), .ex (.slice (A0) (ms0.length) (c0)), .ex (.int .i64 ((q : Int))), .ex (.pointer (ptrAt (A0) ((q : Int)).toNat)), .ex (.agg #[.slice (rg (ms0.map (·.top)) ((q : Int))).a (rg (ms0.map (·.top)) ((q : Int))).n (rg (ms0.map (·.top)) ((q : Int))).c]), .ex (.bool (true)), .ex (.bool (true)), .ex (.bool (true))] (by kernel_rfl) (by kernel_rfl) rfl (List.forall_mem_cons.2 ⟨Yd.lasts_ex _, (List.forall_mem_cons.2 ⟨Yd.lasts_ex _, (List.forall_mem_cons.2 ⟨Yd.lasts_ex _, (List.forall_mem_cons.2 ⟨Yd.lasts_ex _, (List.forall_mem_cons.2 ⟨Yd.lasts_ex _, (List.forall_mem_cons.2 ⟨Yd.lasts_ex _, (List.forall_mem_cons.2 ⟨Yd.lasts_ex _, (List.forall_mem_cons.2 ⟨Yd.lasts_ex _, (List.forall_mem_cons.2 ⟨Yd.lasts_ex _, (List.forall_mem_cons.2 ⟨Yd.lasts_ex _, (List.forall_mem_cons.2 ⟨Yd.lasts_ex _, (List.forall_mem_cons.2 ⟨Yd.lasts_ex _, (List.forall_mem_cons.2 ⟨Yd.lasts_ex _, (List.forall_mem_cons.2 ⟨Yd.lasts_ex _, (List.forall_mem_cons.2 ⟨Yd.lasts_ex _, (List.forall_mem_cons.2 ⟨Yd.lasts_ex _, (List.forall_mem_cons.2 ⟨Yd.lasts_ex _, (List.forall_mem_cons.2 ⟨Yd.lasts_ex _, (List.forall_mem_cons.2 ⟨Yd.lasts_ex _, (List.forall_mem_cons.2 ⟨Yd.lasts_ex _, (List.forall_mem_cons.2 ⟨Yd.lasts_ex _, (List.forall_mem_cons.2 ⟨Yd.lasts_ex _, (List.forall_mem_cons.2 ⟨Yd.lasts_ex _, (List.forall_mem_cons.2 ⟨Yd.lasts_ex _, (List.forall_mem_cons.2 ⟨Yd.lasts_ex _, (List.forall_mem_cons.2 ⟨Yd.lasts_ex _, (List.forall_mem_cons.2 ⟨Yd.lasts_ex _, (List.forall_mem_cons.2 ⟨Yd.lasts_ex _, (List.forall_mem_cons.2 ⟨Yd.lasts_ex _, (List.forall_mem_cons.2 ⟨Yd.lasts_ex _, (List.forall_mem_cons.2 ⟨Yd.lasts_ex _, (List.forall_mem_cons.2 ⟨Yd.lasts_ex _, (fun _ h => by cases h)⟩)⟩)⟩)⟩)⟩)⟩)⟩)⟩)⟩)⟩)⟩)⟩)⟩)⟩)⟩)⟩)⟩)⟩)⟩)⟩)⟩)⟩)⟩)⟩)⟩)⟩)⟩)⟩)⟩)⟩)⟩)⟩) ⟨?_, ?_, ?_, ?_, ?_, ?_, ?_, ?_, ?_, ?_, ?_, ?_, ?_, ?_, ?_, ?_, ?_, ?_, ?_, ?_, ?_, ?_, ?_, ?_, ?_, ?_, ?_, ?_, ?_, ?_, ?_, ?_, trivial⟩ ?_
  · intro e1 w1 hb hp hun
    refine Ops.mv_int rfl rfl rfl ?_
    refine Ops.nil ?_
    exact After.dn (Below.refl _ _) (by exact rfl)
  · intro e1 w1 hb hp hun
    refine Ops.eql rfl rfl rfl ?_
    refine Ops.nil ?_
    exact After.dn (Below.refl _ _) (by exact congrArg Value.bool ((decide_eq_true rfl)))
  · intro e1 w1 hb hp hun
    refine Ops.mv_bool rfl rfl rfl ?_
    refine Ops.nil ?_
    exact After.dn (Below.refl _ _) (by exact rfl)
  · intro e1 w1 hb hp hun
    refine Ops.rung rfl rfl rfl ?_
    refine Ops.mv_int rfl rfl rfl ?_
    refine Ops.nil ?_
    exact After.dn (Below.refl _ _) (by exact rfl)
  · intro e1 w1 hb hp hun
    refine Ops.rung rfl rfl rfl ?_
    refine Ops.eql rfl rfl rfl ?_
    refine Ops.nil ?_
    exact After.dn (Below.refl _ _) (by exact congrArg Value.bool ((decide_eq_true rfl)))
  · intro e1 w1 hb hp hun
    refine Ops.pick_t rfl rfl rfl ?_
    refine Ops.nil ?_
    exact After.dn (Below.refl _ _) (by exact rfl)
  · intro e1 w1 hb hp hun
    refine Ops.mv_bool rfl rfl rfl ?_
    refine Ops.nil ?_
    exact After.dn (Below.refl _ _) (by exact rfl)
  · intro e1 w1 hb hp hun
    refine Ops.rung rfl rfl rfl ?_
    refine Ops.mv_int rfl rfl rfl ?_
    refine Ops.nil ?_
    exact After.dn (Below.refl _ _) (by exact rfl)
  · intro e1 w1 hb hp hun
    refine Ops.rung rfl rfl rfl ?_
    refine Ops.eql rfl rfl rfl ?_
    refine Ops.nil ?_
    exact After.dn (Below.refl _ _) (by exact congrArg Value.bool ((decide_eq_true rfl)))
  · intro e1 w1 hb hp hun
    refine Ops.pick_t rfl rfl rfl ?_
    refine Ops.nil ?_
    exact After.dn (Below.refl _ _) (by exact rfl)
  · intro e1 w1 hb hp hun
    refine Ops.mv_bool rfl rfl rfl ?_
    refine Ops.nil ?_
    exact After.dn (Below.refl _ _) (by exact rfl)
  · intro e1 w1 hb hp hun
    refine Ops.rung rfl rfl rfl ?_
    refine Ops.mv_int rfl rfl rfl ?_
    refine Ops.nil ?_
    exact After.dn (Below.refl _ _) (by exact rfl)
  · intro e1 w1 hb hp hun
    refine Ops.rung rfl rfl rfl ?_
    refine Ops.mv_int rfl rfl rfl ?_
    refine Ops.nil ?_
    exact After.dn (Below.refl _ _) (by exact rfl)
  · intro e1 w1 hb hp hun
    refine Ops.rung rfl rfl rfl ?_
    refine Ops.eql rfl rfl rfl ?_
    refine Ops.nil ?_
    exact After.dn (Below.refl _ _) (by exact congrArg Value.bool ((decide_eq_true rfl)))
  · intro e1 w1 hb hp hun
    refine Ops.pick_t rfl rfl rfl ?_
    refine Ops.nil ?_
    exact After.dn (Below.refl _ _) (by exact rfl)
  · intro e1 w1 hb hp hun
    refine Ops.mv_bool rfl rfl rfl ?_
    refine Ops.nil ?_
    exact After.dn (Below.refl _ _) (by exact rfl)
  · intro e1 w1 hb hp hun
    refine Ops.rung rfl rfl rfl ?_
    refine Ops.ld_agg 0 ((hC23.rd 0 rfl).below hb) rfl rfl rfl ?_
    refine Ops.nil ?_
    exact After.dn (Below.refl _ _) (by exact rfl)
  · intro e1 w1 hb hp hun
    refine Ops.rung rfl rfl rfl ?_
    refine Ops.mv_sl rfl rfl rfl ?_
    refine Ops.nil ?_
    exact After.dn (Below.refl _ _) (by exact rfl)
  · intro e1 w1 hb hp hun
    refine Ops.rung rfl rfl rfl ?_
    refine Ops.mv_int rfl rfl rfl ?_
    refine Ops.nil ?_
    exact After.dn (Below.refl _ _) (by exact rfl)
  · intro e1 w1 hb hp hun
    refine Ops.rung rfl rfl rfl ?_
    refine Ops.idx (hMA23.top.later hb).2 rfl rfl rfl (by omega) (by omega) ?_
    refine Ops.nil ?_
    exact After.dn (Below.refl _ _) (by exact rfl)
  · intro e1 w1 hb hp hun
    refine Ops.rung rfl rfl rfl ?_
    refine Ops.ld_ag (hMA23.top.later hb) rfl (by omega) rfl ?_
    refine Ops.nil ?_
    exact After.dn (Below.refl _ _) (by exact rfl)
  · intro e1 w1 hb hp hun
    refine Ops.rung rfl rfl rfl ?_
    refine Ops.call (equal9_c _ _ _ _ _ _ _ _ _ _ _ (hRL.later hb) (hrq23.later hb) hln hLr) rfl rfl rfl ?_
    rintro _ w2 ⟨rfl, hst⟩
    refine Ops.nil ?_
    exact After.dn hst.below (by exact congrArg Value.bool ((decide_eq_true rfl)))
  · intro e1 w1 hb hp hun
    refine Ops.pick_t rfl rfl rfl ?_
    refine Ops.nil ?_
    exact After.dn (Below.refl _ _) (by exact rfl)
  · intro e1 w1 hb hp hun
    refine Ops.mv_bool rfl rfl rfl ?_
    refine Ops.nil ?_
    exact After.dn (Below.refl _ _) (by exact rfl)
  · intro e1 w1 hb hp hun
    refine Ops.rung rfl rfl rfl ?_
    refine Ops.ld_agg 0 ((hB23.rd 0 rfl).below hb) rfl rfl rfl ?_
    refine Ops.nil ?_
    exact After.dn (Below.refl _ _) (by exact rfl)
  · intro e1 w1 hb hp hun
    refine Ops.rung rfl rfl rfl ?_
    refine Ops.mv_sl rfl rfl rfl ?_
    refine Ops.nil ?_
    exact After.dn (Below.refl _ _) (by exact rfl)
  · intro e1 w1 hb hp hun
    refine Ops.rung rfl rfl rfl ?_
    refine Ops.mv_int rfl rfl rfl ?_
    refine Ops.nil ?_
    exact After.dn (Below.refl _ _) (by exact rfl)
  · intro e1 w1 hb hp hun
    refine Ops.rung rfl rfl rfl ?_
    refine Ops.idx (hMA23.top.later hb).2 rfl rfl rfl (by omega) (by omega) ?_
    refine Ops.nil ?_
    exact After.dn (Below.refl _ _) (by exact rfl)
  · intro e1 w1 hb hp hun
    refine Ops.rung rfl rfl rfl ?_
    refine Ops.ld_ag (hMA23.top.later hb) rfl (by omega) rfl ?_
    refine Ops.nil ?_
    exact After.dn (Below.refl _ _) (by exact rfl)
  · intro e1 w1 hb hp hun
    refine Ops.rung rfl rfl rfl ?_
    refine Ops.call (equal9_c _ _ _ _ _ _ _ _ _ _ _ (hRT.later hb) (hrq23.later hb) hln hLr) rfl rfl rfl ?_
    rintro _ w2 ⟨rfl, hst⟩
    refine Ops.nil ?_
    exact After.dn hst.below (by exact congrArg Value.bool ((decide_eq_true rfl)))
  · intro e1 w1 hb hp hun
    refine Ops.pick_t rfl rfl rfl ?_
    refine Ops.nil ?_
    exact After.dn (Below.refl _ _) (by exact rfl)
  · intro e1 w1 hb hp hun
    refine Ops.mv_bool rfl rfl rfl ?_
    refine Ops.nil ?_
    exact After.dn (Below.refl _ _) (by exact rfl)
  intro u w24 hb24 _
  refine thenQ_n ?_
  refine Cd.ret ?_
  refine ret1_b rfl ?_
  exact ⟨rfl, hS23.later hb24⟩
end Go.Proofs.YtjpkmpihmilgoaaGreat.Vc
/-
  A statement's frame: the arguments opened, and what a walk gives told in the statement's own words. Conditions: as each states them.
-/
namespace Go.Proofs.YtjpkmpihmilgoaaGreat.Vc
open Go.RowKit Go.ChangeShapes Go.WideShapes

theorem laid : laidOutB Tryz.prog = true := by kernel_rfl
theorem own : ownKnob Tryz.prog.godebug = none := by kernel_rfl

section
variable {H : Type} {enc : TypeId × Value → H} {P : Program}
theorem trodAll_stays (hl : laidOutB P = true) {W W' : World} (hb : Below W.heap.size W W') {sp : Nat → Bool} : ∀ {ts : List TypeId} {vs : List Value} {ds : List (DataW H)} {ps : List MemPlace}, (ts.all fun t => P.readableRec t && Nat.blt t P.types.size) = true → (∀ p ∈ ps, p.block < W.heap.size) → (∀ p ∈ ps, sp p.block = true) →
    DataW.TrodAll enc P W 0 (fun _ => true) true ts vs ds ps → DataW.TrodAll enc P W' 0 sp true ts vs ds ps
  | [], [], [], _, _, _, _, h => h
  | t :: ts, v :: vs, d :: ds, ps, hr, hlt, hsp, h => by
    obtain ⟨p, q, h1, h2, rfl⟩ := h
    simp only [List.all_cons, Bool.and_eq_true] at hr
    exact ⟨p, q, WideElems.Trod_stays hl hr.1.1 (by simpa [Nat.blt_eq] using hr.1.2) h1 (fun x hx => hb.same (hlt x (by simp [hx]))) (fun x hx => hsp x (by simp [hx])), trodAll_stays hl hb hr.2 (fun x hx => hlt x (by simp [hx])) (fun x hx => hsp x (by simp [hx])) h2, rfl⟩
  | [], [], _ :: _, _, _, _, _, h => h.elim
  | [], _ :: _, _, _, _, _, _, h => by cases h
  | _ :: _, [], _, _, _, _, _, h => by cases h
  | _ :: _, _ :: _, [], _, _, _, _, h => by cases h

/-- what a law's walk gives, in its statement's words: it returns true, and its arguments read as they did -/
theorem post_law {f : Func} {s : ChangeSpec} {apart : Bool} {W W' : World} {args : Array Value} {ds gs : List (DataW H)} {before : List MemPlace} (hl : laidOutB P = true) {b : TypeId} (hu : P.underlying b = some .bool) (hres : f.resultTypes = #[b]) (hv : s.vars = [])
    (hr : (f.params.toList.all fun t => P.readableRec t && Nat.blt t P.types.size) = true) (hfn : (s.fn H (ds ++ gs)).results = [.lit (.bool true)] ∧ (s.fn H (ds ++ gs)).args = ds ∧ (s.fn H (ds ++ gs)).vars = [])
    (hW : DataW.Whole enc P f.params.toList s.vars apart W args.toList ds gs before) (hb : Below W.heap.size W W') : s.post enc P f apart true false false W args (.bool true) W' := by
  have hlt : ∀ x ∈ before, x.block < W.heap.size := fun x hx => hW.lt x hx
  have hW0 := hW
  obtain ⟨p, q, hA, hV, rfl, hz, hn⟩ := hW
  rw [hv] at hV
  obtain ⟨rfl, rfl⟩ := trodVars_none hV
  have hlp : ∀ x ∈ p, x.block < W.heap.size := fun x hx => hlt x (by simp [hx])
  have hA' : ∀ sp : Nat → Bool, (∀ x ∈ p, sp x.block = true) → DataW.TrodAll enc P W' 0 sp true f.params.toList args.toList (s.fn H (ds ++ [])).args p := fun sp hsp => by
    rw [hfn.2.1]
    exact trodAll_stays hl hb hr hlp hsp hA
  have hR' : ∀ (b0 : Nat) (sp : Nat → Bool) (hd : Bool), DataW.TrodAll enc P W' b0 sp hd f.resultTypes.toList ((Value.bool true).resultList f.resultTypes.size) (s.fn H (ds ++ [])).results [] := fun b0 sp hd => by
    rw [hfn.1, hres]
    exact trodAll_cons_mk (shut_bool hu _) trodAll_mk0
  have hV' : ∀ sp : Nat → Bool, DataW.TrodVars enc P W' sp s.vars (s.fn H (ds ++ [])).vars [] := fun sp => by
    rw [hfn.2.2, hv]; rfl
  refine ⟨ds, [], p ++ [], [], p, [], hW0, hR' _ _ _, hA' _ (fun x hx => by simpa using hlp x hx), hV' _, World.keptBut_mono (fun x hx => ⟨hx, by simpa using hx⟩) (hb.frame (· ∈ p ++ [])), fun _ => ⟨fun j t r h1 h2 => ?_, _, _, ([] ++ p) ++ [], ⟨[] ++ p, [], trodAll_append (hA' _ fun _ _ => rfl) (hR' _ _ _), hV' _, rfl, fun c off hc => ?_, fun ha => by simpa using hn ha⟩, fun x hx _ => by simpa using hx⟩⟩
  · rw [hres] at h1 h2
    cases j with
    | zero =>
      simp at h1
      subst h1
      simp [Value.resultList] at h2
      subst h2
      exact okWide_bool_mk hu _
    | succ j => simp at h1
  · have hin : MemPlace.cell c off ∈ p ++ [] := by simpa using hc
    rw [hb.frozen (hlt _ hin)]
    exact hz c off hin
end
end Go.Proofs.YtjpkmpihmilgoaaGreat.Vc
/-
  Arguments opened: a struct of one matrix, a list of integers. Conditions: as each states them.
-/
namespace Go.Proofs.YtjpkmpihmilgoaaGreat.Vc
open Go.RowKit Go.ChangeShapes Go.WideShapes

section
variable {H : Type} {enc : TypeId × Value → H} {P : Program}
end
end Go.Proofs.YtjpkmpihmilgoaaGreat.Vc
/-
  An argument that is a list of bytes, opened. Conditions: as stated.
-/
namespace Go.Proofs.YtjpkmpihmilgoaaGreat.Vc
open Go.RowKit Go.ChangeShapes Go.WideShapes
section
variable {H : Type} {enc : TypeId × Value → H} {P : Program}
theorem open_ybs {w : World} {r : Go.Reach} {b0 : Nat} {t e : TypeId} {v : Value} {d : DataW H} {p : List MemPlace} (ht : P.underlying t = some (.slice e)) (he : P.underlying e = some (.int .u8)) (ce : P.cellsOf e = 1)
    (hval : Value.okWide P w r b0 t v) (h : DataW.Trod enc P w 0 (fun _ => true) true t v d p) : ∃ A n c bs, v = .slice A n c ∧ RdY w A n bs ∧ n ≤ c ∧ c ≤ 9223372036854775807 := by
  obtain ⟨a, len, cap, rfl⟩ := okWide_slice ht hval
  obtain ⟨fuel, hf⟩ := h
  have hcs : (Value.slice a len cap).cells.toList = [Value.slice a len cap] := rfl
  rw [hcs] at hf
  rcases open_ints ht he ce hf with ⟨h1, _⟩ | ⟨b, n, c, zs, h1, _, hl, hm, hz, _, hc, hwz⟩
  · simp only [List.cons.injEq, and_true] at h1
    exact ⟨none, 0, 0, [], h1, ⟨rfl, fun x hx => (nomatch hx), fun k hk => absurd hk (Nat.not_lt_zero _)⟩, Nat.le_refl _, by omega⟩
  · simp only [List.cons.injEq, and_true] at h1
    rw [if_pos rfl] at hz
    refine ⟨some b, n, c, zs.take n, h1, ⟨?_, fun x hx => ?_, fun k hk => ?_⟩, hl, by simpa [maxLen] using hm⟩
    · simp; omega
    · have := hwz x (List.mem_of_mem_take hx)
      simpa [Lit.wf, IntKind.min, IntKind.max, IntKind.signed, IntKind.bits] using this
    · refine ⟨b.add k, rfl, ?_⟩
      rw [hc k (by omega)]
      simp [List.getD_eq_getElem?_getD, List.getElem?_take, hk]
end
end Go.Proofs.YtjpkmpihmilgoaaGreat.Vc
