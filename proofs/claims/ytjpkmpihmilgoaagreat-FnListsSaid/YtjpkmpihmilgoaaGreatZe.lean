/-
  The texts Srt, C3, C4, C5, C6, Uti, F3, F4, L02, Lst, F5, K1, G6 in one. Conditions: as each part states them.
-/
import Derived.Test.YtjpkmpihmilgoaaGreatLay
import Derived.Shelf.SortM.Plain
import Derived.Test.YtjpkmpihmilgoaaGreatZd
import Derived.Test.YtjpkmpihmilgoaaGreatInst
import Derived.Test.YtjpkmpihmilgoaaGreatZb
import Derived.Test.YtjpkmpihmilgoaaGreatZc
/-
  The library's sort of a list of one's own. Conditions: the list has an element.
-/
namespace Go.Proofs.YtjpkmpihmilgoaaGreat.Vc
open Go.RowKit Go.Sort

end Go.Proofs.YtjpkmpihmilgoaaGreat.Vc
/-
  The walks of the program's permutations that words do, and of their cycles. Conditions: as each states them.
-/
namespace Go.Proofs.YtjpkmpihmilgoaaGreat.Vc
open Go.RowKit

def idL (n : Nat) : List Int := (List.range n).map fun x : Nat => (x : Int)
def thenL (p q : List Int) : List Int := p.map fun x => gi q x
end Go.Proofs.YtjpkmpihmilgoaaGreat.Vc
/-
  The walks of the program's lengths of a word. Conditions: as each states them.
-/
namespace Go.Proofs.YtjpkmpihmilgoaaGreat.Vc
open Go.RowKit

end Go.Proofs.YtjpkmpihmilgoaaGreat.Vc
/-
  The walks of the lengths of cycles, and of the Petrie word's lengths on both sides. Conditions: as each states them.
-/
namespace Go.Proofs.YtjpkmpihmilgoaaGreat.Vc
open Go.RowKit

/-- the lengths of a word of a maniplex -/
def wordL (xss : List (List Int)) (ws : List Int) : List Int := srt (lenAll (doesL xss (gl xss 0).length ws) (gl xss 0).length)
/-- the answer: a list of numbers in memory of its own, and a code -/
def AnsR (L : List Int) (K : Int) (w : World) (v : Value) (w' : World) : Prop := ∃ A' c', v = .tuple #[.slice A' L.length c', .int .i64 K] ∧ St w w' [CkI 2 A' L.length c' L]
theorem AnsR.none {w w' : World} {ks : List Ck} {K : Int} (h : St w w' ks) : AnsR [] K w (.tuple #[.slice Option.none 0 0, .int .i64 K]) w' := ⟨Option.none, 0, rfl, h.none.nil _⟩
def petrieL (xss : List (List Int)) : List Int := if Grph xss then wordL xss (idL xss.length) else []
def petrieK (xss : List (List Int)) : Int := if Grph xss then 0 else 1

end Go.Proofs.YtjpkmpihmilgoaaGreat.Vc
/-
  The walks of the laws' marks, which tell memory apart. Conditions: as each states them.
-/
namespace Go.Proofs.YtjpkmpihmilgoaaGreat.Vc
open Go.RowKit

theorem set_id {α : Type} {l : List α} {i : Nat} {x : α} (h : l[i]? = some x) : l.set i x = l := by
  apply List.ext_getElem?
  intro j
  rw [List.getElem?_set]
  split
  · rename_i e; subst e
    rw [if_pos (List.getElem?_eq_some_iff.1 h).1, h]
  · rfl
theorem Rd.one {w : World} {A : Option Addr} {n : Nat} {f : Nat → Value} (h : Rd w A (n + 1) f) : Rd w A 1 (fun _ => f 0) := fun j hj => by
  obtain rfl : j = 0 := by omega
  exact h 0 (by omega)

/-- the marks from k on -/
def marks (k : Int) (n : Nat) : List Int := (List.range n).map fun j : Nat => k + (j : Int)
end Go.Proofs.YtjpkmpihmilgoaaGreat.Vc
/-
  Small rules and lemmas that several walks share. Conditions: as each states them.
-/
namespace Go.Proofs.YtjpkmpihmilgoaaGreat.Vc
open Go.RowKit
section
variable {P : Program} {N : Nat} {ops : Array Oper} {K : Env → World → Prop} {rest : List Oper} {e : Env} {w : World} {d : Nat} {ty : TypeId} {pos : String} {af : Array Edge}
theorem Ops.fn1 {F : FuncId} {x : Operand} {v1 : Value} (hx : ev e x = v1) (hb : Nat.blt d N = true) (hK : Ops P N ops K rest (upd e d (.func (.func F) #[] #[v1])) w) :
    Ops P N ops K (⟨some d, .makeFunc (.func F) #[] #[x], ty, pos, af, none⟩ :: rest) e w :=
  .val (by simp [execOp, Instr.makeFunc, hx]) hb hK
theorem Ops.neqNil {t t' el : TypeId} [Und P t (.slice el)] {x y : Operand} {A : Option Addr} {n c : Nat} (hx : ev e x = .slice A n c) (hy : ev e y = .slice none 0 0) (hb : Nat.blt d N = true) (hK : Ops P N ops K rest (upd e d (.bool (!A.isNone))) w) :
    Ops P N ops K (⟨some d, .binOp .neq t x y t', ty, pos, af, none⟩ :: rest) e w := by
  have hr : (Op.equal t (.slice A n c) (.slice none 0 0)).run P w = .ok A.isNone w := by
    show (Op.equalIn (9999 + 1) t (.slice A n c) (.slice none 0 0)).run P w = _
    rw [Op.equalIn]
    cases A <;> simp [run_underlying (Und.out (P := P) (t := t))]
  exact .val (by simp [execOp, hx, hy, eqGuard, binOp, hr]) hb hK
end

theorem gi_drop (l : List Int) (i : Nat) : gi (l.drop i) 0 = gi l (i : Int) := by simp [gi, List.getD_eq_getElem?_getD, List.getElem?_drop]

/-- a list of one's own, cut at its head -/
theorem St.cutl {w0 w : World} {ks : List Ck} {i : Nat} {t : TypeId} {A : Option Addr} {n c l : Nat} {xs : List Int} (hS : St w0 w ks) (hk : ks[i]? = some (CkI t A n c xs)) (hl : l ≤ n) : St w0 w (ks.set i (CkI t (cutAt A c l) (n - l) (c - l) (xs.drop l))) := by
  have hxl := hS.lenI i hk
  obtain ⟨h1, h2, h3, h4⟩ := hS.getC hk (isM_I _)
  have h2 : n ≤ c := h2
  have h3 : c ≤ maxLen := h3
  rcases h4 with ⟨hA, hc0⟩ | ⟨g, o, cur, hA, hg, hh, hs, hc⟩
  · have hA : A = Option.none := hA
    have hc0 : c = 0 := hc0
    subst hA hc0
    obtain rfl : n = 0 := by omega
    obtain rfl : l = 0 := by omega
    obtain rfl := List.eq_nil_of_length_eq_zero hxl
    have e : cutAt Option.none 0 0 = Option.none := rfl
    rw [e]
    show St w0 w (ks.set i (CkI t Option.none 0 0 []))
    rw [set_id hk]
    exact hS
  · have hA : A = some ⟨g, o, Option.none⟩ := hA
    have hs : o + c ≤ cur.size := hs
    have hh : w.heap[g]? = some (.cells cur t (0, 0)) := hh
    have hc : ∀ j, j < n → cur[o + j]? = (xs.map (Value.int .i64))[j]? := hc
    subst hA
    have hcut : ∃ o', cutAt (some ⟨g, o, Option.none⟩) c l = some ⟨g, o', Option.none⟩ ∧ o' + (c - l) ≤ cur.size ∧ (0 < n - l → o' = o + l) := by
      unfold cutAt
      split
      · exact ⟨o, rfl, by omega, fun h => by omega⟩
      · exact ⟨o + l, by simp [ptrAt, add_none], by omega, fun _ => rfl⟩
    obtain ⟨o', e1, e2, e3⟩ := hcut
    refine hS.turn hk rfl (by simp [Ck.blk, e1]) ⟨⟨rfl, rfl, rfl, Nat.le_refl _, fun _ _ _ => rfl⟩, Nat.le_refl _⟩ (.ofC (isM_I _) ⟨by simp [hxl], by show n - l ≤ c - l; omega, by show c - l ≤ maxLen; omega, .inr ⟨g, o', cur, e1, hg, hh, e2, fun j hj => ?_⟩⟩)
    have hj : j < n - l := hj
    show cur[o' + j]? = ((xs.drop l).map (Value.int .i64))[j]?
    rw [e3 (Nat.zero_lt_of_lt hj), Nat.add_assoc, hc (l + j) (Nat.add_lt_of_lt_sub' hj)]
    simp [List.getElem?_drop]


theorem pin2 (u : Nat → Value) {i j : Nat} {v w : Value} (h : u i = v) (h' : u j = w) : u = fun k => if k = i then v else if k = j then w else u k := by
  funext k
  split
  · rename_i e; rw [e, h]
  · split
    · rename_i e; rw [e, h']
    · rfl


theorem Mani.all {xss : List (List Int)} (hM : Mani xss) {f : Int} (h0 : 0 ≤ f) (h1 : f < (gl xss 0).length) : Reach xss 0 f :=
  (orbit_all hM.2.2.1.sys (by have := hM.2.1; omega)).1 hM.2.2.2.2 f h0 h1

theorem Mani.any {xss : List (List Int)} (hM : Mani xss) {f g : Int} (h0 : 0 ≤ f) (h1 : f < (gl xss 0).length) (h2 : 0 ≤ g) (h3 : g < (gl xss 0).length) : Reach xss f g :=
  ((hM.all h0 h1).symm hM.2.2.1.sys hM.2.2.1.inj (by omega) (by have := hM.2.1; omega)).trans (hM.all h2 h3)
end Go.Proofs.YtjpkmpihmilgoaaGreat.Vc
/-
  The walks of the program's forms, and of comparisons on both sides. Conditions: as each states them.
-/
namespace Go.Proofs.YtjpkmpihmilgoaaGreat.Vc
open Go.RowKit

theorem rowF_len (o b mv : List Int) : (rowF o b mv).length = o.length := by simp [rowF]
theorem rowF_take {o b mv : List Int} {k : Nat} (hk : k < o.length) : (rowF o b mv).take (k + 1) = (rowF o b mv).take k ++ [gi b (gi mv (gi o (k : Int)))] := by
  rw [List.take_succ_eq_append_getElem (by rw [rowF_len]; exact hk), gi_mem hk]
  simp [rowF]

theorem formFrom_c (A : Option Addr) (n c : Nat) (rs : List SlV) (xss : List (List Int)) (N : Nat) (f : Int) (w : World) (hR : RowsI w A n rs xss) (hM : Mani xss) (hN : N = (gl xss 0).length) (h0 : 0 ≤ f) (hf : f < N) :
    Ret Tryz.prog 110 [.slice A n c, .int .i64 f] w (fun v w' => ∃ A' c' rs', v = .agg #[.slice A' n c'] ∧ rs'.length = n ∧ St w w' (mat 34 2 A' n c' rs' (formL N xss f))) := by
  subst hN
  have hP := hM.prm h0 hf
  have hs := hM.2.2.1.sys
  have h5 := hM.1
  have h40 := hM.2.1
  have hxl := hR.len
  have hr0 : (gl xss 0).length = (rg rs 0).n := hR.rowLen (by omega) (by omega)
  have hform : formL (gl xss 0).length xss f = xss.map fun mv => rowF (orbit (gl xss 0).length xss f) (backI (gl xss 0).length (orbit (gl xss 0).length xss f)) mv := rfl
  have hbk : ∀ x : Int, 0 ≤ x → x < ((gl xss 0).length : Int) → 0 ≤ gi (backI (gl xss 0).length (orbit (gl xss 0).length xss f)) x ∧ gi (backI (gl xss 0).length (orbit (gl xss 0).length xss f)) x < ((gl xss 0).length : Int) := fun x h0 h1 => by
    obtain ⟨k, hk, _, hb⟩ := hP.backR h0 h1
    omega
  have hbl := backI_len (gl xss 0).length (orbit (gl xss 0).length xss f)
  have hbe : backI (gl xss 0).length (orbit (gl xss 0).length xss f) = scat (List.replicate (gl xss 0).length 0) (fun k => gi (orbit (gl xss 0).length xss f) k) (fun k => (k : Int)) (gl xss 0).length := by
    unfold backI; rw [hP.len]
  have hnum := numberedFrom_c A n c rs xss (gl xss 0).length f
  generalize hNe : (gl xss 0).length = N at *
  generalize hoe : orbit N xss f = o at *
  generalize hb0 : backI N o = b at *
  have hol := hP.len
  have hrow : ∀ k : Nat, k < N → 0 ≤ gi o (k : Int) ∧ gi o (k : Int) < N := fun k hk => hP.rng hk
  rw [hform]
  refine Ret.of_cd Tryz.func110 rfl Tryz.ntmps110 rfl (postc rfl rfl) ?_
  refine Cd.seq ?_
  refine Cd.region ?_
  refine Ops.new1 (St.refl w) rfl ?_
  intro Ac w1 hS1
  refine Ops.nil ?_
  refine thenQ_n ?_
  refine Cd.seq ?_
  refine Cd.region ?_
  refine Ops.mv_sl rfl rfl rfl ?_
  refine Ops.mv_int rfl rfl rfl ?_
  refine Ops.call (hnum _ (hS1.oldRows hR) (by omega) (by omega) hs (by omega) h0 hf) rfl rfl rfl ?_
  rintro _ w2 ⟨Ao, co, rfl, hst⟩
  rw [hol] at hst ⊢
  have hS2 := hS1.call hst
  have hR2 := hS2.oldRows hR
  refine Ops.mv_sl rfl rfl rfl ?_
  refine Ops.nil ?_
  refine thenQ_n ?_
  refine Cd.seq ?_
  refine Cd.region ?_
  refine Ops.mv_sl rfl rfl rfl ?_
  refine Ops.idx hR2.top.2 rfl rfl rfl (by omega) (by omega) ?_
  refine Ops.ld_sl hR2.top rfl (by omega) rfl rfl ?_
  refine Ops.len rfl rfl ?_
  refine Ops.mkI N hS2 (by rw [← hr0]; rfl) rfl (by omega) ?_
  intro A6 w3 hS3
  refine Ops.mv_sl rfl rfl rfl ?_
  refine Ops.nil ?_
  refine thenQ_n ?_
  refine Cd.seq ?_
  refine Cd.seq ?_
  refine Cd.region ?_
  refine Ops.mv_sl rfl rfl rfl ?_
  refine Ops.len rfl rfl ?_
  refine Ops.mv_int rfl rfl rfl ?_
  refine Ops.nil ?_
  refine thenQ_n ?_
  refine Cd.block ?_
  refine Cd.loop (α := Nat) (fun k => [(0, .slice A n c), (4, .pointer Ac), (5, .slice Ao N co), (6, .slice A6 N N), (23, .slice Ao N co), (24, .int .i64 (N : Int)), (25, .int .i64 (k : Int))]) (fun k w' => St w w' [CkI 2 A6 N N (scat (List.replicate N 0) (fun k => gi o k) (fun k => (k : Int)) k), CkI 2 Ao N co o, Bx 32 1 Ac [.slice none 0 0]] ∧ k ≤ N) (fun k => N - k) 0 ⟨rfl, rfl, rfl, by rw [← hr0]; rfl, rfl, rfl, rfl, trivial⟩ ⟨hS3, Nat.zero_le _⟩ ?_
  rintro k e w4 ⟨hS4, hk⟩
  have hO4 := hS4.rdI 1 rfl
  refine Cd.seq ?_
  refine Cd.region ?_
  refine Ops.lss rfl rfl rfl ?_
  refine Ops.nil ?_
  refine thenQ_n ?_
  refine Cd.seq ?_
  refine Cd.cond_p _ rfl (fun h1 => ?_) (fun h1 => ?_)
  · have hok := hrow k (by omega)
    refine Cd.skip ?_
    refine thenQ_n ?_
    refine Cd.seq ?_
    refine Cd.block ?_
    refine Cd.seq ?_
    refine Cd.region ?_
    refine Ops.mv_int rfl rfl rfl ?_
    refine Ops.idx hO4.2 rfl rfl rfl (by omega) (by omega) ?_
    refine Ops.ld_int hO4 rfl (by omega) rfl rfl ?_
    refine Ops.mv_int rfl rfl rfl ?_
    refine Ops.mv_int rfl rfl rfl ?_
    refine Ops.nil ?_
    refine thenQ_n ?_
    refine Cd.region ?_
    refine Ops.mv_sl rfl rfl rfl ?_
    refine Ops.mv_int rfl rfl rfl ?_
    refine Ops.mv_int rfl rfl rfl ?_
    refine Ops.idx (hS4.rdI 0 rfl).2 rfl rfl rfl (by omega) (by omega) ?_
    refine Ops.st_int 0 hS4 rfl rfl rfl (by omega) ?_
    intro w5 hS5
    refine Ops.nil ?_
    refine blockQ_n ?_
    refine thenQ_n ?_
    refine Cd.region ?_
    refine Ops.add rfl rfl rfl (by omega) ?_
    refine Ops.mv_int rfl rfl rfl ?_
    refine Ops.nil ?_
    refine thenQ_n ?_
    exact ⟨k + 1, by show N - (k + 1) < N - k; omega, ⟨rfl, rfl, rfl, rfl, rfl, rfl, rfl, trivial⟩, hS5, by omega⟩
  have hkN : k = N := by omega
  subst hkN
  rw [← hbe] at hS4
  refine Cd.exit ?_
  refine thenQ_x ?_
  refine thenQ_x ?_
  refine blockQ_x ?_
  refine thenQ_n ?_
  refine Cd.seq ?_
  refine Cd.region ?_
  refine Ops.new1 hS4 rfl ?_
  intro Ad w5 hS5
  have hS0 : St w w5 (Bx 32 1 Ad [.slice none 0 0] :: CkI 2 A6 k k b :: CkI 2 Ao k co o :: Bx 32 1 Ac [.slice none 0 0] :: CkR 34 none 0 0 [] :: []) :=
    (hS5.nil 34).perm (List.perm_append_comm (l₁ := [_]) (l₂ := [_, _, _, _]))
  refine Ops.nil ?_
  refine thenQ_n ?_
  refine Cd.seq ?_
  refine Cd.seq ?_
  refine Cd.region ?_
  refine Ops.mv_sl rfl rfl rfl ?_
  refine Ops.len rfl rfl ?_
  refine Ops.mv_int rfl rfl rfl ?_
  refine Ops.nil ?_
  refine thenQ_n ?_
  refine Cd.block ?_
  refine Cd.loop (α := Nat × Option Addr × Nat × List SlV) (fun s => [(4, .pointer Ac), (5, .slice Ao k co), (6, .slice A6 k k), (9, .pointer Ad), (35, .slice A n c), (36, .int .i64 (n : Int)), (37, .int .i64 (s.1 : Int))]) (fun s w' => St w w' (Bx 32 1 Ad [.slice s.2.1 s.1 s.2.2.1] :: CkI 2 A6 k k b :: CkI 2 Ao k co o :: Bx 32 1 Ac [.slice none 0 0] :: CkR 34 s.2.1 s.1 s.2.2.1 s.2.2.2 :: rowsCk 2 s.2.2.2 ((xss.map fun mv => rowF o b mv).take s.1)) ∧ s.1 ≤ n ∧ s.2.2.2.length = s.1) (fun s => n - s.1) (0, none, 0, []) ⟨rfl, rfl, rfl, rfl, rfl, rfl, rfl, trivial⟩ ⟨hS0, Nat.zero_le _, rfl⟩ ?_
  rintro ⟨i, A3, c3, rs1⟩ e w6 ⟨hS6, hi, hlen⟩
  dsimp only at hS6 hi hlen ⊢
  refine Cd.seq ?_
  refine Cd.region ?_
  refine Ops.lss rfl rfl rfl ?_
  refine Ops.nil ?_
  refine thenQ_n ?_
  refine Cd.seq ?_
  refine Cd.cond_p _ rfl (fun h1 => ?_) (fun h1 => ?_)
  · have hi' : i < n := by omega
    have hx : i < xss.length := by omega
    have hM6 := hS6.oldRows hR
    have e2 : gl xss i = xss[i] := by simp [gl, List.getD_eq_getElem?_getD, List.getElem?_eq_getElem hx]
    have hmv := hs (gl xss i) (gl_in (by omega) (by omega))
    have hmr := hM6.rowLen (k := (i : Int)) (by omega) h1
    refine Cd.skip ?_
    refine thenQ_n ?_
    refine Cd.seq ?_
    refine Cd.block ?_
    refine Cd.seq ?_
    refine Cd.region ?_
    refine Ops.idx hM6.top.2 rfl rfl rfl (by omega) (by omega) ?_
    refine Ops.ld_sl hM6.top rfl (by omega) rfl rfl ?_
    refine Ops.mv_sl rfl rfl rfl ?_
    refine Ops.nil ?_
    refine thenQ_n ?_
    refine Cd.seq ?_
    refine Cd.region ?_
    refine Ops.mv_sl rfl rfl rfl ?_
    refine Ops.nil ?_
    refine thenQ_n ?_
    refine Cd.seq ?_
    refine Cd.seq ?_
    refine Cd.region ?_
    refine Ops.mv_sl rfl rfl rfl ?_
    refine Ops.len rfl rfl ?_
    refine Ops.mv_int rfl rfl rfl ?_
    refine Ops.nil ?_
    refine thenQ_n ?_
    refine Cd.block ?_
    refine Cd.loop (α := Nat × Option Addr × Nat) (fun s => [(4, .pointer Ac), (5, .slice Ao k co), (6, .slice A6 k k), (9, .pointer Ad), (35, .slice A n c), (36, .int .i64 (n : Int)), (37, .int .i64 (i : Int)), (11, .slice (rg rs i).a (rg rs i).n (rg rs i).c), (12, .slice s.2.1 s.1 s.2.2), (41, .slice Ao k co), (42, .int .i64 (k : Int)), (43, .int .i64 (s.1 : Int))]) (fun s w' => St w w' (CkI 2 s.2.1 s.1 s.2.2 ((rowF o b (gl xss i)).take s.1) :: Bx 32 1 Ad [.slice A3 i c3] :: CkI 2 A6 k k b :: CkI 2 Ao k co o :: Bx 32 1 Ac [.slice none 0 0] :: CkR 34 A3 i c3 rs1 :: rowsCk 2 rs1 ((xss.map fun mv => rowF o b mv).take i)) ∧ s.1 ≤ k) (fun s => k - s.1) (0, none, 0) ⟨rfl, rfl, rfl, rfl, rfl, rfl, rfl, rfl, rfl, rfl, rfl, rfl, trivial⟩ ⟨hS6.nil _, Nat.zero_le _⟩ ?_
    rintro ⟨j, A12, c12⟩ e w7 ⟨hS7, hj⟩
    dsimp only at hS7 hj ⊢
    have hO7 := hS7.rdI 3 rfl
    have hB7 := hS7.rdI 2 rfl
    have hM7 := (hS7.oldRows hR).at_ (i := (i : Int)) (by omega) h1
    refine Cd.seq ?_
    refine Cd.region ?_
    refine Ops.lss rfl rfl rfl ?_
    refine Ops.nil ?_
    refine thenQ_n ?_
    refine Cd.seq ?_
    refine Cd.cond_p _ rfl (fun h2 => ?_) (fun h2 => ?_)
    · have hoj := hrow j (by omega)
      have hv := hmv.2 _ hoj.1 hoj.2
      have hbv := hbk _ hv.1 hv.2
      refine Cd.skip ?_
      refine thenQ_n ?_
      refine Cd.seq ?_
      refine Cd.block ?_
      refine Cd.seq ?_
      refine Cd.region ?_
      refine Ops.idx hO7.2 rfl rfl rfl (by omega) (by omega) ?_
      refine Ops.ld_int hO7 rfl (by omega) rfl rfl ?_
      refine Ops.mv_int rfl rfl rfl ?_
      refine Ops.nil ?_
      refine thenQ_n ?_
      refine Cd.region ?_
      refine Ops.mv_sl rfl rfl rfl ?_
      refine Ops.mv_sl rfl rfl rfl ?_
      refine Ops.mv_sl rfl rfl rfl ?_
      refine Ops.mv_int rfl rfl rfl ?_
      refine Ops.idx hM7.2 rfl rfl rfl (by omega) (by omega) ?_
      refine Ops.ld_int hM7 rfl (by omega) rfl rfl ?_
      refine Ops.idx hB7.2 rfl rfl rfl (by omega) (by omega) ?_
      refine Ops.ld_int hB7 rfl (by omega) rfl rfl ?_
      refine Ops.bs1I hS7 rfl rfl rfl ?_
      intro A9 w9 hS9
      refine Ops.appI 1 hS9 rfl (hS9.rdI 0 rfl) rfl rfl rfl (by omega) (by omega) rfl ?_
      intro A10 c10 w10 hS10
      have hS10 := hS10.tail
      refine Ops.mv_sl rfl rfl rfl ?_
      refine Ops.nil ?_
      refine blockQ_n ?_
      refine thenQ_n ?_
      refine Cd.region ?_
      refine Ops.add rfl rfl rfl (by omega) ?_
      refine Ops.mv_int rfl rfl rfl ?_
      refine Ops.nil ?_
      refine thenQ_n ?_
      refine ⟨(j + 1, A10, c10), by show k - (j + 1) < k - j; omega, ⟨rfl, rfl, rfl, rfl, rfl, rfl, rfl, rfl, rfl, rfl, rfl, rfl, trivial⟩, ?_, by show j + 1 ≤ k; omega⟩
      show St w w10 (CkI _ A10 (j + 1) c10 ((rowF o b (gl xss i)).take (j + 1)) :: _)
      rw [rowF_take (by omega)]
      exact hS10
    · have hjk : j = k := by omega
      subst hjk
      rw [List.take_of_length_le (by rw [rowF_len]; omega)] at hS7
      refine Cd.exit ?_
      refine thenQ_x ?_
      refine thenQ_x ?_
      refine blockQ_x ?_
      refine thenQ_n ?_
      refine Cd.region ?_
      refine Ops.fld (hS7.rd 1 rfl) rfl rfl rfl rfl inferInstance ?_
      refine Ops.ldf_s (hS7.rd 1 rfl) rfl rfl rfl rfl rfl ?_
      refine Ops.mv_sl rfl rfl rfl ?_
      refine Ops.bs1R hS7 rfl rfl rfl ?_
      intro A9 w9 hS9
      refine Ops.appR 6 hS9 rfl (hS9.rdR 0 rfl) rfl rfl rfl (by omega) (by omega) rfl ?_
      intro A10 c10 w10 hS10
      have hS10 := hS10.tail
      refine Ops.fld (hS10.rd 1 rfl) rfl rfl rfl rfl inferInstance ?_
      refine Ops.stf 1 hS10 rfl rfl rfl rfl rfl ?_
      intro w11 hS11
      have hS11 : St w w11 (CkI 2 A12 j c12 (rowF o b (gl xss i)) :: Bx 32 1 Ad [.slice A10 (i + 1) c10] :: CkI 2 A6 j j b :: CkI 2 Ao j co o :: Bx 32 1 Ac [.slice none 0 0] :: CkR 34 A10 (i + 1) c10 (rs1 ++ [⟨A12, j, c12⟩]) :: rowsCk 2 rs1 ((xss.map fun mv => rowF o b mv).take i)) := hS11
      refine Ops.nil ?_
      refine blockQ_n ?_
      refine thenQ_n ?_
      refine Cd.region ?_
      refine Ops.add rfl rfl rfl (by omega) ?_
      refine Ops.mv_int rfl rfl rfl ?_
      refine Ops.nil ?_
      refine thenQ_n ?_
      refine ⟨(i + 1, A10, c10, rs1 ++ [⟨A12, j, c12⟩]), by show n - (i + 1) < n - i; omega, ⟨rfl, rfl, rfl, rfl, rfl, rfl, rfl, trivial⟩, ?_, hi', by simp [hlen]⟩
      show St w w11 (_ :: _ :: _ :: _ :: CkR _ A10 (i + 1) c10 (rs1 ++ [_]) :: rowsCk _ (rs1 ++ [_]) ((xss.map fun mv => rowF o b mv).take (i + 1)))
      rw [List.take_succ_eq_append_getElem (by rw [List.length_map]; exact hx), rowsCk_append (by simp [hlen]; omega), List.getElem_map, ← e2]
      refine hS11.perm ?_
      exact List.perm_append_comm (l₁ := [_]) (l₂ := _ :: _ :: _ :: _ :: _ :: rowsCk 2 rs1 ((xss.map fun mv => rowF o b mv).take i))
  · have hin : i = n := by omega
    subst hin
    rw [List.take_of_length_le (by rw [List.length_map]; omega)] at hS6
    refine Cd.exit ?_
    refine thenQ_x ?_
    refine thenQ_x ?_
    refine blockQ_x ?_
    refine thenQ_n ?_
    refine Cd.seq ?_
    refine Cd.region ?_
    refine Ops.ld_agg 0 (hS6.rd 0 rfl) rfl rfl rfl ?_
    refine Ops.st_agg 1 3 hS6 rfl rfl rfl rfl rfl rfl rfl ?_
    intro w7 hS7
    refine Ops.nil ?_
    refine thenQ_n ?_
    refine Cd.ret ?_
    skip
    refine retc_r rfl (hS7.rd 3 rfl) ?_
    exact ⟨A3, c3, rs1, rfl, hlen, hS7.sub ((((List.sublist_cons_self _ _).trans (List.sublist_cons_self _ _)).trans (List.sublist_cons_self _ _)).trans (List.sublist_cons_self _ _))⟩
end Go.Proofs.YtjpkmpihmilgoaaGreat.Vc
/-
  The walks of comparisons on both sides. Conditions: as each states them.
-/
namespace Go.Proofs.YtjpkmpihmilgoaaGreat.Vc
open Go.RowKit

theorem lexC_step {a b : List Int} {k : Nat} (ha : k < a.length) (hb : k < b.length) : lexC (a.drop k) (b.drop k) = if cmpI (gi a (k : Int)) (gi b (k : Int)) = 0 then lexC (a.drop (k + 1)) (b.drop (k + 1)) else cmpI (gi a (k : Int)) (gi b (k : Int)) := by
  rw [List.drop_eq_getElem_cons ha, List.drop_eq_getElem_cons hb, gi_mem ha, gi_mem hb]
  rfl
theorem lexC_endR {a b : List Int} {k : Nat} (ha : k < a.length) (hb : b.length ≤ k) : lexC (a.drop k) (b.drop k) = 1 := by
  rw [List.drop_eq_getElem_cons ha, List.drop_of_length_le hb]
  rfl
theorem lexC_endL {a b : List Int} {k : Nat} (ha : a.length ≤ k) : lexC (a.drop k) (b.drop k) = if k < b.length then -1 else 0 := by
  rw [List.drop_of_length_le ha]
  split
  · rename_i h
    rw [List.drop_eq_getElem_cons h]
    rfl
  · rename_i h
    rw [List.drop_of_length_le (by omega)]
    rfl
theorem lexCC_step {a b : List (List Int)} {k : Nat} (ha : k < a.length) (hb : k < b.length) : lexCC (a.drop k) (b.drop k) = if lexC (gl a (k : Int)) (gl b (k : Int)) = 0 then lexCC (a.drop (k + 1)) (b.drop (k + 1)) else lexC (gl a (k : Int)) (gl b (k : Int)) := by
  rw [List.drop_eq_getElem_cons ha, List.drop_eq_getElem_cons hb, gl_mem ha, gl_mem hb]
  rfl
theorem lexCC_endR {a b : List (List Int)} {k : Nat} (ha : k < a.length) (hb : b.length ≤ k) : lexCC (a.drop k) (b.drop k) = 1 := by
  rw [List.drop_eq_getElem_cons ha, List.drop_of_length_le hb]
  rfl
theorem lexCC_endL {a b : List (List Int)} {k : Nat} (ha : a.length ≤ k) : lexCC (a.drop k) (b.drop k) = if k < b.length then -1 else 0 := by
  rw [List.drop_of_length_le ha]
  split
  · rename_i h
    rw [List.drop_eq_getElem_cons h]
    rfl
  · rename_i h
    rw [List.drop_of_length_le (by omega)]
    rfl

/-! the program's side -/
theorem isNaN_c (x : Int) (w : World) : Ret Tryz.prog 151 [.int .i64 x] w (fun v w' => v = .bool false ∧ w' = w) := by
  refine Ret.of_cd Tryz.func151 rfl Tryz.ntmps151 rfl (post1 rfl) ?_
  refine Cd.seq ?_
  refine Cd.region ?_
  refine Ops.mv_bool rfl rfl rfl ?_
  refine Ops.nil ?_
  refine thenQ_n ?_
  refine Cd.seq ?_
  refine Cd.region ?_
  refine Ops.mv_int rfl rfl rfl ?_
  refine Ops.mv_int rfl rfl rfl ?_
  refine Ops.neq rfl rfl rfl ?_
  refine Ops.mv_bool rfl rfl rfl ?_
  refine Ops.nil ?_
  refine thenQ_n ?_
  refine Cd.ret ?_
  refine ret1_b rfl ?_
  exact ⟨by simp, rfl⟩
theorem cmpCompare_c (x y : Int) (w : World) : Ret Tryz.prog 105 [.int .i64 x, .int .i64 y] w (fun v w' => v = .int .i64 (cmpI x y) ∧ w' = w) := by
  refine Ret.of_cd Tryz.func105 rfl Tryz.ntmps105 rfl (post1 rfl) ?_
  refine Cd.seq ?_
  refine Cd.region ?_
  refine Ops.mv_int rfl rfl rfl ?_
  refine Ops.nil ?_
  refine thenQ_n ?_
  refine Cd.seq ?_
  refine Cd.region ?_
  refine Ops.mv_int rfl rfl rfl ?_
  refine Ops.call (isNaN_c _ _) rfl rfl rfl ?_
  rintro _ w ⟨rfl, rfl⟩
  refine Ops.mv_bool rfl rfl rfl ?_
  refine Ops.nil ?_
  refine thenQ_n ?_
  refine Cd.seq ?_
  refine Cd.region ?_
  refine Ops.mv_int rfl rfl rfl ?_
  refine Ops.call (isNaN_c _ _) rfl rfl rfl ?_
  rintro _ w ⟨rfl, rfl⟩
  refine Ops.mv_bool rfl rfl rfl ?_
  refine Ops.nil ?_
  refine thenQ_n ?_
  refine Cd.seq ?_
  refine Cd.seq ?_
  refine Cd.region ?_
  refine Ops.mv_bool rfl rfl rfl ?_
  refine Ops.nil ?_
  refine thenQ_n ?_
  refine Cd.cond_f rfl ?_
  refine Cd.skip ?_
  refine thenQ_n ?_
  refine Cd.seq ?_
  refine Cd.seq ?_
  refine Cd.region ?_
  refine Ops.mv_bool rfl rfl rfl ?_
  refine Ops.nil ?_
  refine thenQ_n ?_
  refine Cd.cond_f rfl ?_
  refine Cd.skip ?_
  refine thenQ_n ?_
  refine Cd.seq ?_
  refine Cd.seq ?_
  refine Cd.region ?_
  refine Ops.mv_int rfl rfl rfl ?_
  refine Ops.mv_int rfl rfl rfl ?_
  refine Ops.lss rfl rfl rfl ?_
  refine Ops.nil ?_
  refine thenQ_n ?_
  refine Cd.cond_p _ rfl (fun h1 => ?_) (fun h1 => ?_)
  · refine Cd.seq ?_
    refine Cd.region ?_
    refine Ops.mv_int rfl rfl rfl ?_
    refine Ops.nil ?_
    refine thenQ_n ?_
    refine Cd.ret ?_
    refine thenQ_r ?_
    refine ret1_i rfl ?_
    exact ⟨by rw [cmpI, if_pos h1], rfl⟩
  · refine Cd.skip ?_
    refine thenQ_n ?_
    refine Cd.seq ?_
    refine Cd.seq ?_
    refine Cd.region ?_
    refine Ops.mv_int rfl rfl rfl ?_
    refine Ops.mv_int rfl rfl rfl ?_
    refine Ops.gtr rfl rfl rfl ?_
    refine Ops.nil ?_
    refine thenQ_n ?_
    refine Cd.cond_p _ rfl (fun h2 => ?_) (fun h2 => ?_)
    · refine Cd.seq ?_
      refine Cd.region ?_
      refine Ops.mv_int rfl rfl rfl ?_
      refine Ops.nil ?_
      refine thenQ_n ?_
      refine Cd.ret ?_
      refine thenQ_r ?_
      refine ret1_i rfl ?_
      exact ⟨by rw [cmpI, if_neg h1, if_pos h2], rfl⟩
    · refine Cd.skip ?_
      refine thenQ_n ?_
      refine Cd.seq ?_
      refine Cd.region ?_
      refine Ops.mv_int rfl rfl rfl ?_
      refine Ops.nil ?_
      refine thenQ_n ?_
      refine Cd.ret ?_
      refine ret1_i rfl ?_
      exact ⟨by rw [cmpI, if_neg h1, if_neg h2], rfl⟩

theorem Compare_c (A : Option Addr) (n c : Nat) (xs : List Int) (A' : Option Addr) (n' c' : Nat) (ys : List Int) (w : World) (hX : RdI w A n xs) (hY : RdI w A' n' ys) (hn : n ≤ 9223372036854775807) :
    Ret Tryz.prog 55 [.slice A n c, .slice A' n' c'] w (fun v w' => v = .int .i64 (lexC xs ys) ∧ w' = w) := by
  have hxl := hX.1
  have hyl := hY.1
  refine Ret.of_cd Tryz.func55 rfl Tryz.ntmps55 rfl (post1 rfl) ?_
  refine Cd.seq ?_
  refine Cd.region ?_
  refine Ops.mv_int rfl rfl rfl ?_
  refine Ops.nil ?_
  refine thenQ_n ?_
  refine Cd.seq ?_
  refine Cd.seq ?_
  refine Cd.region ?_
  refine Ops.mv_sl rfl rfl rfl ?_
  refine Ops.len rfl rfl ?_
  refine Ops.mv_int rfl rfl rfl ?_
  refine Ops.nil ?_
  refine thenQ_n ?_
  refine Cd.block ?_
  refine Cd.loop (α := Nat) (fun k => [(0, .slice A n c), (1, .slice A' n' c'), (9, .slice A n c), (10, .int .i64 (n : Int)), (11, .int .i64 (k : Int))]) (fun k w' => w' = w ∧ k ≤ n ∧ k ≤ n' ∧ lexC xs ys = lexC (xs.drop k) (ys.drop k)) (fun k => n - k) 0 ⟨rfl, rfl, rfl, rfl, rfl, trivial⟩ ⟨rfl, Nat.zero_le _, Nat.zero_le _, rfl⟩ ?_
  rintro k e w ⟨rfl, hk, hk', hK⟩
  refine Cd.seq ?_
  refine Cd.region ?_
  refine Ops.lss rfl rfl rfl ?_
  refine Ops.nil ?_
  refine thenQ_n ?_
  refine Cd.seq ?_
  refine Cd.cond_p _ rfl (fun h1 => ?_) (fun h1 => ?_)
  · refine Cd.skip ?_
    refine thenQ_n ?_
    refine Cd.seq ?_
    refine Cd.block ?_
    refine Cd.seq ?_
    refine Cd.region ?_
    refine Ops.mv_int rfl rfl rfl ?_
    refine Ops.idx hX.2 rfl rfl rfl (by omega) (by omega) ?_
    refine Ops.ld_int hX rfl (by omega) rfl rfl ?_
    refine Ops.mv_int rfl rfl rfl ?_
    refine Ops.mv_int rfl rfl rfl ?_
    refine Ops.nil ?_
    refine thenQ_n ?_
    refine Cd.seq ?_
    refine Cd.seq ?_
    refine Cd.region ?_
    refine Ops.mv_int rfl rfl rfl ?_
    refine Ops.mv_sl rfl rfl rfl ?_
    refine Ops.len rfl rfl ?_
    refine Ops.geq rfl rfl rfl ?_
    refine Ops.nil ?_
    refine thenQ_n ?_
    refine Cd.cond_p _ rfl (fun h2 => ?_) (fun h2 => ?_)
    · refine Cd.seq ?_
      refine Cd.region ?_
      refine Ops.mv_int rfl rfl rfl ?_
      refine Ops.nil ?_
      refine thenQ_n ?_
      refine Cd.ret ?_
      refine thenQ_r ?_
      refine blockQ_r ?_
      refine thenQ_r ?_
      refine thenQ_r ?_
      refine blockQ_r ?_
      refine thenQ_r ?_
      refine ret1_i rfl ?_
      exact ⟨by rw [hK, lexC_endR (by omega) (by omega)], rfl⟩
    · rw [lexC_step (by omega) (by omega)] at hK
      refine Cd.skip ?_
      refine thenQ_n ?_
      refine Cd.seq ?_
      refine Cd.region ?_
      refine Ops.mv_sl rfl rfl rfl ?_
      refine Ops.mv_int rfl rfl rfl ?_
      refine Ops.idx hY.2 rfl rfl rfl (by omega) (by omega) ?_
      refine Ops.ld_int hY rfl (by omega) rfl rfl ?_
      refine Ops.mv_int rfl rfl rfl ?_
      refine Ops.nil ?_
      refine thenQ_n ?_
      refine Cd.seq ?_
      refine Cd.region ?_
      refine Ops.mv_int rfl rfl rfl ?_
      refine Ops.mv_int rfl rfl rfl ?_
      refine Ops.call (cmpCompare_c _ _ _) rfl rfl rfl ?_
      rintro _ w ⟨rfl, rfl⟩
      refine Ops.mv_int rfl rfl rfl ?_
      refine Ops.nil ?_
      refine thenQ_n ?_
      refine Cd.seq ?_
      refine Cd.region ?_
      refine Ops.mv_int rfl rfl rfl ?_
      refine Ops.neq rfl rfl rfl ?_
      refine Ops.nil ?_
      refine thenQ_n ?_
      refine Cd.cond_p _ rfl (fun h3 => ?_) (fun h3 => ?_)
      · refine Cd.seq ?_
        refine Cd.region ?_
        refine Ops.mv_int rfl rfl rfl ?_
        refine Ops.mv_int rfl rfl rfl ?_
        refine Ops.nil ?_
        refine thenQ_n ?_
        refine Cd.ret ?_
        refine blockQ_r ?_
        refine thenQ_r ?_
        refine thenQ_r ?_
        refine blockQ_r ?_
        refine thenQ_r ?_
        refine ret1_i rfl ?_
        exact ⟨by rw [hK, if_neg h3], rfl⟩
      · rw [if_pos (Classical.not_not.1 h3)] at hK
        refine Cd.skip ?_
        refine blockQ_n ?_
        refine thenQ_n ?_
        refine Cd.region ?_
        refine Ops.add rfl rfl rfl (by omega) ?_
        refine Ops.mv_int rfl rfl rfl ?_
        refine Ops.nil ?_
        refine thenQ_n ?_
        exact ⟨k + 1, by show n - (k + 1) < n - k; omega, ⟨rfl, rfl, rfl, rfl, rfl, trivial⟩, rfl, by omega, by omega, hK⟩
  · rw [lexC_endL (by omega)] at hK
    have hkn : k = n := by omega
    subst hkn
    refine Cd.exit ?_
    refine thenQ_x ?_
    refine thenQ_x ?_
    refine blockQ_x ?_
    refine thenQ_n ?_
    refine Cd.seq ?_
    refine Cd.seq ?_
    refine Cd.region ?_
    refine Ops.mv_sl rfl rfl rfl ?_
    refine Ops.len rfl rfl ?_
    refine Ops.mv_sl rfl rfl rfl ?_
    refine Ops.len rfl rfl ?_
    refine Ops.lss rfl rfl rfl ?_
    refine Ops.nil ?_
    refine thenQ_n ?_
    refine Cd.cond_p _ rfl (fun h2 => ?_) (fun h2 => ?_)
    · refine Cd.seq ?_
      refine Cd.region ?_
      refine Ops.mv_int rfl rfl rfl ?_
      refine Ops.nil ?_
      refine thenQ_n ?_
      refine Cd.ret ?_
      refine thenQ_r ?_
      refine ret1_i rfl ?_
      exact ⟨by rw [hK, if_pos (by omega)], rfl⟩
    · refine Cd.skip ?_
      refine thenQ_n ?_
      refine Cd.seq ?_
      refine Cd.region ?_
      refine Ops.mv_int rfl rfl rfl ?_
      refine Ops.nil ?_
      refine thenQ_n ?_
      refine Cd.ret ?_
      refine ret1_i rfl ?_
      exact ⟨by rw [hK, if_neg (by omega)], rfl⟩

theorem CompareFunc_c (A : Option Addr) (n c : Nat) (rs : List SlV) (xss : List (List Int)) (A' : Option Addr) (n' c' : Nat) (rs' : List SlV) (yss : List (List Int)) (w : World) (hX : RowsI w A n rs xss) (hY : RowsI w A' n' rs' yss) (hn : n ≤ 9223372036854775807) :
    Ret Tryz.prog 131 [.slice A n c, .slice A' n' c', .func (.func 55) #[] #[]] w (fun v w' => v = .int .i64 (lexCC xss yss) ∧ w' = w) := by
  have hxl := hX.len
  have hyl := hY.len
  refine Ret.of_cd Tryz.func131 rfl Tryz.ntmps131 rfl (post1 rfl) ?_
  refine Cd.seq ?_
  refine Cd.region ?_
  refine Ops.mv_int rfl rfl rfl ?_
  refine Ops.nil ?_
  refine thenQ_n ?_
  refine Cd.seq ?_
  refine Cd.seq ?_
  refine Cd.region ?_
  refine Ops.mv_sl rfl rfl rfl ?_
  refine Ops.len rfl rfl ?_
  refine Ops.mv_int rfl rfl rfl ?_
  refine Ops.nil ?_
  refine thenQ_n ?_
  refine Cd.block ?_
  refine Cd.loop (α := Nat) (fun k => [(0, .slice A n c), (1, .slice A' n' c'), (2, .func (.func 55) #[] #[]), (11, .slice A n c), (12, .int .i64 (n : Int)), (13, .int .i64 (k : Int))]) (fun k w' => w' = w ∧ k ≤ n ∧ k ≤ n' ∧ lexCC xss yss = lexCC (xss.drop k) (yss.drop k)) (fun k => n - k) 0 ⟨rfl, rfl, rfl, rfl, rfl, rfl, trivial⟩ ⟨rfl, Nat.zero_le _, Nat.zero_le _, rfl⟩ ?_
  rintro k e w ⟨rfl, hk, hk', hK⟩
  refine Cd.seq ?_
  refine Cd.region ?_
  refine Ops.lss rfl rfl rfl ?_
  refine Ops.nil ?_
  refine thenQ_n ?_
  refine Cd.seq ?_
  refine Cd.cond_p _ rfl (fun h1 => ?_) (fun h1 => ?_)
  · have hrx := hX.at_ (i := (k : Int)) (by omega) h1
    have hlx := hX.rowLen (k := (k : Int)) (by omega) h1
    have hrk := hX.cap_ (i := (k : Int)) (by omega) h1
    refine Cd.skip ?_
    refine thenQ_n ?_
    refine Cd.seq ?_
    refine Cd.block ?_
    refine Cd.seq ?_
    refine Cd.region ?_
    refine Ops.mv_int rfl rfl rfl ?_
    refine Ops.idx hX.top.2 rfl rfl rfl (by omega) (by omega) ?_
    refine Ops.ld_sl hX.top rfl (by omega) rfl rfl ?_
    refine Ops.mv_int rfl rfl rfl ?_
    refine Ops.mv_sl rfl rfl rfl ?_
    refine Ops.nil ?_
    refine thenQ_n ?_
    refine Cd.seq ?_
    refine Cd.seq ?_
    refine Cd.region ?_
    refine Ops.mv_int rfl rfl rfl ?_
    refine Ops.mv_sl rfl rfl rfl ?_
    refine Ops.len rfl rfl ?_
    refine Ops.geq rfl rfl rfl ?_
    refine Ops.nil ?_
    refine thenQ_n ?_
    refine Cd.cond_p _ rfl (fun h2 => ?_) (fun h2 => ?_)
    · refine Cd.seq ?_
      refine Cd.region ?_
      refine Ops.mv_int rfl rfl rfl ?_
      refine Ops.nil ?_
      refine thenQ_n ?_
      refine Cd.ret ?_
      refine thenQ_r ?_
      refine blockQ_r ?_
      refine thenQ_r ?_
      refine thenQ_r ?_
      refine blockQ_r ?_
      refine thenQ_r ?_
      refine ret1_i rfl ?_
      exact ⟨by rw [hK, lexCC_endR (by omega) (by omega)], rfl⟩
    · rw [lexCC_step (by omega) (by omega)] at hK
      have hry := hY.at_ (i := (k : Int)) (by omega) (by omega)
      refine Cd.skip ?_
      refine thenQ_n ?_
      refine Cd.seq ?_
      refine Cd.region ?_
      refine Ops.mv_sl rfl rfl rfl ?_
      refine Ops.mv_int rfl rfl rfl ?_
      refine Ops.idx hY.top.2 rfl rfl rfl (by omega) (by omega) ?_
      refine Ops.ld_sl hY.top rfl (by omega) rfl rfl ?_
      refine Ops.mv_sl rfl rfl rfl ?_
      refine Ops.nil ?_
      refine thenQ_n ?_
      refine Cd.seq ?_
      refine Cd.region ?_
      refine Ops.mv_fn rfl rfl rfl ?_
      refine Ops.mv_sl rfl rfl rfl ?_
      refine Ops.mv_sl rfl rfl rfl ?_
      refine Ops.call (Compare_c _ _ _ _ _ _ _ _ _ hrx hry (by omega)) rfl rfl rfl ?_
      rintro _ w ⟨rfl, rfl⟩
      refine Ops.mv_int rfl rfl rfl ?_
      refine Ops.nil ?_
      refine thenQ_n ?_
      refine Cd.seq ?_
      refine Cd.region ?_
      refine Ops.mv_int rfl rfl rfl ?_
      refine Ops.neq rfl rfl rfl ?_
      refine Ops.nil ?_
      refine thenQ_n ?_
      refine Cd.cond_p _ rfl (fun h3 => ?_) (fun h3 => ?_)
      · refine Cd.seq ?_
        refine Cd.region ?_
        refine Ops.mv_int rfl rfl rfl ?_
        refine Ops.mv_int rfl rfl rfl ?_
        refine Ops.nil ?_
        refine thenQ_n ?_
        refine Cd.ret ?_
        refine blockQ_r ?_
        refine thenQ_r ?_
        refine thenQ_r ?_
        refine blockQ_r ?_
        refine thenQ_r ?_
        refine ret1_i rfl ?_
        exact ⟨by rw [hK, if_neg h3], rfl⟩
      · rw [if_pos (Classical.not_not.1 h3)] at hK
        refine Cd.skip ?_
        refine blockQ_n ?_
        refine thenQ_n ?_
        refine Cd.region ?_
        refine Ops.add rfl rfl rfl (by omega) ?_
        refine Ops.mv_int rfl rfl rfl ?_
        refine Ops.nil ?_
        refine thenQ_n ?_
        exact ⟨k + 1, by show n - (k + 1) < n - k; omega, ⟨rfl, rfl, rfl, rfl, rfl, rfl, trivial⟩, rfl, by omega, by omega, hK⟩
  · rw [lexCC_endL (by omega)] at hK
    have hkn : k = n := by omega
    subst hkn
    refine Cd.exit ?_
    refine thenQ_x ?_
    refine thenQ_x ?_
    refine blockQ_x ?_
    refine thenQ_n ?_
    refine Cd.seq ?_
    refine Cd.seq ?_
    refine Cd.region ?_
    refine Ops.mv_sl rfl rfl rfl ?_
    refine Ops.len rfl rfl ?_
    refine Ops.mv_sl rfl rfl rfl ?_
    refine Ops.len rfl rfl ?_
    refine Ops.lss rfl rfl rfl ?_
    refine Ops.nil ?_
    refine thenQ_n ?_
    refine Cd.cond_p _ rfl (fun h2 => ?_) (fun h2 => ?_)
    · refine Cd.seq ?_
      refine Cd.region ?_
      refine Ops.mv_int rfl rfl rfl ?_
      refine Ops.nil ?_
      refine thenQ_n ?_
      refine Cd.ret ?_
      refine thenQ_r ?_
      refine ret1_i rfl ?_
      exact ⟨by rw [hK, if_pos (by omega)], rfl⟩
    · refine Cd.skip ?_
      refine thenQ_n ?_
      refine Cd.seq ?_
      refine Cd.region ?_
      refine Ops.mv_int rfl rfl rfl ?_
      refine Ops.nil ?_
      refine thenQ_n ?_
      refine Cd.ret ?_
      refine ret1_i rfl ?_
      exact ⟨by rw [hK, if_neg (by omega)], rfl⟩

theorem compareManiplexes_c (A : Option Addr) (n c : Nat) (rs : List SlV) (xss : List (List Int)) (A' : Option Addr) (n' c' : Nat) (rs' : List SlV) (yss : List (List Int)) (w : World) (hX : RowsI w A n rs xss) (hY : RowsI w A' n' rs' yss) (hn : n ≤ 9223372036854775807) :
    Ret Tryz.prog 92 [.agg #[.slice A n c], .agg #[.slice A' n' c']] w (fun v w' => v = .int .i64 (lexCC xss yss) ∧ St w w' []) := by
  refine Ret.of_cd Tryz.func92 rfl Tryz.ntmps92 rfl (post1 rfl) ?_
  refine Cd.seq ?_
  refine Cd.region ?_
  refine Ops.box1 (St.refl w) rfl rfl ?_
  intro Ab w1 hS1
  refine Ops.box1 hS1 rfl rfl ?_
  intro Ac w2 hS2
  refine Ops.mv_int rfl rfl rfl ?_
  refine Ops.nil ?_
  refine thenQ_n ?_
  refine Cd.seq ?_
  refine Cd.region ?_
  refine Ops.fld (hS2.rd 1 rfl) rfl rfl rfl rfl inferInstance ?_
  refine Ops.ldf_s (hS2.rd 1 rfl) rfl rfl rfl rfl rfl ?_
  refine Ops.fld (hS2.rd 0 rfl) rfl rfl rfl rfl inferInstance ?_
  refine Ops.ldf_s (hS2.rd 0 rfl) rfl rfl rfl rfl rfl ?_
  refine Ops.call (CompareFunc_c A n c rs xss A' n' c' rs' yss _ (hS2.oldRows hX) (hS2.oldRows hY) hn) rfl rfl rfl ?_
  rintro _ w3 ⟨rfl, rfl⟩
  refine Ops.mv_int rfl rfl rfl ?_
  refine Ops.nil ?_
  refine thenQ_n ?_
  refine Cd.ret ?_
  refine ret1_i rfl ?_
  exact ⟨rfl, hS2.none⟩

theorem Equal_c (A : Option Addr) (n c : Nat) (xs : List Int) (A' : Option Addr) (n' c' : Nat) (ys : List Int) (w : World) (hR : RdI w A n xs) (hR' : RdI w A' n' ys) (hn : n ≤ 9223372036854775807) :
    Ret Tryz.prog 57 [.slice A n c, .slice A' n' c'] w (fun v w' => v = .bool (decide (xs = ys)) ∧ St w w' []) := by
  have hl := hR.1
  have hl' := hR'.1
  subst hl
  subst hl'
  refine Ret.of_cd Tryz.func57 rfl Tryz.ntmps57 rfl (post1 rfl) ?_
  refine Cd.seq ?_
  refine Cd.region ?_
  refine Ops.mv_bool rfl rfl rfl ?_
  refine Ops.nil ?_
  refine thenQ_n ?_
  refine Cd.seq ?_
  refine Cd.seq ?_
  refine Cd.region ?_
  refine Ops.mv_sl rfl rfl rfl ?_
  refine Ops.len rfl rfl ?_
  refine Ops.mv_sl rfl rfl rfl ?_
  refine Ops.len rfl rfl ?_
  refine Ops.neq rfl rfl rfl ?_
  refine Ops.nil ?_
  refine thenQ_n ?_
  refine Cd.cond_p _ rfl (fun h => ?_) (fun h => ?_)
  · refine Cd.seq ?_
    refine Cd.region ?_
    refine Ops.mv_bool rfl rfl rfl ?_
    refine Ops.nil ?_
    refine thenQ_n ?_
    refine Cd.ret ?_
    refine thenQ_r ?_
    refine ret1_b rfl ?_
    exact ⟨by rw [decide_eq_false (fun e : xs = ys => h (by rw [e]))], St.refl _⟩
  refine Cd.skip ?_
  refine thenQ_n ?_
  refine Cd.seq ?_
  refine Cd.seq ?_
  refine Cd.region ?_
  refine Ops.mv_sl rfl rfl rfl ?_
  refine Ops.len rfl rfl ?_
  refine Ops.mv_int rfl rfl rfl ?_
  refine Ops.nil ?_
  refine thenQ_n ?_
  refine Cd.block ?_
  refine Cd.loop (α := Nat) (fun k => [(0, .slice A xs.length c), (1, .slice A' ys.length c'), (12, .int .i64 (xs.length : Int)), (13, .int .i64 (k : Int))]) (fun k w' => St w w' [] ∧ k ≤ xs.length ∧ xs.take k = ys.take k) (fun k => xs.length - k) 0 ⟨rfl, rfl, rfl, rfl, trivial⟩ ⟨St.refl w, Nat.zero_le _, rfl⟩ ?_
  rintro k e w2 ⟨hS2, hk, hI⟩
  have hle : xs.length = ys.length := by omega
  refine Cd.seq ?_
  refine Cd.region ?_
  refine Ops.lss rfl rfl rfl ?_
  refine Ops.nil ?_
  refine thenQ_n ?_
  refine Cd.seq ?_
  refine Cd.cond_p _ rfl (fun h1 => ?_) (fun h1 => ?_)
  · have hA := hS2.oldI hR
    have hB := hS2.oldI hR'
    have h2 : (k : Int) < ys.length := by omega
    have hx := gi_mem (p := xs) (k := k) (by omega)
    have hy := gi_mem (p := ys) (k := k) (by omega)
    refine Cd.skip ?_
    refine thenQ_n ?_
    refine Cd.seq ?_
    refine Cd.block ?_
    refine Cd.seq ?_
    refine Cd.region ?_
    refine Ops.mv_int rfl rfl rfl ?_
    refine Ops.mv_int rfl rfl rfl ?_
    refine Ops.nil ?_
    refine thenQ_n ?_
    refine Cd.seq ?_
    refine Cd.draw [.ex (.slice (A) (xs.length) (c)), .ex (.int .i64 ((k : Int))), .ex (.pointer (ptrAt (A) ((k : Int)).toNat)), .ex (.int .i64 (gi (xs) ((k : Int)))), .ex (.slice (A') (ys.length) (c')), .ex (.int .i64 ((k : Int))), .ex (.pointer (ptrAt (A') ((k : Int)).toNat)), .ex (.int .i64 (gi (ys) ((k : Int)))), .ex (.bool (decide (¬ (gi (xs) ((k : Int))) = (gi (ys) ((k : Int))))))] (by kernel_rfl) (by kernel_rfl) rfl (List.forall_mem_cons.2 ⟨Yd.lasts_ex _, (List.forall_mem_cons.2 ⟨Yd.lasts_ex _, (List.forall_mem_cons.2 ⟨Yd.lasts_ex _, (List.forall_mem_cons.2 ⟨Yd.lasts_ex _, (List.forall_mem_cons.2 ⟨Yd.lasts_ex _, (List.forall_mem_cons.2 ⟨Yd.lasts_ex _, (List.forall_mem_cons.2 ⟨Yd.lasts_ex _, (List.forall_mem_cons.2 ⟨Yd.lasts_ex _, (List.forall_mem_cons.2 ⟨Yd.lasts_ex _, (fun _ h => by cases h)⟩)⟩)⟩)⟩)⟩)⟩)⟩)⟩)⟩) ⟨?_, ?_, ?_, ?_, ?_, ?_, ?_, ?_, ?_, trivial⟩ ?_
    · intro e1 w1 hb hp hun
      refine Ops.mv_sl rfl rfl rfl ?_
      refine Ops.nil ?_
      exact After.dn (Below.refl _ _) (by exact rfl)
    · intro e1 w1 hb hp hun
      refine Ops.mv_int rfl rfl rfl ?_
      refine Ops.nil ?_
      exact After.dn (Below.refl _ _) (by exact rfl)
    · intro e1 w1 hb hp hun
      refine Ops.idx (hA.later hb).2 rfl rfl rfl (by omega) (by omega) ?_
      refine Ops.nil ?_
      exact After.dn (Below.refl _ _) (by exact rfl)
    · intro e1 w1 hb hp hun
      refine Ops.ld_int (hA.later hb) rfl (by omega) rfl rfl ?_
      refine Ops.nil ?_
      exact After.dn (Below.refl _ _) (by exact rfl)
    · intro e1 w1 hb hp hun
      refine Ops.mv_sl rfl rfl rfl ?_
      refine Ops.nil ?_
      exact After.dn (Below.refl _ _) (by exact rfl)
    · intro e1 w1 hb hp hun
      refine Ops.mv_int rfl rfl rfl ?_
      refine Ops.nil ?_
      exact After.dn (Below.refl _ _) (by exact rfl)
    · intro e1 w1 hb hp hun
      refine Ops.idx (hB.later hb).2 rfl rfl rfl (by omega) (by omega) ?_
      refine Ops.nil ?_
      exact After.dn (Below.refl _ _) (by exact rfl)
    · intro e1 w1 hb hp hun
      refine Ops.ld_int (hB.later hb) rfl (by omega) rfl rfl ?_
      refine Ops.nil ?_
      exact After.dn (Below.refl _ _) (by exact rfl)
    · intro e1 w1 hb hp hun
      refine Ops.neq rfl rfl rfl ?_
      refine Ops.nil ?_
      exact After.dn (Below.refl _ _) (by exact rfl)
    intro u w3 hb3 _
    have hS3 := hS2.later hb3
    refine thenQ_n ?_
    refine Cd.cond_p _ rfl (fun h3 => ?_) (fun h3 => ?_)
    · refine Cd.seq ?_
      refine Cd.region ?_
      refine Ops.mv_bool rfl rfl rfl ?_
      refine Ops.nil ?_
      refine thenQ_n ?_
      refine Cd.ret ?_
      refine blockQ_r ?_
      refine thenQ_r ?_
      refine thenQ_r ?_
      refine blockQ_r ?_
      refine thenQ_r ?_
      refine ret1_b rfl ?_
      refine ⟨by rw [decide_eq_false (fun e : xs = ys => h3 (by rw [e]))], hS3⟩
    · refine Cd.skip ?_
      refine blockQ_n ?_
      refine thenQ_n ?_
      refine Cd.region ?_
      refine Ops.add rfl rfl rfl (by omega) ?_
      refine Ops.mv_int rfl rfl rfl ?_
      refine Ops.nil ?_
      refine thenQ_n ?_
      refine ⟨k + 1, by omega, ⟨rfl, rfl, rfl, rfl, trivial⟩, hS3, by omega, ?_⟩
      rw [take_succ_gi (by omega), take_succ_gi (by omega), hI, Classical.not_not.1 h3]
  · refine Cd.exit ?_
    refine thenQ_x ?_
    refine thenQ_x ?_
    refine blockQ_x ?_
    refine thenQ_n ?_
    refine Cd.seq ?_
    refine Cd.region ?_
    refine Ops.mv_bool rfl rfl rfl ?_
    refine Ops.nil ?_
    refine thenQ_n ?_
    refine Cd.ret ?_
    refine ret1_b rfl ?_
    refine ⟨?_, hS2⟩
    rw [List.take_of_length_le (by omega), List.take_of_length_le (by omega)] at hI
    rw [decide_eq_true hI]

theorem EqualFunc_c (A : Option Addr) (n c : Nat) (rs : List SlV) (xs : List (List Int)) (A' : Option Addr) (n' c' : Nat) (rs' : List SlV) (ys : List (List Int)) (w : World) (hR : RowsI w A n rs xs) (hR' : RowsI w A' n' rs' ys) (hn : n ≤ 9223372036854775807) :
    Ret Tryz.prog 130 [.slice A n c, .slice A' n' c', .func (.func 57) #[] #[]] w (fun v w' => v = .bool (decide (xs = ys)) ∧ St w w' []) := by
  have hl := hR.len
  have hl' := hR'.len
  subst hl
  subst hl'
  refine Ret.of_cd Tryz.func130 rfl Tryz.ntmps130 rfl (post1 rfl) ?_
  refine Cd.seq ?_
  refine Cd.region ?_
  refine Ops.mv_bool rfl rfl rfl ?_
  refine Ops.nil ?_
  refine thenQ_n ?_
  refine Cd.seq ?_
  refine Cd.seq ?_
  refine Cd.region ?_
  refine Ops.mv_sl rfl rfl rfl ?_
  refine Ops.len rfl rfl ?_
  refine Ops.mv_sl rfl rfl rfl ?_
  refine Ops.len rfl rfl ?_
  refine Ops.neq rfl rfl rfl ?_
  refine Ops.nil ?_
  refine thenQ_n ?_
  refine Cd.cond_p _ rfl (fun h => ?_) (fun h => ?_)
  · refine Cd.seq ?_
    refine Cd.region ?_
    refine Ops.mv_bool rfl rfl rfl ?_
    refine Ops.nil ?_
    refine thenQ_n ?_
    refine Cd.ret ?_
    refine thenQ_r ?_
    refine ret1_b rfl ?_
    exact ⟨by rw [decide_eq_false (fun e : xs = ys => h (by rw [e]))], St.refl _⟩
  refine Cd.skip ?_
  refine thenQ_n ?_
  refine Cd.seq ?_
  refine Cd.seq ?_
  refine Cd.region ?_
  refine Ops.mv_sl rfl rfl rfl ?_
  refine Ops.len rfl rfl ?_
  refine Ops.mv_int rfl rfl rfl ?_
  refine Ops.nil ?_
  refine thenQ_n ?_
  refine Cd.block ?_
  refine Cd.loop (α := Nat) (fun k => [(1, .slice A' ys.length c'), (2, .func (.func 57) #[] #[]), (15, .slice A xs.length c), (16, .int .i64 (xs.length : Int)), (17, .int .i64 (k : Int))]) (fun k w' => St w w' [] ∧ k ≤ xs.length ∧ xs.take k = ys.take k) (fun k => xs.length - k) 0 ⟨rfl, rfl, rfl, rfl, rfl, trivial⟩ ⟨St.refl w, Nat.zero_le _, rfl⟩ ?_
  rintro k e w2 ⟨hS2, hk, hI⟩
  have hle : xs.length = ys.length := by omega
  refine Cd.seq ?_
  refine Cd.region ?_
  refine Ops.lss rfl rfl rfl ?_
  refine Ops.nil ?_
  refine thenQ_n ?_
  refine Cd.seq ?_
  refine Cd.cond_p _ rfl (fun h1 => ?_) (fun h1 => ?_)
  · have hA := hS2.oldRows hR
    have hB := hS2.oldRows hR'
    have h2 : (k : Int) < ys.length := by omega
    have hx := gl_mem (p := xs) (k := k) (by omega)
    have hy := gl_mem (p := ys) (k := k) (by omega)
    have ha := hA.at_ (i := k) (by omega) h1
    have hb' := hB.at_ (i := k) (by omega) h2
    have hc := hA.cap_ (i := k) (by omega) h1
    refine Cd.skip ?_
    refine thenQ_n ?_
    refine Cd.seq ?_
    refine Cd.block ?_
    refine Cd.seq ?_
    refine Cd.region ?_
    refine Ops.mv_int rfl rfl rfl ?_
    refine Ops.idx hA.top.2 rfl rfl rfl (by omega) (by omega) ?_
    refine Ops.ld_sl hA.top rfl (by omega) rfl rfl ?_
    refine Ops.mv_int rfl rfl rfl ?_
    refine Ops.mv_sl rfl rfl rfl ?_
    refine Ops.nil ?_
    refine thenQ_n ?_
    refine Cd.seq ?_
    refine Cd.region ?_
    refine Ops.mv_sl rfl rfl rfl ?_
    refine Ops.mv_int rfl rfl rfl ?_
    refine Ops.idx hB.top.2 rfl rfl rfl (by omega) (by omega) ?_
    refine Ops.ld_sl hB.top rfl (by omega) rfl rfl ?_
    refine Ops.mv_sl rfl rfl rfl ?_
    refine Ops.nil ?_
    refine thenQ_n ?_
    refine Cd.seq ?_
    refine Cd.region ?_
    refine Ops.mv_fn rfl rfl rfl ?_
    refine Ops.mv_sl rfl rfl rfl ?_
    refine Ops.mv_sl rfl rfl rfl ?_
    refine Ops.call (Equal_c _ _ _ _ _ _ _ _ _ ha hb' (by omega)) rfl rfl rfl ?_
    rintro _ w3 ⟨rfl, hst⟩
    have hS3 := hS2.later hst.below
    first | refine Ops.not_p rfl rfl ?_ | refine Ops.not rfl rfl ?_
    refine Ops.nil ?_
    refine thenQ_n ?_
    refine Cd.cond_p _ rfl (fun h3 => ?_) (fun h3 => ?_)
    · refine Cd.seq ?_
      refine Cd.region ?_
      refine Ops.mv_bool rfl rfl rfl ?_
      refine Ops.nil ?_
      refine thenQ_n ?_
      refine Cd.ret ?_
      refine blockQ_r ?_
      refine thenQ_r ?_
      refine thenQ_r ?_
      refine blockQ_r ?_
      refine thenQ_r ?_
      refine ret1_b rfl ?_
      refine ⟨by rw [decide_eq_false (fun e : xs = ys => h3 (by rw [e]))], hS3⟩
    · refine Cd.skip ?_
      refine blockQ_n ?_
      refine thenQ_n ?_
      refine Cd.region ?_
      refine Ops.add rfl rfl rfl (by omega) ?_
      refine Ops.mv_int rfl rfl rfl ?_
      refine Ops.nil ?_
      refine thenQ_n ?_
      refine ⟨k + 1, by omega, ⟨rfl, rfl, rfl, rfl, rfl, trivial⟩, hS3, by omega, ?_⟩
      rw [take_succ_gl (by omega), take_succ_gl (by omega), hI, Classical.not_not.1 h3]
  · refine Cd.exit ?_
    refine thenQ_x ?_
    refine thenQ_x ?_
    refine blockQ_x ?_
    refine thenQ_n ?_
    refine Cd.seq ?_
    refine Cd.region ?_
    refine Ops.mv_bool rfl rfl rfl ?_
    refine Ops.nil ?_
    refine thenQ_n ?_
    refine Cd.ret ?_
    refine ret1_b rfl ?_
    refine ⟨?_, hS2⟩
    rw [List.take_of_length_le (by omega), List.take_of_length_le (by omega)] at hI
    rw [decide_eq_true hI]

theorem sameManiplex_c (A : Option Addr) (n c : Nat) (rs : List SlV) (xss : List (List Int)) (A' : Option Addr) (n' c' : Nat) (rs' : List SlV) (yss : List (List Int)) (w : World) (hX : RowsI w A n rs xss) (hY : RowsI w A' n' rs' yss) (hn : n ≤ 9223372036854775807) :
    Ret Tryz.prog 91 [.agg #[.slice A n c], .agg #[.slice A' n' c']] w (fun v w' => v = .bool (decide (xss = yss)) ∧ St w w' []) := by
  refine Ret.of_cd Tryz.func91 rfl Tryz.ntmps91 rfl (post1 rfl) ?_
  refine Cd.seq ?_
  refine Cd.region ?_
  refine Ops.box1 (St.refl w) rfl rfl ?_
  intro Ab w1 hS1
  refine Ops.box1 hS1 rfl rfl ?_
  intro Ac w2 hS2
  refine Ops.mv_bool rfl rfl rfl ?_
  refine Ops.nil ?_
  refine thenQ_n ?_
  refine Cd.seq ?_
  refine Cd.region ?_
  refine Ops.fld (hS2.rd 1 rfl) rfl rfl rfl rfl inferInstance ?_
  refine Ops.ldf_s (hS2.rd 1 rfl) rfl rfl rfl rfl rfl ?_
  refine Ops.fld (hS2.rd 0 rfl) rfl rfl rfl rfl inferInstance ?_
  refine Ops.ldf_s (hS2.rd 0 rfl) rfl rfl rfl rfl rfl ?_
  refine Ops.call (EqualFunc_c A n c rs xss A' n' c' rs' yss _ (hS2.oldRows hX) (hS2.oldRows hY) hn) rfl rfl rfl ?_
  rintro _ w3 ⟨rfl, hst⟩
  refine Ops.mv_bool rfl rfl rfl ?_
  refine Ops.nil ?_
  refine thenQ_n ?_
  refine Cd.ret ?_
  refine ret1_b rfl ?_
  exact ⟨rfl, (hS2.later hst.below).none⟩

/-! the reference's side -/
theorem l01Same_c (A : Option Addr) (n c : Nat) (xs : List Int) (A' : Option Addr) (n' c' : Nat) (ys : List Int) (w : World) (hR : RdI w A n xs) (hR' : RdI w A' n' ys) (hn : n ≤ 9223372036854775807) :
    Ret Tryz.prog 135 [.slice A n c, .slice A' n' c'] w (fun v w' => v = .bool (decide (xs = ys)) ∧ St w w' []) := by
  have hl := hR.1
  have hl' := hR'.1
  subst hl
  subst hl'
  refine Ret.of_cd Tryz.func135 rfl Tryz.ntmps135 rfl (post1 rfl) ?_
  refine Cd.seq ?_
  refine Cd.region ?_
  refine Ops.mv_bool rfl rfl rfl ?_
  refine Ops.nil ?_
  refine thenQ_n ?_
  refine Cd.seq ?_
  refine Cd.seq ?_
  refine Cd.region ?_
  refine Ops.mv_sl rfl rfl rfl ?_
  refine Ops.len rfl rfl ?_
  refine Ops.mv_sl rfl rfl rfl ?_
  refine Ops.len rfl rfl ?_
  refine Ops.neq rfl rfl rfl ?_
  refine Ops.nil ?_
  refine thenQ_n ?_
  refine Cd.cond_p _ rfl (fun h => ?_) (fun h => ?_)
  · refine Cd.seq ?_
    refine Cd.region ?_
    refine Ops.mv_bool rfl rfl rfl ?_
    refine Ops.nil ?_
    refine thenQ_n ?_
    refine Cd.ret ?_
    refine thenQ_r ?_
    refine ret1_b rfl ?_
    exact ⟨by rw [decide_eq_false (fun e : xs = ys => h (by rw [e]))], St.refl _⟩
  refine Cd.skip ?_
  refine thenQ_n ?_
  refine Cd.seq ?_
  refine Cd.seq ?_
  refine Cd.region ?_
  refine Ops.mv_int rfl rfl rfl ?_
  refine Ops.nil ?_
  refine thenQ_n ?_
  refine Cd.block ?_
  refine Cd.loop (α := Nat) (fun k => [(0, .slice A xs.length c), (1, .slice A' ys.length c'), (5, .int .i64 (k : Int))]) (fun k w' => St w w' [] ∧ k ≤ xs.length ∧ xs.take k = ys.take k) (fun k => xs.length - k) 0 ⟨rfl, rfl, rfl, trivial⟩ ⟨St.refl w, Nat.zero_le _, rfl⟩ ?_
  rintro k e w2 ⟨hS2, hk, hI⟩
  have hle : xs.length = ys.length := by omega
  refine Cd.seq ?_
  refine Cd.seq ?_
  refine Cd.region ?_
  refine Ops.mv_int rfl rfl rfl ?_
  refine Ops.mv_sl rfl rfl rfl ?_
  refine Ops.len rfl rfl ?_
  refine Ops.lss rfl rfl rfl ?_
  refine Ops.nil ?_
  refine thenQ_n ?_
  refine Cd.cond_p _ rfl (fun h1 => ?_) (fun h1 => ?_)
  · have hA := hS2.oldI hR
    have hB := hS2.oldI hR'
    have h2 : (k : Int) < ys.length := by omega
    have hx := gi_mem (p := xs) (k := k) (by omega)
    have hy := gi_mem (p := ys) (k := k) (by omega)
    refine Cd.skip ?_
    refine thenQ_n ?_
    refine Cd.seq ?_
    refine Cd.block ?_
    refine Cd.seq ?_
    refine Cd.draw [.ex (.slice (A) (xs.length) (c)), .ex (.int .i64 ((k : Int))), .ex (.pointer (ptrAt (A) ((k : Int)).toNat)), .ex (.int .i64 (gi (xs) ((k : Int)))), .ex (.slice (A') (ys.length) (c')), .ex (.int .i64 ((k : Int))), .ex (.pointer (ptrAt (A') ((k : Int)).toNat)), .ex (.int .i64 (gi (ys) ((k : Int)))), .ex (.bool (decide (¬ (gi (xs) ((k : Int))) = (gi (ys) ((k : Int))))))] (by kernel_rfl) (by kernel_rfl) rfl (List.forall_mem_cons.2 ⟨Yd.lasts_ex _, (List.forall_mem_cons.2 ⟨Yd.lasts_ex _, (List.forall_mem_cons.2 ⟨Yd.lasts_ex _, (List.forall_mem_cons.2 ⟨Yd.lasts_ex _, (List.forall_mem_cons.2 ⟨Yd.lasts_ex _, (List.forall_mem_cons.2 ⟨Yd.lasts_ex _, (List.forall_mem_cons.2 ⟨Yd.lasts_ex _, (List.forall_mem_cons.2 ⟨Yd.lasts_ex _, (List.forall_mem_cons.2 ⟨Yd.lasts_ex _, (fun _ h => by cases h)⟩)⟩)⟩)⟩)⟩)⟩)⟩)⟩)⟩) ⟨?_, ?_, ?_, ?_, ?_, ?_, ?_, ?_, ?_, trivial⟩ ?_
    · intro e1 w1 hb hp hun
      refine Ops.mv_sl rfl rfl rfl ?_
      refine Ops.nil ?_
      exact After.dn (Below.refl _ _) (by exact rfl)
    · intro e1 w1 hb hp hun
      refine Ops.mv_int rfl rfl rfl ?_
      refine Ops.nil ?_
      exact After.dn (Below.refl _ _) (by exact rfl)
    · intro e1 w1 hb hp hun
      refine Ops.idx (hA.later hb).2 rfl rfl rfl (by omega) (by omega) ?_
      refine Ops.nil ?_
      exact After.dn (Below.refl _ _) (by exact rfl)
    · intro e1 w1 hb hp hun
      refine Ops.ld_int (hA.later hb) rfl (by omega) rfl rfl ?_
      refine Ops.nil ?_
      exact After.dn (Below.refl _ _) (by exact rfl)
    · intro e1 w1 hb hp hun
      refine Ops.mv_sl rfl rfl rfl ?_
      refine Ops.nil ?_
      exact After.dn (Below.refl _ _) (by exact rfl)
    · intro e1 w1 hb hp hun
      refine Ops.mv_int rfl rfl rfl ?_
      refine Ops.nil ?_
      exact After.dn (Below.refl _ _) (by exact rfl)
    · intro e1 w1 hb hp hun
      refine Ops.idx (hB.later hb).2 rfl rfl rfl (by omega) (by omega) ?_
      refine Ops.nil ?_
      exact After.dn (Below.refl _ _) (by exact rfl)
    · intro e1 w1 hb hp hun
      refine Ops.ld_int (hB.later hb) rfl (by omega) rfl rfl ?_
      refine Ops.nil ?_
      exact After.dn (Below.refl _ _) (by exact rfl)
    · intro e1 w1 hb hp hun
      refine Ops.neq rfl rfl rfl ?_
      refine Ops.nil ?_
      exact After.dn (Below.refl _ _) (by exact rfl)
    intro u w3 hb3 _
    have hS3 := hS2.later hb3
    refine thenQ_n ?_
    refine Cd.cond_p _ rfl (fun h3 => ?_) (fun h3 => ?_)
    · refine Cd.seq ?_
      refine Cd.region ?_
      refine Ops.mv_bool rfl rfl rfl ?_
      refine Ops.nil ?_
      refine thenQ_n ?_
      refine Cd.ret ?_
      refine blockQ_r ?_
      refine thenQ_r ?_
      refine thenQ_r ?_
      refine blockQ_r ?_
      refine thenQ_r ?_
      refine ret1_b rfl ?_
      refine ⟨by rw [decide_eq_false (fun e : xs = ys => h3 (by rw [e]))], hS3⟩
    · refine Cd.skip ?_
      refine blockQ_n ?_
      refine thenQ_n ?_
      refine Cd.region ?_
      refine Ops.mv_int rfl rfl rfl ?_
      refine Ops.add rfl rfl rfl (by omega) ?_
      refine Ops.mv_int rfl rfl rfl ?_
      refine Ops.nil ?_
      refine thenQ_n ?_
      refine ⟨k + 1, by omega, ⟨rfl, rfl, rfl, trivial⟩, hS3, by omega, ?_⟩
      rw [take_succ_gi (by omega), take_succ_gi (by omega), hI, Classical.not_not.1 h3]
  · refine Cd.exit ?_
    refine thenQ_x ?_
    refine thenQ_x ?_
    refine blockQ_x ?_
    refine thenQ_n ?_
    refine Cd.seq ?_
    refine Cd.region ?_
    refine Ops.mv_bool rfl rfl rfl ?_
    refine Ops.nil ?_
    refine thenQ_n ?_
    refine Cd.ret ?_
    refine ret1_b rfl ?_
    refine ⟨?_, hS2⟩
    rw [List.take_of_length_le (by omega), List.take_of_length_le (by omega)] at hI
    rw [decide_eq_true hI]

theorem l01Same2_c (A : Option Addr) (n c : Nat) (rs : List SlV) (xs : List (List Int)) (A' : Option Addr) (n' c' : Nat) (rs' : List SlV) (ys : List (List Int)) (w : World) (hR : RowsI w A n rs xs) (hR' : RowsI w A' n' rs' ys) (hn : n ≤ 9223372036854775807) :
    Ret Tryz.prog 175 [.slice A n c, .slice A' n' c'] w (fun v w' => v = .bool (decide (xs = ys)) ∧ St w w' []) := by
  have hl := hR.len
  have hl' := hR'.len
  subst hl
  subst hl'
  refine Ret.of_cd Tryz.func175 rfl Tryz.ntmps175 rfl (post1 rfl) ?_
  refine Cd.seq ?_
  refine Cd.region ?_
  refine Ops.mv_bool rfl rfl rfl ?_
  refine Ops.nil ?_
  refine thenQ_n ?_
  refine Cd.seq ?_
  refine Cd.seq ?_
  refine Cd.region ?_
  refine Ops.mv_sl rfl rfl rfl ?_
  refine Ops.len rfl rfl ?_
  refine Ops.mv_sl rfl rfl rfl ?_
  refine Ops.len rfl rfl ?_
  refine Ops.neq rfl rfl rfl ?_
  refine Ops.nil ?_
  refine thenQ_n ?_
  refine Cd.cond_p _ rfl (fun h => ?_) (fun h => ?_)
  · refine Cd.seq ?_
    refine Cd.region ?_
    refine Ops.mv_bool rfl rfl rfl ?_
    refine Ops.nil ?_
    refine thenQ_n ?_
    refine Cd.ret ?_
    refine thenQ_r ?_
    refine ret1_b rfl ?_
    exact ⟨by rw [decide_eq_false (fun e : xs = ys => h (by rw [e]))], St.refl _⟩
  refine Cd.skip ?_
  refine thenQ_n ?_
  refine Cd.seq ?_
  refine Cd.seq ?_
  refine Cd.region ?_
  refine Ops.mv_int rfl rfl rfl ?_
  refine Ops.nil ?_
  refine thenQ_n ?_
  refine Cd.block ?_
  refine Cd.loop (α := Nat) (fun k => [(0, .slice A xs.length c), (1, .slice A' ys.length c'), (5, .int .i64 (k : Int))]) (fun k w' => St w w' [] ∧ k ≤ xs.length ∧ xs.take k = ys.take k) (fun k => xs.length - k) 0 ⟨rfl, rfl, rfl, trivial⟩ ⟨St.refl w, Nat.zero_le _, rfl⟩ ?_
  rintro k e w2 ⟨hS2, hk, hI⟩
  have hle : xs.length = ys.length := by omega
  refine Cd.seq ?_
  refine Cd.seq ?_
  refine Cd.region ?_
  refine Ops.mv_int rfl rfl rfl ?_
  refine Ops.mv_sl rfl rfl rfl ?_
  refine Ops.len rfl rfl ?_
  refine Ops.lss rfl rfl rfl ?_
  refine Ops.nil ?_
  refine thenQ_n ?_
  refine Cd.cond_p _ rfl (fun h1 => ?_) (fun h1 => ?_)
  · have hA := hS2.oldRows hR
    have hB := hS2.oldRows hR'
    have hAt := hA.top
    have hBt := hB.top
    have h2 : (k : Int) < ys.length := by omega
    have hx := gl_mem (p := xs) (k := k) (by omega)
    have hy := gl_mem (p := ys) (k := k) (by omega)
    have ha := hA.at_ (i := k) (by omega) h1
    have hb' := hB.at_ (i := k) (by omega) h2
    have hc := hA.cap_ (i := k) (by omega) h1
    refine Cd.skip ?_
    refine thenQ_n ?_
    refine Cd.seq ?_
    refine Cd.block ?_
    refine Cd.seq ?_
    refine Cd.draw [.ex (.slice (A) (xs.length) (c)), .ex (.int .i64 ((k : Int))), .ex (.pointer (ptrAt (A) ((k : Int)).toNat)), .ex (.slice ((rg (rs) ((k : Int))).a) ((rg (rs) ((k : Int))).n) ((rg (rs) ((k : Int))).c)), .ex (.slice (A') (ys.length) (c')), .ex (.int .i64 ((k : Int))), .ex (.pointer (ptrAt (A') ((k : Int)).toNat)), .ex (.slice ((rg (rs') ((k : Int))).a) ((rg (rs') ((k : Int))).n) ((rg (rs') ((k : Int))).c)), .ex (.bool (decide (gl xs k = gl ys k))), .ex (.bool (decide (¬ (gl xs k = gl ys k))))] (by kernel_rfl) (by kernel_rfl) rfl (List.forall_mem_cons.2 ⟨Yd.lasts_ex _, (List.forall_mem_cons.2 ⟨Yd.lasts_ex _, (List.forall_mem_cons.2 ⟨Yd.lasts_ex _, (List.forall_mem_cons.2 ⟨Yd.lasts_ex _, (List.forall_mem_cons.2 ⟨Yd.lasts_ex _, (List.forall_mem_cons.2 ⟨Yd.lasts_ex _, (List.forall_mem_cons.2 ⟨Yd.lasts_ex _, (List.forall_mem_cons.2 ⟨Yd.lasts_ex _, (List.forall_mem_cons.2 ⟨Yd.lasts_ex _, (List.forall_mem_cons.2 ⟨Yd.lasts_ex _, (fun _ h => by cases h)⟩)⟩)⟩)⟩)⟩)⟩)⟩)⟩)⟩)⟩) ⟨?_, ?_, ?_, ?_, ?_, ?_, ?_, ?_, ?_, ?_, trivial⟩ ?_
    · intro e1 w1 hb hp hun
      refine Ops.mv_sl rfl rfl rfl ?_
      refine Ops.nil ?_
      exact After.dn (Below.refl _ _) (by exact rfl)
    · intro e1 w1 hb hp hun
      refine Ops.mv_int rfl rfl rfl ?_
      refine Ops.nil ?_
      exact After.dn (Below.refl _ _) (by exact rfl)
    · intro e1 w1 hb hp hun
      refine Ops.idx (hAt.later hb).2 rfl rfl rfl (by omega) (by omega) ?_
      refine Ops.nil ?_
      exact After.dn (Below.refl _ _) (by exact rfl)
    · intro e1 w1 hb hp hun
      refine Ops.ld_sl (hAt.later hb) rfl (by omega) rfl rfl ?_
      refine Ops.nil ?_
      exact After.dn (Below.refl _ _) (by exact rfl)
    · intro e1 w1 hb hp hun
      refine Ops.mv_sl rfl rfl rfl ?_
      refine Ops.nil ?_
      exact After.dn (Below.refl _ _) (by exact rfl)
    · intro e1 w1 hb hp hun
      refine Ops.mv_int rfl rfl rfl ?_
      refine Ops.nil ?_
      exact After.dn (Below.refl _ _) (by exact rfl)
    · intro e1 w1 hb hp hun
      refine Ops.idx (hBt.later hb).2 rfl rfl rfl (by omega) (by omega) ?_
      refine Ops.nil ?_
      exact After.dn (Below.refl _ _) (by exact rfl)
    · intro e1 w1 hb hp hun
      refine Ops.ld_sl (hBt.later hb) rfl (by omega) rfl rfl ?_
      refine Ops.nil ?_
      exact After.dn (Below.refl _ _) (by exact rfl)
    · intro e1 w1 hb hp hun
      refine Ops.call (l01Same_c _ _ _ _ _ _ _ _ _ (ha.later hb) (hb'.later hb) (by omega)) rfl rfl rfl ?_
      rintro _ w2 ⟨rfl, hst⟩
      refine Ops.nil ?_
      exact After.dn hst.below (by exact rfl)
    · intro e1 w1 hb hp hun
      refine Ops.not_p rfl rfl ?_
      refine Ops.nil ?_
      exact After.dn (Below.refl _ _) (by exact rfl)
    intro u w3 hb3 _
    have hS3 := hS2.later hb3
    refine thenQ_n ?_
    refine Cd.cond_p _ rfl (fun h3 => ?_) (fun h3 => ?_)
    · refine Cd.seq ?_
      refine Cd.region ?_
      refine Ops.mv_bool rfl rfl rfl ?_
      refine Ops.nil ?_
      refine thenQ_n ?_
      refine Cd.ret ?_
      refine blockQ_r ?_
      refine thenQ_r ?_
      refine thenQ_r ?_
      refine blockQ_r ?_
      refine thenQ_r ?_
      refine ret1_b rfl ?_
      refine ⟨by rw [decide_eq_false (fun e : xs = ys => h3 (by rw [e]))], hS3⟩
    · refine Cd.skip ?_
      refine blockQ_n ?_
      refine thenQ_n ?_
      refine Cd.region ?_
      refine Ops.mv_int rfl rfl rfl ?_
      refine Ops.add rfl rfl rfl (by omega) ?_
      refine Ops.mv_int rfl rfl rfl ?_
      refine Ops.nil ?_
      refine thenQ_n ?_
      refine ⟨k + 1, by omega, ⟨rfl, rfl, rfl, trivial⟩, hS3, by omega, ?_⟩
      rw [take_succ_gl (by omega), take_succ_gl (by omega), hI, Classical.not_not.1 h3]
  · refine Cd.exit ?_
    refine thenQ_x ?_
    refine thenQ_x ?_
    refine blockQ_x ?_
    refine thenQ_n ?_
    refine Cd.seq ?_
    refine Cd.region ?_
    refine Ops.mv_bool rfl rfl rfl ?_
    refine Ops.nil ?_
    refine thenQ_n ?_
    refine Cd.ret ?_
    refine ret1_b rfl ?_
    refine ⟨?_, hS2⟩
    rw [List.take_of_length_le (by omega), List.take_of_length_le (by omega)] at hI
    rw [decide_eq_true hI]

theorem l02Same_c (A : Option Addr) (n c : Nat) (rs : List SlV) (xss : List (List Int)) (A' : Option Addr) (n' c' : Nat) (rs' : List SlV) (yss : List (List Int)) (w : World) (hX : RowsI w A n rs xss) (hY : RowsI w A' n' rs' yss) (hn : n ≤ 9223372036854775807) :
    Ret Tryz.prog 134 [.agg #[.slice A n c], .agg #[.slice A' n' c']] w (fun v w' => v = .bool (decide (xss = yss)) ∧ St w w' []) := by
  refine Ret.of_cd Tryz.func134 rfl Tryz.ntmps134 rfl (post1 rfl) ?_
  refine Cd.seq ?_
  refine Cd.region ?_
  refine Ops.box1 (St.refl w) rfl rfl ?_
  intro Ab w1 hS1
  refine Ops.box1 hS1 rfl rfl ?_
  intro Ac w2 hS2
  refine Ops.mv_bool rfl rfl rfl ?_
  refine Ops.nil ?_
  refine thenQ_n ?_
  refine Cd.seq ?_
  refine Cd.region ?_
  refine Ops.fld (hS2.rd 1 rfl) rfl rfl rfl rfl inferInstance ?_
  refine Ops.ldf_s (hS2.rd 1 rfl) rfl rfl rfl rfl rfl ?_
  refine Ops.fld (hS2.rd 0 rfl) rfl rfl rfl rfl inferInstance ?_
  refine Ops.ldf_s (hS2.rd 0 rfl) rfl rfl rfl rfl rfl ?_
  refine Ops.call (l01Same2_c A n c rs xss A' n' c' rs' yss _ (hS2.oldRows hX) (hS2.oldRows hY) hn) rfl rfl rfl ?_
  rintro _ w3 ⟨rfl, hst⟩
  refine Ops.mv_bool rfl rfl rfl ?_
  refine Ops.nil ?_
  refine thenQ_n ?_
  refine Cd.ret ?_
  refine ret1_b rfl ?_
  exact ⟨rfl, (hS2.later hst.below).none⟩

theorem l01Less_c (A : Option Addr) (n c : Nat) (xs : List Int) (A' : Option Addr) (n' c' : Nat) (ys : List Int) (w : World) (hX : RdI w A n xs) (hY : RdI w A' n' ys) (hn : n ≤ 9223372036854775807) :
    Ret Tryz.prog 136 [.slice A n c, .slice A' n' c'] w (fun v w' => v = .bool (decide (lexC xs ys < 0)) ∧ St w w' []) := by
  have hxl := hX.1
  have hyl := hY.1
  refine Ret.of_cd Tryz.func136 rfl Tryz.ntmps136 rfl (post1 rfl) ?_
  refine Cd.seq ?_
  refine Cd.region ?_
  refine Ops.mv_bool rfl rfl rfl ?_
  refine Ops.nil ?_
  refine thenQ_n ?_
  refine Cd.seq ?_
  refine Cd.seq ?_
  refine Cd.region ?_
  refine Ops.mv_int rfl rfl rfl ?_
  refine Ops.nil ?_
  refine thenQ_n ?_
  refine Cd.block ?_
  refine Cd.loop (α := Nat) (fun k => [(0, .slice A n c), (1, .slice A' n' c'), (5, .int .i64 (k : Int))]) (fun k w' => St w w' [] ∧ k ≤ n ∧ k ≤ n' ∧ lexC xs ys = lexC (xs.drop k) (ys.drop k)) (fun k => n - k) 0 ⟨rfl, rfl, rfl, trivial⟩ ⟨St.refl w, Nat.zero_le _, Nat.zero_le _, rfl⟩ ?_
  rintro k e w2 ⟨hS2, hk, hk', hK⟩
  have hX2 := hS2.oldI hX
  have hY2 := hS2.oldI hY
  refine Cd.seq ?_
  refine Cd.seq ?_
  refine Cd.region ?_
  refine Ops.mv_int rfl rfl rfl ?_
  refine Ops.mv_sl rfl rfl rfl ?_
  refine Ops.len rfl rfl ?_
  refine Ops.lss rfl rfl rfl ?_
  refine Ops.mv_bool rfl rfl rfl ?_
  refine Ops.split_p 10 rfl (fun h1 => ?_) (fun h1 => ?_)
  · refine Ops.rung rfl rfl rfl ?_
    refine Ops.mv_int rfl rfl rfl ?_
    refine Ops.rung rfl rfl rfl ?_
    refine Ops.mv_sl rfl rfl rfl ?_
    refine Ops.rung rfl rfl rfl ?_
    refine Ops.len rfl rfl ?_
    refine Ops.rung rfl rfl rfl ?_
    refine Ops.lss rfl rfl rfl ?_
    refine Ops.pick_t rfl rfl rfl ?_
    refine Ops.nil ?_
    refine thenQ_n ?_
    refine Cd.cond_p _ rfl (fun h2 => ?_) (fun h2 => ?_)
    · rw [lexC_step (by omega) (by omega)] at hK
      refine Cd.skip ?_
      refine thenQ_n ?_
      refine Cd.seq ?_
      refine Cd.block ?_
      refine Cd.seq ?_
      refine Cd.draw [.ex (.slice (A) (n) (c)), .ex (.int .i64 ((k : Int))), .ex (.pointer (ptrAt (A) ((k : Int)).toNat)), .ex (.int .i64 (gi (xs) ((k : Int)))), .ex (.slice (A') (n') (c')), .ex (.int .i64 ((k : Int))), .ex (.pointer (ptrAt (A') ((k : Int)).toNat)), .ex (.int .i64 (gi (ys) ((k : Int)))), .ex (.bool (decide (¬ (gi (xs) ((k : Int))) = (gi (ys) ((k : Int))))))] (by kernel_rfl) (by kernel_rfl) rfl (List.forall_mem_cons.2 ⟨Yd.lasts_ex _, (List.forall_mem_cons.2 ⟨Yd.lasts_ex _, (List.forall_mem_cons.2 ⟨Yd.lasts_ex _, (List.forall_mem_cons.2 ⟨Yd.lasts_ex _, (List.forall_mem_cons.2 ⟨Yd.lasts_ex _, (List.forall_mem_cons.2 ⟨Yd.lasts_ex _, (List.forall_mem_cons.2 ⟨Yd.lasts_ex _, (List.forall_mem_cons.2 ⟨Yd.lasts_ex _, (List.forall_mem_cons.2 ⟨Yd.lasts_ex _, (fun _ h => by cases h)⟩)⟩)⟩)⟩)⟩)⟩)⟩)⟩)⟩) ⟨?_, ?_, ?_, ?_, ?_, ?_, ?_, ?_, ?_, trivial⟩ ?_
      · intro e1 w1 hb hp hun
        refine Ops.mv_sl rfl rfl rfl ?_
        refine Ops.nil ?_
        exact After.dn (Below.refl _ _) (by exact rfl)
      · intro e1 w1 hb hp hun
        refine Ops.mv_int rfl rfl rfl ?_
        refine Ops.nil ?_
        exact After.dn (Below.refl _ _) (by exact rfl)
      · intro e1 w1 hb hp hun
        refine Ops.idx (hX2.later hb).2 rfl rfl rfl (by omega) (by omega) ?_
        refine Ops.nil ?_
        exact After.dn (Below.refl _ _) (by exact rfl)
      · intro e1 w1 hb hp hun
        refine Ops.ld_int (hX2.later hb) rfl (by omega) rfl rfl ?_
        refine Ops.nil ?_
        exact After.dn (Below.refl _ _) (by exact rfl)
      · intro e1 w1 hb hp hun
        refine Ops.mv_sl rfl rfl rfl ?_
        refine Ops.nil ?_
        exact After.dn (Below.refl _ _) (by exact rfl)
      · intro e1 w1 hb hp hun
        refine Ops.mv_int rfl rfl rfl ?_
        refine Ops.nil ?_
        exact After.dn (Below.refl _ _) (by exact rfl)
      · intro e1 w1 hb hp hun
        refine Ops.idx (hY2.later hb).2 rfl rfl rfl (by omega) (by omega) ?_
        refine Ops.nil ?_
        exact After.dn (Below.refl _ _) (by exact rfl)
      · intro e1 w1 hb hp hun
        refine Ops.ld_int (hY2.later hb) rfl (by omega) rfl rfl ?_
        refine Ops.nil ?_
        exact After.dn (Below.refl _ _) (by exact rfl)
      · intro e1 w1 hb hp hun
        refine Ops.neq rfl rfl rfl ?_
        refine Ops.nil ?_
        exact After.dn (Below.refl _ _) (by exact rfl)
      intro u w3 hb3 _
      have hS3 := hS2.later hb3
      have hX3 := hS3.oldI hX
      have hY3 := hS3.oldI hY
      refine thenQ_n ?_
      refine Cd.cond_p _ rfl (fun h3 => ?_) (fun h3 => ?_)
      · rw [if_neg (fun h => h3 (cmpI_zero.1 h))] at hK
        refine Cd.seq ?_
        refine Cd.draw [.ex (.slice (A) (n) (c)), .ex (.int .i64 ((k : Int))), .ex (.pointer (ptrAt (A) ((k : Int)).toNat)), .ex (.int .i64 (gi (xs) ((k : Int)))), .ex (.slice (A') (n') (c')), .ex (.int .i64 ((k : Int))), .ex (.pointer (ptrAt (A') ((k : Int)).toNat)), .ex (.int .i64 (gi (ys) ((k : Int)))), .ex (.bool (decide ((gi (xs) ((k : Int))) < (gi (ys) ((k : Int)))))), .ex (.bool (decide ((gi (xs) ((k : Int))) < (gi (ys) ((k : Int))))))] (by kernel_rfl) (by kernel_rfl) rfl (List.forall_mem_cons.2 ⟨Yd.lasts_ex _, (List.forall_mem_cons.2 ⟨Yd.lasts_ex _, (List.forall_mem_cons.2 ⟨Yd.lasts_ex _, (List.forall_mem_cons.2 ⟨Yd.lasts_ex _, (List.forall_mem_cons.2 ⟨Yd.lasts_ex _, (List.forall_mem_cons.2 ⟨Yd.lasts_ex _, (List.forall_mem_cons.2 ⟨Yd.lasts_ex _, (List.forall_mem_cons.2 ⟨Yd.lasts_ex _, (List.forall_mem_cons.2 ⟨Yd.lasts_ex _, (List.forall_mem_cons.2 ⟨Yd.lasts_ex _, (fun _ h => by cases h)⟩)⟩)⟩)⟩)⟩)⟩)⟩)⟩)⟩)⟩) ⟨?_, ?_, ?_, ?_, ?_, ?_, ?_, ?_, ?_, ?_, trivial⟩ ?_
        · intro e1 w1 hb hp hun
          refine Ops.mv_sl rfl rfl rfl ?_
          refine Ops.nil ?_
          exact After.dn (Below.refl _ _) (by exact rfl)
        · intro e1 w1 hb hp hun
          refine Ops.mv_int rfl rfl rfl ?_
          refine Ops.nil ?_
          exact After.dn (Below.refl _ _) (by exact rfl)
        · intro e1 w1 hb hp hun
          refine Ops.idx (hX3.later hb).2 rfl rfl rfl (by omega) (by omega) ?_
          refine Ops.nil ?_
          exact After.dn (Below.refl _ _) (by exact rfl)
        · intro e1 w1 hb hp hun
          refine Ops.ld_int (hX3.later hb) rfl (by omega) rfl rfl ?_
          refine Ops.nil ?_
          exact After.dn (Below.refl _ _) (by exact rfl)
        · intro e1 w1 hb hp hun
          refine Ops.mv_sl rfl rfl rfl ?_
          refine Ops.nil ?_
          exact After.dn (Below.refl _ _) (by exact rfl)
        · intro e1 w1 hb hp hun
          refine Ops.mv_int rfl rfl rfl ?_
          refine Ops.nil ?_
          exact After.dn (Below.refl _ _) (by exact rfl)
        · intro e1 w1 hb hp hun
          refine Ops.idx (hY3.later hb).2 rfl rfl rfl (by omega) (by omega) ?_
          refine Ops.nil ?_
          exact After.dn (Below.refl _ _) (by exact rfl)
        · intro e1 w1 hb hp hun
          refine Ops.ld_int (hY3.later hb) rfl (by omega) rfl rfl ?_
          refine Ops.nil ?_
          exact After.dn (Below.refl _ _) (by exact rfl)
        · intro e1 w1 hb hp hun
          refine Ops.lss rfl rfl rfl ?_
          refine Ops.nil ?_
          exact After.dn (Below.refl _ _) (by exact rfl)
        · intro e1 w1 hb hp hun
          refine Ops.mv_bool rfl rfl rfl ?_
          refine Ops.nil ?_
          exact After.dn (Below.refl _ _) (by exact rfl)
        intro u2 w4 hb4 _
        have hS4 := hS3.later hb4
        refine thenQ_n ?_
        refine Cd.ret ?_
        refine blockQ_r ?_
        refine thenQ_r ?_
        refine thenQ_r ?_
        refine blockQ_r ?_
        refine thenQ_r ?_
        refine ret1_b rfl ?_
        exact ⟨congrArg Value.bool (decide_eq_decide.2 (by rw [hK, cmpI_neg])), hS4⟩
      · rw [if_pos (cmpI_zero.2 (Classical.not_not.1 h3))] at hK
        refine Cd.skip ?_
        refine blockQ_n ?_
        refine thenQ_n ?_
        refine Cd.region ?_
        refine Ops.mv_int rfl rfl rfl ?_
        refine Ops.add rfl rfl rfl (by omega) ?_
        refine Ops.mv_int rfl rfl rfl ?_
        refine Ops.nil ?_
        refine thenQ_n ?_
        exact ⟨k + 1, by show n - (k + 1) < n - k; omega, ⟨rfl, rfl, rfl, trivial⟩, hS3, by omega, by omega, hK⟩
    · rw [lexC_endR (by omega) (by omega)] at hK
      refine Cd.exit ?_
      refine thenQ_x ?_
      refine thenQ_x ?_
      refine blockQ_x ?_
      refine thenQ_n ?_
      refine Cd.seq ?_
      refine Cd.region ?_
      refine Ops.mv_sl rfl rfl rfl ?_
      refine Ops.len rfl rfl ?_
      refine Ops.mv_sl rfl rfl rfl ?_
      refine Ops.len rfl rfl ?_
      refine Ops.lss rfl rfl rfl ?_
      refine Ops.mv_bool rfl rfl rfl ?_
      refine Ops.nil ?_
      refine thenQ_n ?_
      refine Cd.ret ?_
      refine ret1_b rfl ?_
      exact ⟨congrArg Value.bool (decide_eq_decide.2 (by rw [hK]; omega)), hS2⟩
  · rw [lexC_endL (by omega)] at hK
    refine Ops.skipg rfl rfl rfl rfl rfl ?_
    refine Ops.skipg rfl rfl rfl rfl rfl ?_
    refine Ops.skipg rfl rfl rfl rfl rfl ?_
    refine Ops.skipg rfl rfl rfl rfl rfl ?_
    refine Ops.pick_f rfl rfl rfl ?_
    refine Ops.nil ?_
    refine thenQ_n ?_
    refine Cd.cond_f rfl ?_
    refine Cd.exit ?_
    refine thenQ_x ?_
    refine thenQ_x ?_
    refine blockQ_x ?_
    refine thenQ_n ?_
    refine Cd.seq ?_
    refine Cd.region ?_
    refine Ops.mv_sl rfl rfl rfl ?_
    refine Ops.len rfl rfl ?_
    refine Ops.mv_sl rfl rfl rfl ?_
    refine Ops.len rfl rfl ?_
    refine Ops.lss rfl rfl rfl ?_
    refine Ops.mv_bool rfl rfl rfl ?_
    refine Ops.nil ?_
    refine thenQ_n ?_
    refine Cd.ret ?_
    refine ret1_b rfl ?_
    exact ⟨congrArg Value.bool (decide_eq_decide.2 (by rw [hK]; split <;> omega)), hS2⟩

theorem l19Less_c (A : Option Addr) (n c : Nat) (rs : List SlV) (xss : List (List Int)) (A' : Option Addr) (c' : Nat) (rs' : List SlV) (yss : List (List Int)) (w : World) (hX : RowsI w A n rs xss) (hY : RowsI w A' n rs' yss) (hn : n ≤ 9223372036854775807) :
    Ret Tryz.prog 96 [.agg #[.slice A n c], .agg #[.slice A' n c']] w (fun v w' => v = .bool (decide (lexCC xss yss < 0)) ∧ St w w' []) := by
  have hxl := hX.len
  have hyl := hY.len
  refine Ret.of_cd Tryz.func96 rfl Tryz.ntmps96 rfl (post1 rfl) ?_
  refine Cd.seq ?_
  refine Cd.region ?_
  refine Ops.box1 (St.refl w) rfl rfl ?_
  intro Ab w1 hS1
  refine Ops.box1 hS1 rfl rfl ?_
  intro Ac w2 hS2
  refine Ops.mv_bool rfl rfl rfl ?_
  refine Ops.nil ?_
  refine thenQ_n ?_
  refine Cd.seq ?_
  refine Cd.seq ?_
  refine Cd.region ?_
  refine Ops.mv_int rfl rfl rfl ?_
  refine Ops.nil ?_
  refine thenQ_n ?_
  refine Cd.block ?_
  refine Cd.loop (α := Nat) (fun k => [(2, .pointer Ab), (3, .pointer Ac), (5, .int .i64 (k : Int))]) (fun k w' => St w w' [Bx 32 1 Ac [.slice A' n c'], Bx 32 1 Ab [.slice A n c]] ∧ k ≤ n ∧ lexCC xss yss = lexCC (xss.drop k) (yss.drop k)) (fun k => n - k) 0 ⟨rfl, rfl, rfl, trivial⟩ ⟨hS2, Nat.zero_le _, rfl⟩ ?_
  rintro k e w3 ⟨hS3, hk, hK⟩
  refine Cd.seq ?_
  refine Cd.seq ?_
  refine Cd.region ?_
  refine Ops.mv_int rfl rfl rfl ?_
  refine Ops.fld (hS3.rd 1 rfl) rfl rfl rfl rfl inferInstance ?_
  refine Ops.ldf_s (hS3.rd 1 rfl) rfl rfl rfl rfl rfl ?_
  refine Ops.len rfl rfl ?_
  refine Ops.lss rfl rfl rfl ?_
  refine Ops.nil ?_
  refine thenQ_n ?_
  refine Cd.cond_p _ rfl (fun h1 => ?_) (fun h1 => ?_)
  · rw [lexCC_step (by omega) (by omega)] at hK
    have hX3 := hS3.oldRows hX
    have hY3 := hS3.oldRows hY
    have hAt := hX3.top
    have hBt := hY3.top
    have ha := hX3.at_ (i := (k : Int)) (by omega) h1
    have hb' := hY3.at_ (i := (k : Int)) (by omega) (by omega)
    have hc := hX3.cap_ (i := (k : Int)) (by omega) h1
    have hBb := hS3.rd 1 rfl
    have hBc := hS3.rd 0 rfl
    refine Cd.skip ?_
    refine thenQ_n ?_
    refine Cd.seq ?_
    refine Cd.block ?_
    refine Cd.seq ?_
    refine Cd.draw [.ex (.pointer (ptrAt (Ab) 0)), .ex (.slice (A) (n) (c)), .ex (.int .i64 ((k : Int))), .ex (.pointer (ptrAt (A) ((k : Int)).toNat)), .ex (.slice ((rg (rs) ((k : Int))).a) ((rg (rs) ((k : Int))).n) ((rg (rs) ((k : Int))).c)), .ex (.pointer (ptrAt (Ac) 0)), .ex (.slice (A') (n) (c')), .ex (.int .i64 ((k : Int))), .ex (.pointer (ptrAt (A') ((k : Int)).toNat)), .ex (.slice ((rg (rs') ((k : Int))).a) ((rg (rs') ((k : Int))).n) ((rg (rs') ((k : Int))).c)), .ex (.bool (decide (gl xss k = gl yss k))), .ex (.bool (decide (¬ (gl xss k = gl yss k))))] (by kernel_rfl) (by kernel_rfl) rfl (List.forall_mem_cons.2 ⟨Yd.lasts_ex _, (List.forall_mem_cons.2 ⟨Yd.lasts_ex _, (List.forall_mem_cons.2 ⟨Yd.lasts_ex _, (List.forall_mem_cons.2 ⟨Yd.lasts_ex _, (List.forall_mem_cons.2 ⟨Yd.lasts_ex _, (List.forall_mem_cons.2 ⟨Yd.lasts_ex _, (List.forall_mem_cons.2 ⟨Yd.lasts_ex _, (List.forall_mem_cons.2 ⟨Yd.lasts_ex _, (List.forall_mem_cons.2 ⟨Yd.lasts_ex _, (List.forall_mem_cons.2 ⟨Yd.lasts_ex _, (List.forall_mem_cons.2 ⟨Yd.lasts_ex _, (List.forall_mem_cons.2 ⟨Yd.lasts_ex _, (fun _ h => by cases h)⟩)⟩)⟩)⟩)⟩)⟩)⟩)⟩)⟩)⟩)⟩)⟩) ⟨?_, ?_, ?_, ?_, ?_, ?_, ?_, ?_, ?_, ?_, ?_, ?_, trivial⟩ ?_
    · intro e1 w1 hb hp hun
      refine Ops.fld (hBb.below hb) rfl rfl rfl rfl inferInstance ?_
      refine Ops.nil ?_
      exact After.dn (Below.refl _ _) (by exact rfl)
    · intro e1 w1 hb hp hun
      refine Ops.ldf_s (hBb.below hb) rfl rfl rfl rfl rfl ?_
      refine Ops.nil ?_
      exact After.dn (Below.refl _ _) (by exact rfl)
    · intro e1 w1 hb hp hun
      refine Ops.mv_int rfl rfl rfl ?_
      refine Ops.nil ?_
      exact After.dn (Below.refl _ _) (by exact rfl)
    · intro e1 w1 hb hp hun
      refine Ops.idx (hAt.later hb).2 rfl rfl rfl (by omega) (by omega) ?_
      refine Ops.nil ?_
      exact After.dn (Below.refl _ _) (by exact rfl)
    · intro e1 w1 hb hp hun
      refine Ops.ld_sl (hAt.later hb) rfl (by omega) rfl rfl ?_
      refine Ops.nil ?_
      exact After.dn (Below.refl _ _) (by exact rfl)
    · intro e1 w1 hb hp hun
      refine Ops.fld (hBc.below hb) rfl rfl rfl rfl inferInstance ?_
      refine Ops.nil ?_
      exact After.dn (Below.refl _ _) (by exact rfl)
    · intro e1 w1 hb hp hun
      refine Ops.ldf_s (hBc.below hb) rfl rfl rfl rfl rfl ?_
      refine Ops.nil ?_
      exact After.dn (Below.refl _ _) (by exact rfl)
    · intro e1 w1 hb hp hun
      refine Ops.mv_int rfl rfl rfl ?_
      refine Ops.nil ?_
      exact After.dn (Below.refl _ _) (by exact rfl)
    · intro e1 w1 hb hp hun
      refine Ops.idx (hBt.later hb).2 rfl rfl rfl (by omega) (by omega) ?_
      refine Ops.nil ?_
      exact After.dn (Below.refl _ _) (by exact rfl)
    · intro e1 w1 hb hp hun
      refine Ops.ld_sl (hBt.later hb) rfl (by omega) rfl rfl ?_
      refine Ops.nil ?_
      exact After.dn (Below.refl _ _) (by exact rfl)
    · intro e1 w1 hb hp hun
      refine Ops.call (l01Same_c _ _ _ _ _ _ _ _ _ (ha.later hb) (hb'.later hb) (by omega)) rfl rfl rfl ?_
      rintro _ w2 ⟨rfl, hst⟩
      refine Ops.nil ?_
      exact After.dn hst.below (by exact rfl)
    · intro e1 w1 hb hp hun
      refine Ops.not_p rfl rfl ?_
      refine Ops.nil ?_
      exact After.dn (Below.refl _ _) (by exact rfl)
    intro u w4 hb4 _
    have hS4 := hS3.later hb4
    have hX4 := hS4.oldRows hX
    have hY4 := hS4.oldRows hY
    have hAt4 := hX4.top
    have hBt4 := hY4.top
    have ha4 := hX4.at_ (i := (k : Int)) (by omega) h1
    have hb4' := hY4.at_ (i := (k : Int)) (by omega) (by omega)
    have hBb4 := hS4.rd 1 rfl
    have hBc4 := hS4.rd 0 rfl
    refine thenQ_n ?_
    refine Cd.cond_p _ rfl (fun h3 => ?_) (fun h3 => ?_)
    · rw [if_neg (fun h => h3 (lexC_zero.1 h))] at hK
      refine Cd.seq ?_
      refine Cd.draw [.ex (.pointer (ptrAt (Ab) 0)), .ex (.slice (A) (n) (c)), .ex (.int .i64 ((k : Int))), .ex (.pointer (ptrAt (A) ((k : Int)).toNat)), .ex (.slice ((rg (rs) ((k : Int))).a) ((rg (rs) ((k : Int))).n) ((rg (rs) ((k : Int))).c)), .ex (.pointer (ptrAt (Ac) 0)), .ex (.slice (A') (n) (c')), .ex (.int .i64 ((k : Int))), .ex (.pointer (ptrAt (A') ((k : Int)).toNat)), .ex (.slice ((rg (rs') ((k : Int))).a) ((rg (rs') ((k : Int))).n) ((rg (rs') ((k : Int))).c)), .ex (.bool (decide (lexC (gl xss k) (gl yss k) < 0))), .ex (.bool (decide (lexC (gl xss k) (gl yss k) < 0)))] (by kernel_rfl) (by kernel_rfl) rfl (List.forall_mem_cons.2 ⟨Yd.lasts_ex _, (List.forall_mem_cons.2 ⟨Yd.lasts_ex _, (List.forall_mem_cons.2 ⟨Yd.lasts_ex _, (List.forall_mem_cons.2 ⟨Yd.lasts_ex _, (List.forall_mem_cons.2 ⟨Yd.lasts_ex _, (List.forall_mem_cons.2 ⟨Yd.lasts_ex _, (List.forall_mem_cons.2 ⟨Yd.lasts_ex _, (List.forall_mem_cons.2 ⟨Yd.lasts_ex _, (List.forall_mem_cons.2 ⟨Yd.lasts_ex _, (List.forall_mem_cons.2 ⟨Yd.lasts_ex _, (List.forall_mem_cons.2 ⟨Yd.lasts_ex _, (List.forall_mem_cons.2 ⟨Yd.lasts_ex _, (fun _ h => by cases h)⟩)⟩)⟩)⟩)⟩)⟩)⟩)⟩)⟩)⟩)⟩)⟩) ⟨?_, ?_, ?_, ?_, ?_, ?_, ?_, ?_, ?_, ?_, ?_, ?_, trivial⟩ ?_
      · intro e1 w1 hb hp hun
        refine Ops.fld (hBb4.below hb) rfl rfl rfl rfl inferInstance ?_
        refine Ops.nil ?_
        exact After.dn (Below.refl _ _) (by exact rfl)
      · intro e1 w1 hb hp hun
        refine Ops.ldf_s (hBb4.below hb) rfl rfl rfl rfl rfl ?_
        refine Ops.nil ?_
        exact After.dn (Below.refl _ _) (by exact rfl)
      · intro e1 w1 hb hp hun
        refine Ops.mv_int rfl rfl rfl ?_
        refine Ops.nil ?_
        exact After.dn (Below.refl _ _) (by exact rfl)
      · intro e1 w1 hb hp hun
        refine Ops.idx (hAt4.later hb).2 rfl rfl rfl (by omega) (by omega) ?_
        refine Ops.nil ?_
        exact After.dn (Below.refl _ _) (by exact rfl)
      · intro e1 w1 hb hp hun
        refine Ops.ld_sl (hAt4.later hb) rfl (by omega) rfl rfl ?_
        refine Ops.nil ?_
        exact After.dn (Below.refl _ _) (by exact rfl)
      · intro e1 w1 hb hp hun
        refine Ops.fld (hBc4.below hb) rfl rfl rfl rfl inferInstance ?_
        refine Ops.nil ?_
        exact After.dn (Below.refl _ _) (by exact rfl)
      · intro e1 w1 hb hp hun
        refine Ops.ldf_s (hBc4.below hb) rfl rfl rfl rfl rfl ?_
        refine Ops.nil ?_
        exact After.dn (Below.refl _ _) (by exact rfl)
      · intro e1 w1 hb hp hun
        refine Ops.mv_int rfl rfl rfl ?_
        refine Ops.nil ?_
        exact After.dn (Below.refl _ _) (by exact rfl)
      · intro e1 w1 hb hp hun
        refine Ops.idx (hBt4.later hb).2 rfl rfl rfl (by omega) (by omega) ?_
        refine Ops.nil ?_
        exact After.dn (Below.refl _ _) (by exact rfl)
      · intro e1 w1 hb hp hun
        refine Ops.ld_sl (hBt4.later hb) rfl (by omega) rfl rfl ?_
        refine Ops.nil ?_
        exact After.dn (Below.refl _ _) (by exact rfl)
      · intro e1 w1 hb hp hun
        refine Ops.call (l01Less_c _ _ _ _ _ _ _ _ _ (ha4.later hb) (hb4'.later hb) (by omega)) rfl rfl rfl ?_
        rintro _ w2 ⟨rfl, hst⟩
        refine Ops.nil ?_
        exact After.dn hst.below (by exact rfl)
      · intro e1 w1 hb hp hun
        refine Ops.mv_bool rfl rfl rfl ?_
        refine Ops.nil ?_
        exact After.dn (Below.refl _ _) (by exact rfl)
      intro u2 w5 hb5 _
      have hS5 := hS4.later hb5
      refine thenQ_n ?_
      refine Cd.ret ?_
      refine blockQ_r ?_
      refine thenQ_r ?_
      refine thenQ_r ?_
      refine blockQ_r ?_
      refine thenQ_r ?_
      refine ret1_b rfl ?_
      exact ⟨congrArg Value.bool (decide_eq_decide.2 (by rw [hK])), hS5.none⟩
    · rw [if_pos (lexC_zero.2 (Classical.not_not.1 h3))] at hK
      refine Cd.skip ?_
      refine blockQ_n ?_
      refine thenQ_n ?_
      refine Cd.region ?_
      refine Ops.mv_int rfl rfl rfl ?_
      refine Ops.add rfl rfl rfl (by omega) ?_
      refine Ops.mv_int rfl rfl rfl ?_
      refine Ops.nil ?_
      refine thenQ_n ?_
      exact ⟨k + 1, by show n - (k + 1) < n - k; omega, ⟨rfl, rfl, rfl, trivial⟩, hS4, by omega, hK⟩
  · rw [lexCC_endL (by omega), if_neg (by omega)] at hK
    refine Cd.exit ?_
    refine thenQ_x ?_
    refine thenQ_x ?_
    refine blockQ_x ?_
    refine thenQ_n ?_
    refine Cd.seq ?_
    refine Cd.region ?_
    refine Ops.mv_bool rfl rfl rfl ?_
    refine Ops.nil ?_
    refine thenQ_n ?_
    refine Cd.ret ?_
    refine ret1_b rfl ?_
    exact ⟨congrArg Value.bool (by rw [hK]; rfl), hS3.none⟩
end Go.Proofs.YtjpkmpihmilgoaaGreat.Vc
/-
  The walk of the law FnExactIsDesk: it returns true. Conditions: as it states them.
-/
namespace Go.Proofs.YtjpkmpihmilgoaaGreat.Vc
open Go.RowKit

theorem St.rowsI1 {w0 w : World} {t1 t2 : TypeId} {A : Option Addr} {n c : Nat} {rs : List SlV} {xss : List (List Int)} (h : St w0 w (mat t1 t2 A n c rs xss)) (hl : xss.length = n) : RowsI w A n rs xss :=
  St.rowsI (ks := []) (by rw [List.append_nil]; exact h) hl

end Go.Proofs.YtjpkmpihmilgoaaGreat.Vc
/-
  Plain mathematics of the list of maniplexes: forms put in ascending order one by one, and that there is one such order. Conditions: as each states them. No program in sight.
-/
namespace Go.Proofs.YtjpkmpihmilgoaaGreat.Vc

abbrev Mx := List (List Int)
/-- not behind -/
def leM (a b : Mx) : Prop := ¬ lexCC b a < 0
theorem leM_of {a b : Mx} (h : lexCC a b < 0) : leM a b := fun h' => by rw [lexCC_swap] at h'; omega
theorem leM_anti {a b : Mx} (h : leM a b) (h' : leM b a) : a = b := by
  unfold leM at h h'
  rw [lexCC_swap] at h
  exact lexCC_zero.1 (by omega)
theorem leM_cases {a b : Mx} (h : leM a b) : lexCC a b < 0 ∨ a = b := by
  by_cases e : a = b
  · exact .inr e
  · left
    unfold leM at h
    rw [lexCC_swap] at h
    have : lexCC a b ≠ 0 := fun h0 => e (lexCC_zero.1 h0)
    omega
theorem leM_trans {a b c : Mx} (h : leM a b) (h' : leM b c) : leM a c := by
  rcases leM_cases h with h | rfl
  · rcases leM_cases h' with h' | rfl
    · exact leM_of (lexCC_trans h h')
    · exact leM_of h
  · exact h'

/-- how many at the front are less -/
def atM (x : Mx) : List Mx → Nat
  | [] => 0
  | y :: l => if lexCC y x < 0 then atM x l + 1 else 0
theorem atM_drop {x : Mx} {l : List Mx} {k : Nat} (hk : k < l.length) : atM x (l.drop k) = if lexCC l[k] x < 0 then atM x (l.drop (k + 1)) + 1 else 0 := by
  rw [List.drop_eq_getElem_cons hk, atM]
/-- x put behind these -/
def insM (x : Mx) (l : List Mx) : List Mx := l.take (atM x l) ++ x :: l.drop (atM x l)
theorem ins_perm {α : Type} (x : α) (l : List α) (k : Nat) : (l.take k ++ x :: l.drop k).Perm (x :: l) := by
  have h : (l.take k ++ x :: l.drop k).Perm (x :: (l.take k ++ l.drop k)) := List.perm_middle
  rwa [List.take_append_drop] at h
theorem insM_perm (x : Mx) (l : List Mx) : (insM x l).Perm (x :: l) := ins_perm x l _
theorem insM_cons (x y : Mx) (l : List Mx) : insM x (y :: l) = if lexCC y x < 0 then y :: insM x l else x :: y :: l := by
  unfold insM
  rw [atM]
  split <;> simp
theorem insM_sorted (x : Mx) : ∀ {l : List Mx}, l.Pairwise leM → (insM x l).Pairwise leM
  | [], _ => by simp [insM, atM]
  | y :: l, h => by
    have h1 := List.pairwise_cons.1 h
    rw [insM_cons]
    split
    · rename_i hy
      refine List.pairwise_cons.2 ⟨fun z hz => ?_, insM_sorted x h1.2⟩
      rcases List.mem_cons.1 ((insM_perm x l).mem_iff.1 hz) with rfl | hz
      · exact leM_of hy
      · exact h1.1 z hz
    · rename_i hy
      refine List.pairwise_cons.2 ⟨fun z hz => ?_, h⟩
      rcases List.mem_cons.1 hz with rfl | hz
      · exact hy
      · exact leM_trans hy (h1.1 z hz)
def ordM (l : List Mx) : List Mx := l.foldl (fun o x => insM x o) []
theorem ordM_snoc (l : List Mx) (x : Mx) : ordM (l ++ [x]) = insM x (ordM l) := by simp [ordM, List.foldl_append]
theorem foldl_ins : ∀ (l o : List Mx), o.Pairwise leM → (l.foldl (fun o x => insM x o) o).Pairwise leM ∧ (l.foldl (fun o x => insM x o) o).Perm (l ++ o)
  | [], o, h => ⟨h, List.Perm.refl _⟩
  | x :: l, o, h => by
    obtain ⟨h1, h2⟩ := foldl_ins l (insM x o) (insM_sorted x h)
    refine ⟨h1, h2.trans (((insM_perm x o).append_left l).trans ?_)⟩
    exact List.perm_middle
theorem ordM_sorted (l : List Mx) : (ordM l).Pairwise leM := (foldl_ins l [] List.Pairwise.nil).1
theorem ordM_perm (l : List Mx) : (ordM l).Perm l := by have := (foldl_ins l [] List.Pairwise.nil).2; rwa [List.append_nil] at this
/-- there is one order -/
theorem ordM_one {l l' : List Mx} (hp : l'.Perm l) (hs : l'.Pairwise leM) : l' = ordM l :=
  List.Perm.eq_of_pairwise (le := leM) (fun _ _ _ _ h h' => leM_anti h h') hs (ordM_sorted l) (hp.trans (ordM_perm l).symm)

/-! the list of a rank and a number of flags -/
def formsL (n F : Nat) : List Mx := forms n F (F * n + 1) 0 1 (blank n F)
def Own1 (N : Nat) (xss : Mx) : Prop := ∀ f, f < N → ¬ lexCC (formL N xss (f : Nat)) xss < 0
instance (N : Nat) (xss : Mx) : Decidable (Own1 N xss) := by unfold Own1; exact inferInstance
def ownL (n F : Nat) : List Mx := (formsL n F).filter fun L => decide (Own1 F L)
def listL (n F : Nat) : List Mx := ordM (ownL n F)
theorem ownL_le (n F : Nat) : (ownL n F).length ≤ (formsL n F).length := List.length_filter_le _ _
theorem listL_len (n F : Nat) : (listL n F).length = (ownL n F).length := (ordM_perm _).length_eq
theorem forms_mani {n F : Nat} {L : Mx} (hn : 0 < n) (hF : 0 < F) (h : L ∈ formsL n F) : Mani L ∧ Inv n F L F (F * n) := by
  have h1 := List.mem_filter.1 h
  exact ⟨of_decide_eq_true h1.2, (grow_leaf _ _ _ _ (Inv.blank hn hF) L h1.1).2⟩
theorem listL_mem {n F : Nat} {L : Mx} : L ∈ listL n F ↔ L ∈ formsL n F ∧ Own1 F L := by
  rw [listL, (ordM_perm _).mem_iff, ownL, List.mem_filter, decide_eq_true_iff]
theorem own_least {n F : Nat} {L : Mx} (hn : 0 < n) (hF : 0 < F) (h : L ∈ formsL n F) : leastL F L = L ↔ Own1 F L := least_own hF (forms_zero hF h hn)
end Go.Proofs.YtjpkmpihmilgoaaGreat.Vc
/-
  The walks of the program's least form, and of the reference's numbers of orbits. Conditions: as each states them.
-/
namespace Go.Proofs.YtjpkmpihmilgoaaGreat.Vc
open Go.RowKit
section
variable {P : Program} {N : Nat} {ops : Array Oper} {K : Env → World → Prop} {rest : List Oper} {e : Env} {w : World} {d : Nat} {ty : TypeId} {pos : String} {af : Array Edge}
/-- a struct of one slice, read from a slice of such -/
theorem Ops.ld_ag {t : TypeId} {fs : Array Field} {z : Value} {b : Nat} [Und P t (.struct fs)] [Inf P t z (0 + 1) b] {x : Operand} {A : Option Addr} {n : Nat} {i : Int} {xs : List SlV} (hR : RdR w A n xs) (hx : ev e x = .pointer (ptrAt A i.toNat)) (hj : i.toNat < n) (hb : Nat.blt d N = true)
    (hK : Ops P N ops K rest (upd e d (.agg #[.slice (rg xs i).a (rg xs i).n (rg xs i).c])) w) : Ops P N ops K (⟨some d, .load t x, ty, pos, af, none⟩ :: rest) e w :=
  .ld_agg 0 (hR.2.behind (o := i.toNat) (m := 1) (by omega)) hx rfl hb hK
end

theorem St.matAt {w0 w : World} {t1 t2 : TypeId} {A : Option Addr} {n c : Nat} {rs : List SlV} {xss : List (List Int)} {ks : List Ck} (h : St w0 w ks) (hsub : (mat t1 t2 A n c rs xss).Sublist ks) (hl : xss.length = n) : RowsI w A n rs xss := (h.sub hsub).rowsI1 hl
theorem MatV.sub_ {t1 t2 : TypeId} {m : MatV} : ∀ {ms : List MatV}, m ∈ ms → (m.cks t1 t2).Sublist (matsCk t1 t2 ms)
  | a :: ms, h => by
    unfold matsCk
    rw [List.flatMap_cons]
    rcases List.mem_cons.1 h with rfl | h
    · exact List.sublist_append_left _ _
    · exact (MatV.sub_ h).trans (List.sublist_append_right _ _)

theorem leastForm_c (A : Option Addr) (n c : Nat) (rs : List SlV) (xss : List (List Int)) (N : Nat) (w : World) (hR : RowsI w A n rs xss) (hM : Mani xss) (hN : N = (gl xss 0).length) :
    Ret Tryz.prog 61 [.agg #[.slice A n c]] w (fun v w' => ∃ A' c' rs', v = .agg #[.slice A' n c'] ∧ rs'.length = n ∧ St w w' (mat 34 2 A' n c' rs' (leastL N xss))) := by
  have h5 := hM.1
  have h40 := hM.2.1
  have hxl := hR.len
  have hr0 : (gl xss 0).length = (rg rs 0).n := hR.rowLen (by omega) (by omega)
  have hll : ∀ k, (leastTo N xss k).length = n := fun k => by
    induction k with
    | zero => rw [leastTo, formL_len, hxl]
    | succ k ih =>
      rw [leastTo]
      split
      · rw [formL_len, hxl]
      · exact ih
  have hfl : ∀ f : Int, (formL N xss f).length = n := fun f => by rw [formL_len, hxl]
  refine Ret.of_cd Tryz.func61 rfl Tryz.ntmps61 rfl (postc rfl rfl) ?_
  refine Cd.seq ?_
  refine Cd.region ?_
  refine Ops.box1 (St.refl w) rfl rfl ?_
  intro Ab w1 hS1
  refine Ops.new1 hS1 rfl ?_
  intro Ac w2 hS2
  refine Ops.nil ?_
  refine thenQ_n ?_
  refine Cd.seq ?_
  refine Cd.region ?_
  refine Ops.fld (hS2.rd 1 rfl) rfl rfl rfl rfl inferInstance ?_
  refine Ops.ldf_s (hS2.rd 1 rfl) rfl rfl rfl rfl rfl ?_
  refine Ops.call (formFrom_c A n c rs xss N 0 _ (hS2.oldRows hR) hM hN (by omega) (by omega)) rfl rfl rfl ?_
  rintro _ w3 ⟨A4, c4, rs4, rfl, hl4, hst⟩
  have hS3 := (hS2.call hst).perm List.perm_append_comm
  refine Ops.new1 hS3 rfl ?_
  intro Ad w4 hS4
  refine Ops.st_agg 1 0 hS4 rfl rfl rfl rfl rfl rfl rfl ?_
  intro w5 hS5
  have hS5 : St w w5 (Bx 32 1 Ad [.slice A4 n c4] :: Bx 32 1 Ac [.slice none 0 0] :: Bx 32 1 Ab [.slice A n c] :: mat 34 2 A4 n c4 rs4 (leastTo N xss 0)) := hS5
  refine Ops.nil ?_
  refine thenQ_n ?_
  refine Cd.seq ?_
  refine Cd.seq ?_
  refine Cd.region ?_
  refine Ops.call (flags_c Ab A n c rs xss _ _ (hS5.rd 2 rfl) rfl (hS5.oldRows hR) (by omega)) rfl rfl rfl ?_
  rintro _ w5 ⟨rfl, rfl⟩
  refine Ops.mv_int rfl rfl rfl ?_
  refine Ops.nil ?_
  refine thenQ_n ?_
  refine Cd.block ?_
  refine Cd.loop (α := Nat × Option Addr × Nat × List SlV) (fun s => [(1, .pointer Ab), (2, .pointer Ac), (3, .pointer Ad), (9, .int .i64 (N : Int)), (10, .int .i64 (s.1 : Int))]) (fun s w' => St w w' (Bx 32 1 Ad [.slice s.2.1 n s.2.2.1] :: Bx 32 1 Ac [.slice none 0 0] :: Bx 32 1 Ab [.slice A n c] :: mat 34 2 s.2.1 n s.2.2.1 s.2.2.2 (leastTo N xss s.1)) ∧ s.1 ≤ N ∧ s.2.2.2.length = n) (fun s => N - s.1) (0, A4, c4, rs4) ⟨rfl, rfl, rfl, by rw [hN, hr0]; rfl, rfl, trivial⟩ ⟨hS5, Nat.zero_le _, hl4⟩ ?_
  rintro ⟨k, A6, c6, rs6⟩ e w6 ⟨hS6, hk, hl6⟩
  dsimp only at hS6 hk hl6 ⊢
  refine Cd.seq ?_
  refine Cd.region ?_
  refine Ops.lss rfl rfl rfl ?_
  refine Ops.nil ?_
  refine thenQ_n ?_
  refine Cd.seq ?_
  refine Cd.cond_p _ rfl (fun h1 => ?_) (fun h1 => ?_)
  · refine Cd.skip ?_
    refine thenQ_n ?_
    refine Cd.seq ?_
    refine Cd.block ?_
    refine Cd.seq ?_
    refine Cd.region ?_
    refine Ops.mv_int rfl rfl rfl ?_
    refine Ops.mv_int rfl rfl rfl ?_
    refine Ops.nil ?_
    refine thenQ_n ?_
    refine Cd.seq ?_
    refine Cd.region ?_
    refine Ops.fld (hS6.rd 2 rfl) rfl rfl rfl rfl inferInstance ?_
    refine Ops.ldf_s (hS6.rd 2 rfl) rfl rfl rfl rfl rfl ?_
    refine Ops.mv_int rfl rfl rfl ?_
    refine Ops.call (formFrom_c A n c rs xss N (k : Int) _ (hS6.oldRows hR) hM hN (by omega) (by omega)) rfl rfl rfl ?_
    rintro _ w7 ⟨A7, c7, rs7, rfl, hl7, hst7⟩
    have hS7 := (hS6.call hst7).perm List.perm_append_comm
    refine Ops.new1 hS7 rfl ?_
    intro A8 w8 hS8
    refine Ops.st_agg 1 0 hS8 rfl rfl rfl rfl rfl rfl rfl ?_
    intro w9 hS9
    have hS9 : St w w9 (Bx 32 1 A8 [.slice A7 n c7] :: Bx 32 1 Ad [.slice A6 n c6] :: Bx 32 1 Ac [.slice none 0 0] :: Bx 32 1 Ab [.slice A n c] :: (mat 34 2 A6 n c6 rs6 (leastTo N xss k) ++ mat 34 2 A7 n c7 rs7 (formL N xss k))) := hS9
    have hr6 : RowsI w9 A6 n rs6 (leastTo N xss k) := hS9.matAt ((List.sublist_append_left _ _).trans (List.sublist_append_right [_, _, _, _] _)) (hll k)
    have hr7 : RowsI w9 A7 n rs7 (formL N xss k) := hS9.matAt (((((List.sublist_append_right _ _).cons _).cons _).cons _).cons _) (hfl k)
    refine Ops.nil ?_
    refine thenQ_n ?_
    refine Cd.seq ?_
    refine Cd.region ?_
    refine Ops.ld_agg 0 (hS9.rd 0 rfl) rfl rfl rfl ?_
    refine Ops.ld_agg 0 (hS9.rd 1 rfl) rfl rfl rfl ?_
    refine Ops.call (compareManiplexes_c A7 n c7 rs7 _ A6 n c6 rs6 _ _ hr7 hr6 (by omega)) rfl rfl rfl ?_
    rintro _ w10 ⟨rfl, hst10⟩
    have hS10 := hS9.later hst10.below
    refine Ops.lss rfl rfl rfl ?_
    refine Ops.nil ?_
    refine thenQ_n ?_
    refine Cd.cond_p _ rfl (fun h2 => ?_) (fun h2 => ?_)
    · have hle : leastTo N xss (k + 1) = formL N xss k := by rw [leastTo, if_pos h2]
      refine Cd.region ?_
      refine Ops.ld_agg 0 (hS10.rd 0 rfl) rfl rfl rfl ?_
      refine Ops.st_agg 1 1 hS10 rfl rfl rfl rfl rfl rfl rfl ?_
      intro w11 hS11
      refine Ops.nil ?_
      refine blockQ_n ?_
      refine thenQ_n ?_
      refine Cd.region ?_
      refine Ops.add rfl rfl rfl (by omega) ?_
      refine Ops.mv_int rfl rfl rfl ?_
      refine Ops.nil ?_
      refine thenQ_n ?_
      refine ⟨(k + 1, A7, c7, rs7), by show N - (k + 1) < N - k; omega, ⟨rfl, rfl, rfl, rfl, rfl, trivial⟩, ?_, by show k + 1 ≤ N; omega, hl7⟩
      show St w w11 (Bx _ 1 Ad [.slice A7 n c7] :: _ :: _ :: mat _ _ A7 n c7 rs7 (leastTo N xss (k + 1)))
      rw [hle]
      exact hS11.sub (((List.Sublist.cons_cons _ (List.Sublist.cons_cons _ (List.Sublist.cons_cons _ (List.sublist_append_right _ _)))).cons _))
    · have hle : leastTo N xss (k + 1) = leastTo N xss k := by rw [leastTo, if_neg h2]
      refine Cd.skip ?_
      refine blockQ_n ?_
      refine thenQ_n ?_
      refine Cd.region ?_
      refine Ops.add rfl rfl rfl (by omega) ?_
      refine Ops.mv_int rfl rfl rfl ?_
      refine Ops.nil ?_
      refine thenQ_n ?_
      refine ⟨(k + 1, A6, c6, rs6), by show N - (k + 1) < N - k; omega, ⟨rfl, rfl, rfl, rfl, rfl, trivial⟩, ?_, by show k + 1 ≤ N; omega, hl6⟩
      show St w w10 (Bx _ 1 Ad [.slice A6 n c6] :: _ :: _ :: mat _ _ A6 n c6 rs6 (leastTo N xss (k + 1)))
      rw [hle]
      exact hS10.sub (((List.Sublist.cons_cons _ (List.Sublist.cons_cons _ (List.Sublist.cons_cons _ (List.sublist_append_left _ _)))).cons _))
  · have hkN : k = N := by omega
    rw [hkN] at hS6
    refine Cd.exit ?_
    refine thenQ_x ?_
    refine thenQ_x ?_
    refine blockQ_x ?_
    refine thenQ_n ?_
    refine Cd.seq ?_
    refine Cd.region ?_
    refine Ops.ld_agg 0 (hS6.rd 0 rfl) rfl rfl rfl ?_
    refine Ops.st_agg 1 1 hS6 rfl rfl rfl rfl rfl rfl rfl ?_
    intro w7 hS7
    refine Ops.nil ?_
    refine thenQ_n ?_
    refine Cd.ret ?_
    skip
    refine retc_r rfl (hS7.rd 1 rfl) ?_
    exact ⟨A6, c6, rs6, rfl, hl6, hS7.sub (((List.sublist_cons_self _ _).trans (List.sublist_cons_self _ _)).trans (List.sublist_cons_self _ _))⟩

/-! the numbers of orbits -/
def fset (N : Nat) (xss : List (List Int)) : Nat → List (List (List Int))
  | 0 => []
  | k + 1 => if formL N xss k ∈ fset N xss k then fset N xss k else fset N xss k ++ [formL N xss k]
theorem fset_le (N : Nat) (xss : List (List Int)) : ∀ k, (fset N xss k).length ≤ k
  | 0 => Nat.le_refl _
  | k + 1 => by
    have := fset_le N xss k
    simp only [fset]
    split
    · omega
    · simp; omega
theorem fset_row (N : Nat) (xss : List (List Int)) : ∀ k, ∀ m ∈ fset N xss k, m.length = xss.length
  | 0, m, h => by cases h
  | k + 1, m, h => by
    simp only [fset] at h
    split at h
    · exact fset_row N xss k m h
    · rcases List.mem_append.1 h with h | h
      · exact fset_row N xss k m h
      · simp at h; subst h; exact formL_len _ _ _
def orbN (N : Nat) (xss : List (List Int)) : Nat := if Own1 N xss then (fset N xss N).length else 0

theorem l19Orbits_c (A : Option Addr) (n c : Nat) (rs : List SlV) (xss : List (List Int)) (N : Nat) (w : World) (hR : RowsI w A n rs xss) (hM : Mani xss) (hN : N = (gl xss 0).length) :
    Ret Tryz.prog 95 [.agg #[.slice A n c]] w (fun v w' => v = .int .i64 (orbN N xss : Int) ∧ St w w' []) := by
  have h5 := hM.1
  have h40 := hM.2.1
  have hxl := hR.len
  have hfl : ∀ f : Int, (formL N xss f).length = n := fun f => by rw [formL_len, hxl]
  refine Ret.of_cd Tryz.func95 rfl Tryz.ntmps95 rfl (post1 rfl) ?_
  refine Cd.seq ?_
  refine Cd.region ?_
  refine Ops.box1 (St.refl w) rfl rfl ?_
  intro Ab w1 hS1
  refine Ops.mv_int rfl rfl rfl ?_
  refine Ops.nil ?_
  refine thenQ_n ?_
  refine Cd.seq ?_
  refine Cd.region ?_
  refine Ops.bs0 hS1 rfl ?_
  intro A3 w2 hS2
  refine Ops.mv_sl rfl rfl rfl ?_
  refine Ops.nil ?_
  refine thenQ_n ?_
  refine Cd.seq ?_
  refine Cd.seq ?_
  refine Cd.region ?_
  refine Ops.mv_int rfl rfl rfl ?_
  refine Ops.nil ?_
  refine thenQ_n ?_
  refine Cd.block ?_
  refine Cd.loop (α := Nat × Option Addr × Nat × List MatV) (fun s => [(1, .pointer Ab), (3, .slice s.2.1 s.2.2.2.length s.2.2.1), (4, .int .i64 (s.1 : Int))]) (fun s w' => St w w' (CkR 32 s.2.1 s.2.2.2.length s.2.2.1 (s.2.2.2.map (·.top)) :: Bx 32 1 Ab [.slice A n c] :: matsCk 34 2 s.2.2.2) ∧ s.1 ≤ N ∧ s.2.2.2.map (·.xss) = fset N xss s.1 ∧ (∀ m ∈ s.2.2.2, m.top.n = n) ∧ ∀ f, f < s.1 → ¬ lexCC (formL N xss (f : Nat)) xss < 0) (fun s => N - s.1) (0, A3, 0, []) ⟨rfl, rfl, rfl, trivial⟩ ⟨hS2, Nat.zero_le _, rfl, (by intro m h; cases h), (by intro f hf; exact absurd hf (Nat.not_lt_zero f))⟩ ?_
  rintro ⟨k, A4, c4, ms⟩ e w3 ⟨hS3, hk, hms, htn, hown⟩
  dsimp only at hS3 hk hms htn hown ⊢
  have hmle := fset_le N xss k
  rw [← hms, List.length_map] at hmle
  refine Cd.seq ?_
  refine Cd.seq ?_
  refine Cd.region ?_
  refine Ops.mv_int rfl rfl rfl ?_
  refine Ops.ld_agg 0 (hS3.rd 1 rfl) rfl rfl rfl ?_
  refine Ops.call (l02Flags_c A n c rs xss _ (hS3.oldRows hR) (by omega)) rfl rfl rfl ?_
  rintro _ w4 ⟨rfl, hst⟩
  have hS4 := hS3.later hst.below
  rw [← hN]
  refine Ops.lss rfl rfl rfl ?_
  refine Ops.nil ?_
  refine thenQ_n ?_
  refine Cd.cond_p _ rfl (fun h1 => ?_) (fun h1 => ?_)
  · refine Cd.skip ?_
    refine thenQ_n ?_
    refine Cd.seq ?_
    refine Cd.block ?_
    refine Cd.seq ?_
    refine Cd.region ?_
    refine Ops.ld_agg 0 (hS4.rd 1 rfl) rfl rfl rfl ?_
    refine Ops.mv_int rfl rfl rfl ?_
    refine Ops.call (l02Form_c A n c rs xss N (k : Int) _ (hS4.oldRows hR) hM hN (by omega) (by omega)) rfl rfl rfl ?_
    rintro _ w5 ⟨A5, c5, rs5, rfl, hl5, hst5⟩
    have hS5 := (hS4.call hst5).perm List.perm_append_comm
    refine Ops.new1 hS5 rfl ?_
    intro A6 w6 hS6
    refine Ops.st_agg 1 0 hS6 rfl rfl rfl rfl rfl rfl rfl ?_
    intro w7 hS7
    have hS7 : St w w7 (Bx 32 1 A6 [.slice A5 n c5] :: CkR 32 A4 ms.length c4 (ms.map (·.top)) :: Bx 32 1 Ab [.slice A n c] :: (matsCk 34 2 ms ++ mat 34 2 A5 n c5 rs5 (formL N xss k))) := hS7
    have hr5 : RowsI w7 A5 n rs5 (formL N xss k) := hS7.matAt ((List.sublist_append_right _ _).trans (List.sublist_append_right [_, _, _] _)) (hfl k)
    refine Ops.mv_bool rfl rfl rfl ?_
    refine Ops.nil ?_
    refine thenQ_n ?_
    refine Cd.seq ?_
    refine Cd.seq ?_
    refine Cd.region ?_
    refine Ops.ld_agg 0 (hS7.rd 0 rfl) rfl rfl rfl ?_
    refine Ops.ld_agg 0 (hS7.rd 2 rfl) rfl rfl rfl ?_
    refine Ops.call (l19Less_c A5 n c5 rs5 _ A c rs xss _ hr5 (hS7.oldRows hR) (by omega)) rfl rfl rfl ?_
    rintro _ w8 ⟨rfl, hst8⟩
    have hS8 := hS7.later hst8.below
    have hr8 := hr5.later hst8.below
    refine Ops.nil ?_
    refine thenQ_n ?_
    refine Cd.cond_p _ rfl (fun h2 => ?_) (fun h2 => ?_)
    · refine Cd.seq ?_
      refine Cd.region ?_
      refine Ops.mv_int rfl rfl rfl ?_
      refine Ops.nil ?_
      refine thenQ_n ?_
      refine Cd.ret ?_
      refine thenQ_r ?_
      refine blockQ_r ?_
      refine thenQ_r ?_
      refine thenQ_r ?_
      refine blockQ_r ?_
      refine thenQ_r ?_
      refine ret1_i rfl ?_
      refine ⟨?_, hS8.none⟩
      rw [orbN, if_neg (fun h : Own1 N xss => h k (by omega) h2)]
      rfl
    · have hown' : ∀ f, f < k + 1 → ¬ lexCC (formL N xss (f : Nat)) xss < 0 := fun f hf => by
        by_cases e : f = k
        · subst e; exact h2
        · exact hown f (by omega)
      have hRR := hS8.rdR 1 rfl
      have hB6 := hS8.rd 0 rfl
      have hml : ∀ (j : Nat) (hj : j < ms.length), RowsI w8 (rg (ms.map (·.top)) (j : Int)).a (rg (ms.map (·.top)) (j : Int)).n (ms[j]).rs (ms[j]).xss := fun j hj => by
        have e : rg (ms.map (·.top)) (j : Int) = (ms[j]).top := by simp [rg, List.getD_eq_getElem?_getD, List.getElem?_eq_getElem hj]
        rw [e]
        have hm := List.getElem_mem hj
        refine hS8.matAt (c := (ms[j]).top.c) (t1 := 34) (t2 := 2) (((MatV.sub_ hm).trans (List.sublist_append_left _ _)).trans (List.sublist_append_right [_, _, _] _)) ?_
        rw [htn _ hm, ← hxl]
        exact fset_row N xss k _ (by rw [← hms]; exact List.mem_map_of_mem hm)
      refine Cd.skip ?_
      refine thenQ_n ?_
      refine Cd.seq ?_
      refine Cd.seq ?_
      refine Cd.region ?_
      refine Ops.mv_int rfl rfl rfl ?_
      refine Ops.nil ?_
      refine thenQ_n ?_
      refine Cd.block ?_
      refine Cd.loop (α := Nat × Bool) (fun s => [(1, .pointer Ab), (3, .slice A4 ms.length c4), (4, .int .i64 (k : Int)), (5, .pointer A6), (6, .bool s.2), (7, .int .i64 (s.1 : Int))]) (fun s w' => St w8 w' [] ∧ s.1 ≤ ms.length ∧ s.2 = decide (formL N xss k ∈ (ms.map (·.xss)).take s.1)) (fun s => ms.length - s.1) (0, false) ⟨rfl, rfl, rfl, rfl, rfl, rfl, trivial⟩ ⟨St.refl w8, Nat.zero_le _, rfl⟩ ?_
      rintro ⟨j, kn⟩ e w9 ⟨hS9, hj, hkn⟩
      dsimp only at hS9 hj hkn ⊢
      refine Cd.seq ?_
      refine Cd.seq ?_
      refine Cd.region ?_
      refine Ops.mv_int rfl rfl rfl ?_
      refine Ops.mv_sl rfl rfl rfl ?_
      refine Ops.len rfl rfl ?_
      refine Ops.lss rfl rfl rfl ?_
      refine Ops.nil ?_
      refine thenQ_n ?_
      refine Cd.cond_p _ rfl (fun h3 => ?_) (fun h3 => ?_)
      · have hj' : j < ms.length := by omega
        have hstep : (ms.map (·.xss)).take (j + 1) = (ms.map (·.xss)).take j ++ [(ms[j]).xss] := by
          rw [List.take_succ_eq_append_getElem (by rw [List.length_map]; exact hj'), List.getElem_map]
        have hRR9 := hRR.later hS9.below
        have hB9 := hB6.below hS9.below
        have hmj := (hml j hj').later hS9.below
        have hr9 := hr8.later hS9.below
        have hcap := hmj.len
        have hnj : (rg (ms.map (·.top)) (j : Int)).n = n := by
          have e : rg (ms.map (·.top)) (j : Int) = (ms[j]).top := by simp [rg, List.getD_eq_getElem?_getD, List.getElem?_eq_getElem hj']
          rw [e]
          exact htn _ (List.getElem_mem hj')
        cases kn --dup 2
        · refine Cd.skip ?_
          refine thenQ_n ?_
          refine Cd.seq ?_
          refine Cd.block ?_
          refine Cd.draw [.ex (.bool (false)), .ex (.bool (false)), .ex (.slice (A4) (ms.length) (c4)), .ex (.int .i64 ((j : Int))), .ex (.pointer (ptrAt (A4) ((j : Int)).toNat)), .ex (.agg #[.slice (rg (ms.map (·.top)) ((j : Int))).a (rg (ms.map (·.top)) ((j : Int))).n (rg (ms.map (·.top)) ((j : Int))).c]), .ex (.agg #[.slice (A5) (n) (c5)]), .ex (.bool (decide ((ms[j]).xss = formL N xss k))), .ex (.bool (decide ((ms[j]).xss = formL N xss k))), .ex (.bool (decide ((ms[j]).xss = formL N xss k)))] (by kernel_rfl) (by kernel_rfl) rfl (List.forall_mem_cons.2 ⟨Yd.lasts_ex _, (List.forall_mem_cons.2 ⟨Yd.lasts_ex _, (List.forall_mem_cons.2 ⟨Yd.lasts_ex _, (List.forall_mem_cons.2 ⟨Yd.lasts_ex _, (List.forall_mem_cons.2 ⟨Yd.lasts_ex _, (List.forall_mem_cons.2 ⟨Yd.lasts_ex _, (List.forall_mem_cons.2 ⟨Yd.lasts_ex _, (List.forall_mem_cons.2 ⟨Yd.lasts_ex _, (List.forall_mem_cons.2 ⟨Yd.lasts_ex _, (List.forall_mem_cons.2 ⟨Yd.lasts_ex _, (fun _ h => by cases h)⟩)⟩)⟩)⟩)⟩)⟩)⟩)⟩)⟩)⟩) ⟨?_, ?_, ?_, ?_, ?_, ?_, ?_, ?_, ?_, ?_, trivial⟩ ?_
          · intro e1 w1 hb hp hun
            refine Ops.mv_bool rfl (by exact hun 9 _ rfl (by kernel_rfl)) rfl ?_
            refine Ops.nil ?_
            exact After.dn (Below.refl _ _) (by exact rfl)
          · intro e1 w1 hb hp hun
            refine Ops.mv_bool rfl rfl rfl ?_
            refine Ops.nil ?_
            exact After.dn (Below.refl _ _) (by exact rfl)
          · intro e1 w1 hb hp hun
            refine Ops.rung rfl rfl rfl ?_
            refine Ops.mv_sl rfl rfl rfl ?_
            refine Ops.nil ?_
            exact After.dn (Below.refl _ _) (by exact rfl)
          · intro e1 w1 hb hp hun
            refine Ops.rung rfl rfl rfl ?_
            refine Ops.mv_int rfl rfl rfl ?_
            refine Ops.nil ?_
            exact After.dn (Below.refl _ _) (by exact rfl)
          · intro e1 w1 hb hp hun
            refine Ops.rung rfl rfl rfl ?_
            refine Ops.idx (hRR9.later hb).2 rfl rfl rfl (by omega) (by omega) ?_
            refine Ops.nil ?_
            exact After.dn (Below.refl _ _) (by exact rfl)
          · intro e1 w1 hb hp hun
            refine Ops.rung rfl rfl rfl ?_
            refine Ops.ld_ag (hRR9.later hb) rfl (by omega) rfl ?_
            refine Ops.nil ?_
            exact After.dn (Below.refl _ _) (by exact rfl)
          · intro e1 w1 hb hp hun
            refine Ops.rung rfl rfl rfl ?_
            refine Ops.ld_agg 0 (hB9.below hb) rfl rfl rfl ?_
            refine Ops.nil ?_
            exact After.dn (Below.refl _ _) (by exact rfl)
          · intro e1 w1 hb hp hun
            refine Ops.rung rfl rfl rfl ?_
            refine Ops.call (l02Same_c _ _ _ _ _ _ _ _ _ _ _ (hmj.later hb) (hr9.later hb) (by omega)) rfl rfl rfl ?_
            rintro _ w2 ⟨rfl, hst⟩
            refine Ops.nil ?_
            exact After.dn hst.below (by exact rfl)
          · intro e1 w1 hb hp hun
            refine Ops.pick_f rfl rfl rfl ?_
            refine Ops.nil ?_
            exact After.dn (Below.refl _ _) (by exact rfl)
          · intro e1 w1 hb hp hun
            refine Ops.mv_bool rfl rfl rfl ?_
            refine Ops.nil ?_
            exact After.dn (Below.refl _ _) (by exact rfl)
          intro u w10 hb10 _
          have hS10 := hS9.later hb10
          refine blockQ_n ?_
          refine thenQ_n ?_
          refine Cd.region ?_
          refine Ops.mv_int rfl rfl rfl ?_
          refine Ops.add rfl rfl rfl (by omega) ?_
          refine Ops.mv_int rfl rfl rfl ?_
          refine Ops.nil ?_
          refine thenQ_n ?_
          refine ⟨(j + 1, decide ((ms[j]).xss = formL N xss k)), by show ms.length - (j + 1) < ms.length - j; omega, ⟨rfl, rfl, rfl, rfl, rfl, rfl, trivial⟩, hS10, by show j + 1 ≤ ms.length; omega, ?_⟩
          show decide _ = decide (formL N xss k ∈ (ms.map (·.xss)).take (j + 1))
          rw [hstep]
          have hno : ¬ formL N xss k ∈ (ms.map (·.xss)).take j := of_decide_eq_false hkn.symm
          refine decide_eq_decide.2 ?_
          rw [List.mem_append, List.mem_singleton]
          exact ⟨fun h => .inr h.symm, fun h => h.elim (fun h => absurd h hno) (fun h => h.symm)⟩
        · refine Cd.skip ?_
          refine thenQ_n ?_
          refine Cd.seq ?_
          refine Cd.block ?_
          refine Cd.draw [.ex (.bool (true)), .ex (.bool (true)), .ex (undef), .ex (undef), .ex (undef), .ex (undef), .ex (undef), .ex (undef), .ex (.bool (true)), .ex (.bool (true))] (by kernel_rfl) (by kernel_rfl) rfl (List.forall_mem_cons.2 ⟨Yd.lasts_ex _, (List.forall_mem_cons.2 ⟨Yd.lasts_ex _, (List.forall_mem_cons.2 ⟨Yd.lasts_ex _, (List.forall_mem_cons.2 ⟨Yd.lasts_ex _, (List.forall_mem_cons.2 ⟨Yd.lasts_ex _, (List.forall_mem_cons.2 ⟨Yd.lasts_ex _, (List.forall_mem_cons.2 ⟨Yd.lasts_ex _, (List.forall_mem_cons.2 ⟨Yd.lasts_ex _, (List.forall_mem_cons.2 ⟨Yd.lasts_ex _, (List.forall_mem_cons.2 ⟨Yd.lasts_ex _, (fun _ h => by cases h)⟩)⟩)⟩)⟩)⟩)⟩)⟩)⟩)⟩)⟩) ⟨?_, ?_, ?_, ?_, ?_, ?_, ?_, ?_, ?_, ?_, trivial⟩ ?_
          · intro e1 w1 hb hp hun
            refine Ops.mv_bool rfl (by exact hun 9 _ rfl (by kernel_rfl)) rfl ?_
            refine Ops.nil ?_
            exact After.dn (Below.refl _ _) (by exact rfl)
          · intro e1 w1 hb hp hun
            refine Ops.mv_bool rfl rfl rfl ?_
            refine Ops.nil ?_
            exact After.dn (Below.refl _ _) (by exact rfl)
          · intro e1 w1 hb hp hun
            refine Ops.skipg rfl rfl rfl rfl rfl ?_
            refine Ops.nil ?_
            exact After.dn (Below.refl _ _) (by exact rfl)
          · intro e1 w1 hb hp hun
            refine Ops.skipg rfl rfl rfl rfl rfl ?_
            refine Ops.nil ?_
            exact After.dn (Below.refl _ _) (by exact rfl)
          · intro e1 w1 hb hp hun
            refine Ops.skipg rfl rfl rfl rfl rfl ?_
            refine Ops.nil ?_
            exact After.dn (Below.refl _ _) (by exact rfl)
          · intro e1 w1 hb hp hun
            refine Ops.skipg rfl rfl rfl rfl rfl ?_
            refine Ops.nil ?_
            exact After.dn (Below.refl _ _) (by exact rfl)
          · intro e1 w1 hb hp hun
            refine Ops.skipg rfl rfl rfl rfl rfl ?_
            refine Ops.nil ?_
            exact After.dn (Below.refl _ _) (by exact rfl)
          · intro e1 w1 hb hp hun
            refine Ops.skipg rfl rfl rfl rfl rfl ?_
            refine Ops.nil ?_
            exact After.dn (Below.refl _ _) (by exact rfl)
          · intro e1 w1 hb hp hun
            refine Ops.pick_t rfl rfl rfl ?_
            refine Ops.nil ?_
            exact After.dn (Below.refl _ _) (by exact rfl)
          · intro e1 w1 hb hp hun
            refine Ops.mv_bool rfl rfl rfl ?_
            refine Ops.nil ?_
            exact After.dn (Below.refl _ _) (by exact rfl)
          intro u w10 hb10 _
          have hS10 := hS9.later hb10
          refine blockQ_n ?_
          refine thenQ_n ?_
          refine Cd.region ?_
          refine Ops.mv_int rfl rfl rfl ?_
          refine Ops.add rfl rfl rfl (by omega) ?_
          refine Ops.mv_int rfl rfl rfl ?_
          refine Ops.nil ?_
          refine thenQ_n ?_
          refine ⟨(j + 1, true), by show ms.length - (j + 1) < ms.length - j; omega, ⟨rfl, rfl, rfl, rfl, rfl, rfl, trivial⟩, hS10, by show j + 1 ≤ ms.length; omega, ?_⟩
          have hyes : formL N xss k ∈ (ms.map (·.xss)).take j := of_decide_eq_true hkn.symm
          show true = decide (formL N xss k ∈ (ms.map (·.xss)).take (j + 1))
          rw [hstep]
          exact (decide_eq_true (List.mem_append_left _ hyes)).symm
      · have hjm : j = ms.length := by omega
        rw [hjm, List.take_of_length_le (by rw [List.length_map]; exact Nat.le_refl _), hms] at hkn
        have hSf := hS8.later hS9.below
        refine Cd.exit ?_
        refine thenQ_x ?_
        refine thenQ_x ?_
        refine blockQ_x ?_
        refine thenQ_n ?_
        refine Cd.seq ?_
        refine Cd.region ?_
        refine Ops.mv_bool rfl rfl rfl ?_
        first | refine Ops.not_p rfl rfl ?_ | refine Ops.not rfl rfl ?_
        refine Ops.nil ?_
        refine thenQ_n ?_
        refine Cd.cond rfl (fun h4 => ?_) (fun h4 => ?_)
        · have hnew : ¬ formL N xss k ∈ fset N xss k := fun h => by
            rw [decide_eq_true h] at hkn
            rw [hkn] at h4
            cases h4
          refine Cd.region ?_
          refine Ops.mv_sl rfl rfl rfl ?_
          refine Ops.ld_agg 0 (hSf.rd 0 rfl) rfl rfl rfl ?_
          refine Ops.bs1A hSf rfl rfl rfl ?_
          intro A10 w10 hS10
          refine Ops.appR 2 hS10 rfl (hS10.rdR 0 rfl) rfl rfl rfl (by omega) (by omega) rfl ?_
          intro A11 c11 w11 hS11
          have hS11 := hS11.tail.tail
          have hS11 : St w w11 (CkR 32 A11 (ms.length + 1) c11 (ms.map (·.top) ++ [⟨A5, n, c5⟩]) :: Bx 32 1 Ab [.slice A n c] :: (matsCk 34 2 ms ++ mat 34 2 A5 n c5 rs5 (formL N xss k))) := hS11
          refine Ops.mv_sl rfl rfl rfl ?_
          refine Ops.nil ?_
          refine blockQ_n ?_
          refine thenQ_n ?_
          refine Cd.region ?_
          refine Ops.mv_int rfl rfl rfl ?_
          refine Ops.add rfl rfl rfl (by omega) ?_
          refine Ops.mv_int rfl rfl rfl ?_
          refine Ops.nil ?_
          refine thenQ_n ?_
          refine ⟨(k + 1, A11, c11, ms ++ [⟨⟨A5, n, c5⟩, rs5, formL N xss k⟩]), by show N - (k + 1) < N - k; omega, ⟨rfl, by rw [List.length_append]; rfl, rfl, trivial⟩, ?_, by show k + 1 ≤ N; omega, ?_, ?_, hown'⟩
          · show St w w11 (CkR _ A11 (ms ++ [(⟨⟨A5, n, c5⟩, rs5, formL N xss k⟩ : MatV)]).length c11 (List.map MatV.top (ms ++ [(⟨⟨A5, n, c5⟩, rs5, formL N xss k⟩ : MatV)])) :: _ :: matsCk _ _ (ms ++ [(⟨⟨A5, n, c5⟩, rs5, formL N xss k⟩ : MatV)]))
            rw [List.length_append, List.map_append, matsCk_append]
            simpa [matsCk, MatV.cks] using hS11
          · show List.map MatV.xss (ms ++ [(⟨⟨A5, n, c5⟩, rs5, formL N xss k⟩ : MatV)]) = fset N xss (k + 1)
            rw [List.map_append, hms, fset, if_neg hnew]
            rfl
          · intro m hm
            rcases List.mem_append.1 hm with hm | hm
            · exact htn m hm
            · simp at hm; subst hm; rfl
        · have hold : formL N xss k ∈ fset N xss k := by
            cases hkb : kn with
            | true => rw [hkb] at hkn; exact of_decide_eq_true hkn.symm
            | false => rw [hkb] at h4; cases h4
          refine Cd.skip ?_
          refine blockQ_n ?_
          refine thenQ_n ?_
          refine Cd.region ?_
          refine Ops.mv_int rfl rfl rfl ?_
          refine Ops.add rfl rfl rfl (by omega) ?_
          refine Ops.mv_int rfl rfl rfl ?_
          refine Ops.nil ?_
          refine thenQ_n ?_
          refine ⟨(k + 1, A4, c4, ms), by show N - (k + 1) < N - k; omega, ⟨rfl, rfl, rfl, trivial⟩, ?_, by show k + 1 ≤ N; omega, ?_, htn, hown'⟩
          · exact hSf.sub ((List.Sublist.cons_cons _ (List.Sublist.cons_cons _ (List.sublist_append_left _ _))).cons _)
          · show ms.map (·.xss) = fset N xss (k + 1)
            rw [hms, fset, if_pos hold]
  · have hkN : k = N := by omega
    subst hkN
    refine Cd.exit ?_
    refine thenQ_x ?_
    refine thenQ_x ?_
    refine blockQ_x ?_
    refine thenQ_n ?_
    refine Cd.seq ?_
    refine Cd.region ?_
    refine Ops.mv_sl rfl rfl rfl ?_
    refine Ops.len rfl rfl ?_
    refine Ops.mv_int rfl rfl rfl ?_
    refine Ops.nil ?_
    refine thenQ_n ?_
    refine Cd.ret ?_
    refine ret1_i rfl ?_
    refine ⟨?_, hS4.none⟩
    rw [orbN, if_pos (show Own1 k xss from hown), ← hms, List.length_map]
end Go.Proofs.YtjpkmpihmilgoaaGreat.Vc
/-
  The reference's list of a rank and a number of flags, with the numbers of orbits. Conditions: the rank and the number are within their bounds.
-/
namespace Go.Proofs.YtjpkmpihmilgoaaGreat.Vc
open Go.RowKit

section
variable {P : Program} {N : Nat} {ops : Array Oper} {K : Env → World → Prop} {rest : List Oper} {e : Env} {w0 w w' : World} {ks : List Ck} {d : Nat} {ty : TypeId} {pos : String} {af : Array Edge}
theorem Ops.appFR {t el : TypeId} {z : Value} {b : Nat} [hU : Und P t (.slice el)] [Inf P el z 1 b] {x y : Operand} (i : Nat) {A : Option Addr} {n c : Nat} {xs : List SlV} {A' : Option Addr} {m c' : Nat} {ys : List SlV} (hfull : n = c) (hS : St w0 w ks) (hk : ks[i]? = some (CkR el A n c xs)) (hR : RdR w A' m ys) (hx : ev e x = .slice A n c) (hy : ev e y = .slice A' m c') {z0 : Value} (hz : z.cells = #[z0])
    (h63 : n + m ≤ 9223372036854775807) (hbytes : (n + m) * b ≤ 140737488355328) (hb : Nat.blt d N = true)
    (hK : ∀ A2 c2 w', Below w.heap.size w w' → St w0 w' (ks.set i (CkR el A2 (n + m) c2 (xs ++ ys))) → Ops P N ops K rest (upd e d (.slice A2 (n + m) c2)) w') :
    Ops P N ops K (⟨some d, .call ⟨.builtin .append, #[x, y], #[t, t]⟩, ty, pos, af, none⟩ :: rest) e w :=
  .appF i hfull hS hk hR.2 hx hy rfl hz (fun _ _ => rfl) (by simpa [maxLen] using h63) hbytes hb fun A2 c2 w' hb' h => hK A2 c2 w' hb' (by
    rw [map_range_R hR.1] at h
    simpa [CkR] using h)
theorem ret2_ss {R : Value → World → Prop} {t u : Nat} {A A' : Option Addr} {n c n' c' : Nat} (h : e t = .slice A n c) (h2 : e u = .slice A' n' c') (hR : R (.tuple #[.slice A n c, .slice A' n' c']) w) : ret2 t u R .ret e w := by show R (.tuple #[e t, e u]) w; rw [h, h2]; exact hR
end
theorem pin (u : Nat → Value) {i : Nat} {v : Value} (h : u i = v) : u = fun k => if k = i then v else u k := by
  funext k
  split
  · rename_i e; rw [e, h]
  · rfl
theorem RdR.take {w : World} {A : Option Addr} {n l : Nat} {xs : List SlV} (h : RdR w A n xs) (hl : l ≤ n) : RdR w A l (xs.take l) := by
  refine ⟨by rw [List.length_take, h.1]; omega, fun k hk => ?_⟩
  obtain ⟨q, h1, h2⟩ := h.2 k (by omega)
  exact ⟨q, h1, by rw [h2]; simp [List.getElem?_take, hk, List.getD_eq_getElem?_getD]⟩
theorem RdR.drop {w : World} {A : Option Addr} {n c l : Nat} {xs : List SlV} (h : RdR w A n xs) (hl : l ≤ n) (hc : n ≤ c) : RdR w (cutAt A c l) (n - l) (xs.drop l) := by
  have := h.cut (l := l) (h := n) (c := c) hl (Nat.le_refl _) hc
  rwa [List.take_of_length_le (by rw [List.length_drop, h.1]; omega)] at this

/-! matrices chosen and put in order -/
theorem matsCk_sub {t1 t2 : TypeId} {l l' : List MatV} (h : l.Sublist l') : (matsCk t1 t2 l).Sublist (matsCk t1 t2 l') := by
  induction h with
  | slnil => exact List.Sublist.refl _
  | cons a _ ih => exact ih.trans (List.sublist_append_right _ _)
  | cons_cons a _ ih => exact List.Sublist.append (List.Sublist.refl _) ih
theorem matsCk_perm {t1 t2 : TypeId} {l l' : List MatV} (h : l.Perm l') : (matsCk t1 t2 l).Perm (matsCk t1 t2 l') := h.flatMap_right _
def insV (m : MatV) (l : List MatV) : List MatV := l.take (atM m.xss (l.map (·.xss))) ++ m :: l.drop (atM m.xss (l.map (·.xss)))
theorem insV_xss (m : MatV) (l : List MatV) : (insV m l).map (·.xss) = insM m.xss (l.map (·.xss)) := by simp [insV, insM, List.map_take, List.map_drop]
theorem insV_perm (m : MatV) (l : List MatV) : (insV m l).Perm (m :: l) := ins_perm m l _
def selV (F : Nat) (ms : List MatV) : List MatV := ms.filter fun m => decide (Own1 F m.xss)
theorem fset_pos (N : Nat) (xss : Mx) : ∀ k, 0 < k → 0 < (fset N xss k).length
  | k + 1, _ => by
    simp only [fset]
    split
    · rename_i h; exact List.length_pos_of_mem h
    · simp
theorem orbN_zero {F : Nat} {L : Mx} (hF : 0 < F) : orbN F L = 0 ↔ ¬ Own1 F L := by
  unfold orbN
  split
  · rename_i h
    have := fset_pos F L F hF
    exact ⟨fun e => by omega, fun h' => absurd h h'⟩
  · rename_i h; exact ⟨fun _ => h, fun _ => rfl⟩
def orbI (F : Nat) (m : MatV) : Int := (orbN F m.xss : Int)
theorem top_at {ms : List MatV} {j : Nat} (hj : j < ms.length) : rg (ms.map (·.top)) (j : Int) = (ms[j]).top := by
  simp [rg, List.getD_eq_getElem?_getD, List.getElem?_eq_getElem hj]
theorem selV_snoc {F : Nat} {ms : List MatV} {i : Nat} (hi : i < ms.length) : selV F (ms.take (i + 1)) = if Own1 F (ms[i]).xss then selV F (ms.take i) ++ [ms[i]] else selV F (ms.take i) := by
  unfold selV
  rw [List.take_succ_eq_append_getElem hi, List.filter_append]
  by_cases h : Own1 F (ms[i]).xss <;> simp [h]

theorem l19List_c (n F : Nat) (hn : 1 ≤ n ∧ n ≤ 4) (hF : 2 ≤ F ∧ F ≤ 12) (w : World) :
    Ret Tryz.prog 47 [.int .i64 (n : Int), .int .i64 (F : Int)] w (fun v w' => ∃ A c A2 c2, ∃ ms : List MatV, v = .tuple #[.slice A ms.length c, .slice A2 ms.length c2] ∧ ms.map (·.xss) = listL n F ∧ (∀ m ∈ ms, m.ok) ∧
      St w w' (CkR 32 A ms.length c (ms.map (·.top)) :: CkI 2 A2 ms.length c2 (ms.map (orbI F)) :: matsCk 34 2 ms)) := by
  refine Ret.of_cd Tryz.func47 rfl Tryz.ntmps47 rfl (post2 rfl) ?_
  refine Cd.seq ?_
  refine Cd.region ?_
  refine Ops.mv_sl rfl rfl rfl ?_
  refine Ops.mv_sl rfl rfl rfl ?_
  refine Ops.nil ?_
  refine thenQ_n ?_
  refine Cd.seq ?_
  refine Cd.region ?_
  refine Ops.mv_int rfl rfl rfl ?_
  refine Ops.mv_int rfl rfl rfl ?_
  refine Ops.call (l19Rooted_c n F hn hF w) rfl rfl rfl ?_
  rintro _ w1 ⟨A6, c6, all, rfl, hok, hall, hst⟩
  have hsm := forms_small hn hF (F * n + 1)
  rw [← hall, List.length_map] at hsm
  have hman : ∀ m ∈ all, Mani m.xss ∧ Inv n F m.xss F (F * n) := fun m hm => forms_mani (by omega) (by omega) (by rw [formsL, ← hall]; exact List.mem_map_of_mem hm)
  have hlen : ∀ m ∈ all, m.xss.length = n := fun m hm => (hman m hm).2.shp.1
  have htn : ∀ m ∈ all, m.top.n = n := fun m hm => by rw [← hok m hm]; exact hlen m hm
  have hgF : ∀ m ∈ all, F = (gl m.xss 0).length := fun m hm => ((hman m hm).2.shp.row (i := 0) (by omega)).symm
  have hRR := hst.rdR 0 rfl
  have hmr : ∀ m ∈ all, RowsI w1 m.top.a n m.rs m.xss := fun m hm => by
    have := hst.matAt (c := m.top.c) (t1 := 34) (t2 := 2) ((MatV.sub_ hm).trans (List.sublist_cons_self _ _)) (hok m hm)
    rw [htn m hm] at this
    exact this
  have hcap : ∀ m ∈ all, n ≤ m.top.c := fun m hm => by
    have h1 := hst.own (CkR 34 m.top.a m.top.n m.top.c m.rs) (by
      refine List.mem_cons_of_mem _ ?_
      exact List.mem_flatMap.2 ⟨m, hm, by simp [MatV.cks, mat]⟩)
    have h2 : m.top.n ≤ m.top.c := h1.cap.1
    rw [htn m hm] at h2
    exact h2
  refine Ops.bs0 (St.refl w1) rfl ?_
  intro A7 w2 hS2
  refine Ops.bs0 hS2 rfl ?_
  intro A8 w3 hS3
  have hS3 : St w1 w3 [CkI 2 A8 0 0 [], CkR 32 A7 0 0 []] := hS3
  have hS3 := hS3.swap
  refine Ops.mv_sl rfl rfl rfl ?_
  refine Ops.mv_sl rfl rfl rfl ?_
  refine Ops.mv_sl rfl rfl rfl ?_
  refine Ops.nil ?_
  refine thenQ_n ?_
  refine Cd.seq ?_
  refine Cd.seq ?_
  refine Cd.region ?_
  refine Ops.mv_int rfl rfl rfl ?_
  refine Ops.nil ?_
  refine thenQ_n ?_
  refine Cd.block ?_
  refine Cd.loop (α := Nat × (Option Addr × Nat) × (Option Addr × Nat) × List MatV) (fun s => [(6, .slice A6 all.length c6), (7, .slice s.2.1.1 s.2.2.2.length s.2.1.2), (8, .slice s.2.2.1.1 s.2.2.2.length s.2.2.1.2), (9, .int .i64 (s.1 : Int))])
    (fun s w' => St w1 w' [CkR 32 s.2.1.1 s.2.2.2.length s.2.1.2 (s.2.2.2.map (·.top)), CkI 2 s.2.2.1.1 s.2.2.2.length s.2.2.1.2 (s.2.2.2.map (orbI F))] ∧ s.1 ≤ all.length ∧ s.2.2.2.Perm (selV F (all.take s.1)) ∧ s.2.2.2.map (·.xss) = ordM ((selV F (all.take s.1)).map (·.xss))) (fun s => all.length - s.1)
    (0, (A7, 0), (A8, 0), []) ⟨rfl, rfl, rfl, rfl, trivial⟩ ⟨hS3, Nat.zero_le _, List.Perm.refl _, rfl⟩ ?_
  rintro ⟨i, ⟨B7, c7⟩, ⟨B8, c8⟩, outs⟩ e w4 ⟨hS4, hi, hperm, hord⟩
  dsimp only at hS4 hi hperm hord ⊢
  have hsubm : ∀ m ∈ outs, m ∈ all := fun m hm => List.mem_of_mem_take (List.mem_filter.1 (hperm.mem_iff.1 hm)).1
  have houts : outs.length ≤ i := by
    have h1 := hperm.length_eq
    have h2 := List.length_filter_le (fun m : MatV => decide (Own1 F m.xss)) (all.take i)
    have h3 : (selV F (all.take i)).length ≤ (all.take i).length := h2
    rw [List.length_take] at h3
    omega
  refine Cd.seq ?_
  refine Cd.seq ?_
  refine Cd.region ?_
  refine Ops.mv_int rfl rfl rfl ?_
  refine Ops.mv_sl rfl rfl rfl ?_
  refine Ops.len rfl rfl ?_
  refine Ops.lss rfl rfl rfl ?_
  refine Ops.nil ?_
  refine thenQ_n ?_
  refine Cd.cond_p _ rfl (fun h1 => ?_) (fun h1 => ?_)
  · have hi' : i < all.length := by omega
    have hm := List.getElem_mem hi'
    have hti := top_at hi'
    have hRR4 := hRR.later hS4.below
    have hX := (hmr _ hm).later hS4.below
    have hsn := selV_snoc (F := F) hi'
    have hXm := (hman _ hm).1
    have hXF := hgF _ hm
    have hXc := hcap _ hm
    refine Cd.skip ?_
    refine thenQ_n ?_
    refine Cd.seq ?_
    refine Cd.block ?_
    refine Cd.seq ?_
    refine Cd.region ?_
    refine Ops.mv_sl rfl rfl rfl ?_
    refine Ops.mv_int rfl rfl rfl ?_
    refine Ops.idx hRR4.2 rfl rfl rfl (by omega) (by omega) ?_
    refine Ops.ld_ag hRR4 rfl (by omega) rfl ?_
    rw [hti, htn _ hm]
    generalize hXe : all[i] = X at *
    have hXt : (⟨X.top.a, n, X.top.c⟩ : SlV) = X.top := by rw [← htn _ hm]
    refine Ops.call (l19Orbits_c X.top.a n X.top.c X.rs X.xss F _ hX hXm hXF) rfl rfl rfl ?_
    rintro _ w5 ⟨rfl, hst5⟩
    have hS5 := hS4.later hst5.below
    refine Ops.mv_int rfl rfl rfl ?_
    refine Ops.nil ?_
    refine thenQ_n ?_
    refine Cd.seq ?_
    refine Cd.seq ?_
    refine Cd.region ?_
    refine Ops.mv_int rfl rfl rfl ?_
    refine Ops.eql rfl rfl rfl ?_
    refine Ops.nil ?_
    refine thenQ_n ?_
    refine Cd.cond_p _ rfl (fun h2 => ?_) (fun h2 => ?_)
    · have hno : ¬ Own1 F X.xss := (orbN_zero (by omega)).1 (by omega)
      rw [if_neg hno] at hsn
      refine Cd.exit ?_
      refine thenQ_x ?_
      refine blockQ_x ?_
      refine thenQ_n ?_
      refine Cd.region ?_
      refine Ops.mv_int rfl rfl rfl ?_
      refine Ops.add rfl rfl rfl (by omega) ?_
      refine Ops.mv_int rfl rfl rfl ?_
      refine Ops.nil ?_
      refine thenQ_n ?_
      exact ⟨(i + 1, (B7, c7), (B8, c8), outs), by show all.length - (i + 1) < all.length - i; omega, ⟨rfl, rfl, rfl, rfl, trivial⟩, hS5, hi', by show outs.Perm (selV F (all.take (i + 1))); rw [hsn]; exact hperm, by show outs.map _ = ordM ((selV F (all.take (i + 1))).map _); rw [hsn]; exact hord⟩
    · have hyes : Own1 F X.xss := Classical.byContradiction fun h => h2 (by rw [(orbN_zero (by omega)).2 h]; rfl)
      rw [if_pos hyes] at hsn
      have hX5 := hX.later hst5.below
      have hlast : ∀ {A9 c9 A10 c10 w9}, St w1 w9 [CkR 32 A9 (insV X outs).length c9 ((insV X outs).map (·.top)), CkI 2 A10 (insV X outs).length c10 ((insV X outs).map (orbI F))] →
          St w1 w9 [CkR 32 A9 (insV X outs).length c9 ((insV X outs).map (·.top)), CkI 2 A10 (insV X outs).length c10 ((insV X outs).map (orbI F))] ∧ i + 1 ≤ all.length ∧ (insV X outs).Perm (selV F (all.take (i + 1))) ∧ (insV X outs).map (·.xss) = ordM ((selV F (all.take (i + 1))).map (·.xss)) := fun hs => by
        refine ⟨hs, hi', ?_, ?_⟩
        · rw [hsn]
          exact (insV_perm X outs).trans ((hperm.cons X).trans (List.perm_append_comm (l₁ := [X])))
        · rw [hsn, insV_xss, hord, List.map_append, List.map_singleton, ordM_snoc]
      have hinl : (insV X outs).length = outs.length + 1 := (insV_perm X outs).length_eq
      refine Cd.skip ?_
      refine thenQ_n ?_
      refine Cd.seq ?_
      refine Cd.region ?_
      refine Ops.mv_int rfl rfl rfl ?_
      refine Ops.nil ?_
      refine thenQ_n ?_
      refine Cd.join (α := Nat) (fun a => [(6, .slice A6 all.length c6), (7, .slice B7 outs.length c7), (8, .slice B8 outs.length c8), (9, .int .i64 (i : Int)), (10, .int .i64 (orbN F X.xss : Int)), (11, .int .i64 (a : Int))])
        (fun a w' => St w5 w' [] ∧ a ≤ outs.length ∧ a = atM X.xss (outs.map (·.xss))) ?_ ?_
      · refine Cd.block ?_
        refine Cd.loop (α := Nat) (fun a => [(6, .slice A6 all.length c6), (7, .slice B7 outs.length c7), (8, .slice B8 outs.length c8), (9, .int .i64 (i : Int)), (10, .int .i64 (orbN F X.xss : Int)), (11, .int .i64 (a : Int))])
          (fun a w' => St w5 w' [] ∧ a ≤ outs.length ∧ a + atM X.xss ((outs.map (·.xss)).drop a) = atM X.xss (outs.map (·.xss))) (fun a => outs.length - a) 0 ⟨rfl, rfl, rfl, rfl, rfl, rfl, trivial⟩ ⟨St.refl w5, Nat.zero_le _, Nat.zero_add _⟩ ?_
        rintro a e w6 ⟨hS6, ha, hat⟩
        have hT6 := (hS5.rdR 0 rfl).later hS6.below
        have hA6 := (hRR4.later hst5.below).later hS6.below
        have hX6 := hX5.later hS6.below
        by_cases hlt : a < outs.length --dup 2
        · have hmo := hsubm _ (List.getElem_mem hlt)
          have hY6 := (((hmr _ hmo).later hS4.below).later hst5.below).later hS6.below
          have hto := top_at hlt
          have hton := htn _ hmo
          generalize hYe : outs[a] = Y at *
          refine Cd.seq ?_
          refine Cd.seq ?_
          refine Cd.draw [.ex (.int .i64 ((a : Int))), .ex (.slice (B7) (outs.length) (c7)), .ex (.int .i64 (((outs.length : Nat) : Int))), .ex (.bool (true)), .ex (.bool (true)), .ex (.slice (B7) (outs.length) (c7)), .ex (.int .i64 ((a : Int))), .ex (.pointer (ptrAt (B7) ((a : Int)).toNat)), .ex (.agg #[.slice Y.top.a n Y.top.c]), .ex (.slice (A6) (all.length) (c6)), .ex (.int .i64 ((i : Int))), .ex (.pointer (ptrAt (A6) ((i : Int)).toNat)), .ex (.agg #[.slice X.top.a n X.top.c]), .ex (.bool (decide (lexCC Y.xss X.xss < 0))), .ex (.bool (decide (lexCC Y.xss X.xss < 0)))] (by kernel_rfl) (by kernel_rfl) rfl (List.forall_mem_cons.2 ⟨Yd.lasts_ex _, (List.forall_mem_cons.2 ⟨Yd.lasts_ex _, (List.forall_mem_cons.2 ⟨Yd.lasts_ex _, (List.forall_mem_cons.2 ⟨Yd.lasts_ex _, (List.forall_mem_cons.2 ⟨Yd.lasts_ex _, (List.forall_mem_cons.2 ⟨Yd.lasts_ex _, (List.forall_mem_cons.2 ⟨Yd.lasts_ex _, (List.forall_mem_cons.2 ⟨Yd.lasts_ex _, (List.forall_mem_cons.2 ⟨Yd.lasts_ex _, (List.forall_mem_cons.2 ⟨Yd.lasts_ex _, (List.forall_mem_cons.2 ⟨Yd.lasts_ex _, (List.forall_mem_cons.2 ⟨Yd.lasts_ex _, (List.forall_mem_cons.2 ⟨Yd.lasts_ex _, (List.forall_mem_cons.2 ⟨Yd.lasts_ex _, (List.forall_mem_cons.2 ⟨Yd.lasts_ex _, (fun _ h => by cases h)⟩)⟩)⟩)⟩)⟩)⟩)⟩)⟩)⟩)⟩)⟩)⟩)⟩)⟩)⟩) ⟨?_, ?_, ?_, ?_, ?_, ?_, ?_, ?_, ?_, ?_, ?_, ?_, ?_, ?_, ?_, trivial⟩ ?_
          · intro e1 w1 hb hp hun
            refine Ops.mv_int rfl rfl rfl ?_
            refine Ops.nil ?_
            exact After.dn (Below.refl _ _) (by exact rfl)
          · intro e1 w1 hb hp hun
            refine Ops.mv_sl rfl rfl rfl ?_
            refine Ops.nil ?_
            exact After.dn (Below.refl _ _) (by exact rfl)
          · intro e1 w1 hb hp hun
            refine Ops.len rfl rfl ?_
            refine Ops.nil ?_
            exact After.dn (Below.refl _ _) (by exact rfl)
          · intro e1 w1 hb hp hun
            refine Ops.lss rfl rfl rfl ?_
            refine Ops.nil ?_
            exact After.dn (Below.refl _ _) (by exact congrArg Value.bool (decide_eq_true (by omega)))
          · intro e1 w1 hb hp hun
            refine Ops.mv_bool rfl rfl rfl ?_
            refine Ops.nil ?_
            exact After.dn (Below.refl _ _) (by exact rfl)
          · intro e1 w1 hb hp hun
            refine Ops.rung rfl rfl rfl ?_
            refine Ops.mv_sl rfl rfl rfl ?_
            refine Ops.nil ?_
            exact After.dn (Below.refl _ _) (by exact rfl)
          · intro e1 w1 hb hp hun
            refine Ops.rung rfl rfl rfl ?_
            refine Ops.mv_int rfl rfl rfl ?_
            refine Ops.nil ?_
            exact After.dn (Below.refl _ _) (by exact rfl)
          · intro e1 w1 hb hp hun
            refine Ops.rung rfl rfl rfl ?_
            refine Ops.idx (hT6.later hb).2 rfl rfl rfl (by omega) (by omega) ?_
            refine Ops.nil ?_
            exact After.dn (Below.refl _ _) (by exact rfl)
          · intro e1 w1 hb hp hun
            refine Ops.rung rfl rfl rfl ?_
            refine Ops.ld_ag (hT6.later hb) rfl (by omega) rfl ?_
            rw [hto, hton]
            refine Ops.nil ?_
            exact After.dn (Below.refl _ _) (by exact rfl)
          · intro e1 w1 hb hp hun
            refine Ops.rung rfl rfl rfl ?_
            refine Ops.mv_sl rfl rfl rfl ?_
            refine Ops.nil ?_
            exact After.dn (Below.refl _ _) (by exact rfl)
          · intro e1 w1 hb hp hun
            refine Ops.rung rfl rfl rfl ?_
            refine Ops.mv_int rfl rfl rfl ?_
            refine Ops.nil ?_
            exact After.dn (Below.refl _ _) (by exact rfl)
          · intro e1 w1 hb hp hun
            refine Ops.rung rfl rfl rfl ?_
            refine Ops.idx (hA6.later hb).2 rfl rfl rfl (by omega) (by omega) ?_
            refine Ops.nil ?_
            exact After.dn (Below.refl _ _) (by exact rfl)
          · intro e1 w1 hb hp hun
            refine Ops.rung rfl rfl rfl ?_
            refine Ops.ld_ag (hA6.later hb) rfl (by omega) rfl ?_
            rw [hti, htn _ hm]
            refine Ops.nil ?_
            exact After.dn (Below.refl _ _) (by exact rfl)
          · intro e1 w1 hb hp hun
            refine Ops.rung rfl rfl rfl ?_
            refine Ops.call (l19Less_c Y.top.a n Y.top.c Y.rs Y.xss X.top.a X.top.c X.rs X.xss _ (hY6.later hb) (hX6.later hb) (by omega)) rfl rfl rfl ?_
            rintro _ w2 ⟨rfl, hst⟩
            refine Ops.nil ?_
            exact After.dn hst.below (by exact rfl)
          · intro e1 w1 hb hp hun
            refine Ops.pick_t rfl rfl rfl ?_
            refine Ops.nil ?_
            exact After.dn (Below.refl _ _) (by exact rfl)
          intro uu w7 hb7 _
          have hS7 := hS6.later hb7
          rw [atM_drop (by rw [List.length_map]; exact hlt), List.getElem_map, hYe] at hat
          refine thenQ_n ?_
          refine Cd.cond_p _ rfl (fun h5 => ?_) (fun h5 => ?_)
          · rw [if_pos h5] at hat
            refine Cd.skip ?_
            refine thenQ_n ?_
            refine Cd.block ?_
            refine Cd.region ?_
            refine Ops.mv_int rfl rfl rfl ?_
            refine Ops.add rfl rfl rfl (by omega) ?_
            refine Ops.mv_int rfl rfl rfl ?_
            refine Ops.nil ?_
            refine blockQ_n ?_
            refine thenQ_n ?_
            exact ⟨a + 1, by show outs.length - (a + 1) < outs.length - a; omega, ⟨rfl, rfl, rfl, rfl, rfl, rfl, trivial⟩, hS7, hlt, by omega⟩
          · rw [if_neg h5] at hat
            refine Cd.exit ?_
            refine thenQ_x ?_
            refine thenQ_x ?_
            refine blockQ_x ?_
            refine thenQ_n ?_
            exact ⟨a, ⟨rfl, rfl, rfl, rfl, rfl, rfl, trivial⟩, hS7, ha, by omega⟩
        · refine Cd.seq ?_
          refine Cd.seq ?_
          refine Cd.draw [.ex (.int .i64 ((a : Int))), .ex (.slice (B7) (outs.length) (c7)), .ex (.int .i64 (((outs.length : Nat) : Int))), .ex (.bool (false)), .ex (.bool (false)), .ex (undef), .ex (undef), .ex (undef), .ex (undef), .ex (undef), .ex (undef), .ex (undef), .ex (undef), .ex (undef), .ex (.bool (false))] (by kernel_rfl) (by kernel_rfl) rfl (List.forall_mem_cons.2 ⟨Yd.lasts_ex _, (List.forall_mem_cons.2 ⟨Yd.lasts_ex _, (List.forall_mem_cons.2 ⟨Yd.lasts_ex _, (List.forall_mem_cons.2 ⟨Yd.lasts_ex _, (List.forall_mem_cons.2 ⟨Yd.lasts_ex _, (List.forall_mem_cons.2 ⟨Yd.lasts_ex _, (List.forall_mem_cons.2 ⟨Yd.lasts_ex _, (List.forall_mem_cons.2 ⟨Yd.lasts_ex _, (List.forall_mem_cons.2 ⟨Yd.lasts_ex _, (List.forall_mem_cons.2 ⟨Yd.lasts_ex _, (List.forall_mem_cons.2 ⟨Yd.lasts_ex _, (List.forall_mem_cons.2 ⟨Yd.lasts_ex _, (List.forall_mem_cons.2 ⟨Yd.lasts_ex _, (List.forall_mem_cons.2 ⟨Yd.lasts_ex _, (List.forall_mem_cons.2 ⟨Yd.lasts_ex _, (fun _ h => by cases h)⟩)⟩)⟩)⟩)⟩)⟩)⟩)⟩)⟩)⟩)⟩)⟩)⟩)⟩)⟩) ⟨?_, ?_, ?_, ?_, ?_, ?_, ?_, ?_, ?_, ?_, ?_, ?_, ?_, ?_, ?_, trivial⟩ ?_
          · intro e1 w1 hb hp hun
            refine Ops.mv_int rfl rfl rfl ?_
            refine Ops.nil ?_
            exact After.dn (Below.refl _ _) (by exact rfl)
          · intro e1 w1 hb hp hun
            refine Ops.mv_sl rfl rfl rfl ?_
            refine Ops.nil ?_
            exact After.dn (Below.refl _ _) (by exact rfl)
          · intro e1 w1 hb hp hun
            refine Ops.len rfl rfl ?_
            refine Ops.nil ?_
            exact After.dn (Below.refl _ _) (by exact rfl)
          · intro e1 w1 hb hp hun
            refine Ops.lss rfl rfl rfl ?_
            refine Ops.nil ?_
            exact After.dn (Below.refl _ _) (by exact congrArg Value.bool (decide_eq_false (by omega)))
          · intro e1 w1 hb hp hun
            refine Ops.mv_bool rfl rfl rfl ?_
            refine Ops.nil ?_
            exact After.dn (Below.refl _ _) (by exact rfl)
          · intro e1 w1 hb hp hun
            refine Ops.skipg rfl rfl rfl rfl rfl ?_
            refine Ops.nil ?_
            exact After.dn (Below.refl _ _) (by exact rfl)
          · intro e1 w1 hb hp hun
            refine Ops.skipg rfl rfl rfl rfl rfl ?_
            refine Ops.nil ?_
            exact After.dn (Below.refl _ _) (by exact rfl)
          · intro e1 w1 hb hp hun
            refine Ops.skipg rfl rfl rfl rfl rfl ?_
            refine Ops.nil ?_
            exact After.dn (Below.refl _ _) (by exact rfl)
          · intro e1 w1 hb hp hun
            refine Ops.skipg rfl rfl rfl rfl rfl ?_
            refine Ops.nil ?_
            exact After.dn (Below.refl _ _) (by exact rfl)
          · intro e1 w1 hb hp hun
            refine Ops.skipg rfl rfl rfl rfl rfl ?_
            refine Ops.nil ?_
            exact After.dn (Below.refl _ _) (by exact rfl)
          · intro e1 w1 hb hp hun
            refine Ops.skipg rfl rfl rfl rfl rfl ?_
            refine Ops.nil ?_
            exact After.dn (Below.refl _ _) (by exact rfl)
          · intro e1 w1 hb hp hun
            refine Ops.skipg rfl rfl rfl rfl rfl ?_
            refine Ops.nil ?_
            exact After.dn (Below.refl _ _) (by exact rfl)
          · intro e1 w1 hb hp hun
            refine Ops.skipg rfl rfl rfl rfl rfl ?_
            refine Ops.nil ?_
            exact After.dn (Below.refl _ _) (by exact rfl)
          · intro e1 w1 hb hp hun
            refine Ops.skipg rfl rfl rfl rfl rfl ?_
            refine Ops.nil ?_
            exact After.dn (Below.refl _ _) (by exact rfl)
          · intro e1 w1 hb hp hun
            refine Ops.pick_f rfl rfl rfl ?_
            refine Ops.nil ?_
            exact After.dn (Below.refl _ _) (by exact rfl)
          intro uu w7 hb7 _
          have hS7 := hS6.later hb7
          rw [List.drop_of_length_le (by rw [List.length_map]; omega)] at hat
          refine thenQ_n ?_
          refine Cd.cond_f rfl ?_
          refine Cd.exit ?_
          refine thenQ_x ?_
          refine thenQ_x ?_
          refine blockQ_x ?_
          refine thenQ_n ?_
          exact ⟨a, ⟨rfl, rfl, rfl, rfl, rfl, rfl, trivial⟩, hS7, ha, hat⟩
      · rintro a e w6 ⟨hS6, ha, hat⟩
        have hSk := hS5.later hS6.below
        have hA6 := (hRR4.later hst5.below).later hS6.below
        refine Cd.seq ?_
        refine Cd.draw [.ex (.slice (A6) (all.length) (c6)), .ex (.int .i64 ((i : Int))), .ex (.pointer (ptrAt (A6) ((i : Int)).toNat)), .ex (.agg #[.slice X.top.a n X.top.c]), .pr (fun v w' => ∃ A9, v = .slice A9 1 1 ∧ St w1 w' [CkR 32 A9 1 1 [X.top], CkR 32 B7 outs.length c7 (outs.map (·.top)), CkI 2 B8 outs.length c8 (outs.map (orbI F))]), .ex (.slice (B7) (outs.length) (c7)), .ex (.int .i64 ((a : Int))), .ex (.slice (cutAt B7 c7 a) (outs.length - a) (c7 - a)), .pr (fun v w' => ∃ A9 c9, v = .slice A9 (1 + (outs.length - a)) c9 ∧ St w1 w' [CkR 32 A9 (1 + (outs.length - a)) c9 ([X.top] ++ (outs.map (·.top)).drop a), CkR 32 B7 outs.length c7 (outs.map (·.top)), CkI 2 B8 outs.length c8 (outs.map (orbI F))]), .pr (fun v w' => ∃ A9 c9, v = .slice A9 (1 + (outs.length - a)) c9 ∧ St w1 w' [CkR 32 A9 (1 + (outs.length - a)) c9 ([X.top] ++ (outs.map (·.top)).drop a), CkR 32 B7 outs.length c7 (outs.map (·.top)), CkI 2 B8 outs.length c8 (outs.map (orbI F))])] (by kernel_rfl) (by kernel_rfl) rfl (List.forall_mem_cons.2 ⟨Yd.lasts_ex _, (List.forall_mem_cons.2 ⟨Yd.lasts_ex _, (List.forall_mem_cons.2 ⟨Yd.lasts_ex _, (List.forall_mem_cons.2 ⟨Yd.lasts_ex _, (List.forall_mem_cons.2 ⟨Yd.lasts_pr (fun v w w' h hb => by obtain ⟨A9, hv, hT⟩ := h; exact ⟨A9, hv, hT.later hb⟩), (List.forall_mem_cons.2 ⟨Yd.lasts_ex _, (List.forall_mem_cons.2 ⟨Yd.lasts_ex _, (List.forall_mem_cons.2 ⟨Yd.lasts_ex _, (List.forall_mem_cons.2 ⟨Yd.lasts_pr (fun v w w' h hb => by obtain ⟨A9, c9, hv, hT⟩ := h; exact ⟨A9, c9, hv, hT.later hb⟩), (List.forall_mem_cons.2 ⟨Yd.lasts_pr (fun v w w' h hb => by obtain ⟨A9, c9, hv, hT⟩ := h; exact ⟨A9, c9, hv, hT.later hb⟩), (fun _ h => by cases h)⟩)⟩)⟩)⟩)⟩)⟩)⟩)⟩)⟩)⟩) ⟨?_, ?_, ?_, ?_, ?_, ?_, ?_, ?_, ?_, ?_, trivial⟩ ?_
        · intro e1 w1 hb hp hun
          refine Ops.mv_sl rfl rfl rfl ?_
          refine Ops.nil ?_
          exact After.dn (Below.refl _ _) (by exact rfl)
        · intro e1 w1 hb hp hun
          refine Ops.mv_int rfl rfl rfl ?_
          refine Ops.nil ?_
          exact After.dn (Below.refl _ _) (by exact rfl)
        · intro e1 w1 hb hp hun
          refine Ops.idx (hA6.later hb).2 rfl rfl rfl (by omega) (by omega) ?_
          refine Ops.nil ?_
          exact After.dn (Below.refl _ _) (by exact rfl)
        · intro e1 w1 hb hp hun
          refine Ops.ld_ag (hA6.later hb) rfl (by omega) rfl ?_
          rw [hti, htn _ hm]
          refine Ops.nil ?_
          exact After.dn (Below.refl _ _) (by exact rfl)
        · intro e1 w1 hb hp hun
          refine Ops.bs1A (St.refl _) rfl rfl rfl ?_
          intro A9 w9 hst
          refine Ops.nil ?_
          exact After.dn hst.below ⟨A9, rfl, by rw [hXt] at hst; exact (hSk.later hb).call hst⟩
        · intro e1 w1 hb hp hun
          refine Ops.mv_sl rfl rfl rfl ?_
          refine Ops.nil ?_
          exact After.dn (Below.refl _ _) (by exact rfl)
        · intro e1 w1 hb hp hun
          refine Ops.mv_int rfl rfl rfl ?_
          refine Ops.nil ?_
          exact After.dn (Below.refl _ _) (by exact rfl)
        · intro e1 w1 hb hp hun
          refine Ops.cut_l rfl rfl rfl (by omega) ?_
          refine Ops.nil ?_
          exact After.dn (Below.refl _ _) (by exact rfl)
        · intro e1 w1 hb hp hun
          obtain ⟨A9, h53, hT⟩ := (hp 4 (by decide) rfl _ _ rfl rfl)
          refine Ops.appFR 0 rfl hT rfl ((hT.rdR 1 rfl).drop (l := a) ha (hT.cap 1 rfl).1) (by exact h53) rfl rfl (by omega) (by omega) rfl ?_
          intro A10 c10 w9 hbl hst
          refine Ops.nil ?_
          exact After.dn hbl ⟨A10, c10, rfl, hst⟩
        · intro e1 w1 hb hp hun
          obtain ⟨A9, c9, h57, hT⟩ := (hp 8 (by decide) rfl _ _ rfl rfl)
          refine Ops.mv_sl rfl (by exact h57) rfl ?_
          refine Ops.nil ?_
          exact After.dn (Below.refl _ _) ⟨A9, c9, rfl, hT⟩
        intro uu w7 _ hu
        obtain ⟨A9, c9, h12, hS7⟩ := hu 9 _ rfl
        rw [pin uu h12]
        refine thenQ_n ?_
        refine Cd.seq ?_
        refine Cd.region ?_
        refine Ops.bs0 hS7 rfl ?_
        intro A10 w8 hS8
        have hS8 : St w1 w8 [CkR 32 A10 0 0 [], CkR 32 A9 (1 + (outs.length - a)) c9 ([X.top] ++ (outs.map (·.top)).drop a), CkR 32 B7 outs.length c7 (outs.map (·.top)), CkI 2 B8 outs.length c8 (outs.map (orbI F))] := hS8
        have hcp7 : outs.length ≤ c7 ∧ c7 ≤ maxLen := hS8.cap 2 rfl
        refine Ops.mv_sl rfl rfl rfl ?_
        refine Ops.mv_int rfl rfl rfl ?_
        refine Ops.cut_h rfl rfl rfl (by omega) ?_
        refine Ops.appR 0 hS8 rfl ((hS8.rdR 2 rfl).take (l := a) ha) rfl rfl rfl (by omega) (by omega) rfl ?_
        intro A11 c11 w9 hS9
        refine Ops.mv_sl rfl rfl rfl ?_
        refine Ops.appR 0 hS9 rfl (hS9.rdR 1 rfl) rfl rfl rfl (by omega) (by omega) rfl ?_
        intro A12 c12 w10 hS10
        have hS10 : St w1 w10 [CkR 32 A12 (0 + a + (1 + (outs.length - a))) c12 (([] ++ (outs.map (·.top)).take a) ++ ([X.top] ++ (outs.map (·.top)).drop a)), CkR 32 A9 (1 + (outs.length - a)) c9 ([X.top] ++ (outs.map (·.top)).drop a), CkR 32 B7 outs.length c7 (outs.map (·.top)), CkI 2 B8 outs.length c8 (outs.map (orbI F))] := hS10
        have hS11 : St w1 w10 [CkR 32 A12 (0 + a + (1 + (outs.length - a))) c12 (([] ++ (outs.map (·.top)).take a) ++ ([X.top] ++ (outs.map (·.top)).drop a)), CkI 2 B8 outs.length c8 (outs.map (orbI F))] := hS10.sub (List.Sublist.cons_cons _ ((List.sublist_cons_self _ _).trans (List.sublist_cons_self _ _)))
        have e1 : 0 + a + (1 + (outs.length - a)) = (insV X outs).length := by omega
        have e2 : ([] ++ (outs.map (·.top)).take a) ++ ([X.top] ++ (outs.map (·.top)).drop a) = (insV X outs).map (·.top) := by rw [hat]; simp [insV, List.map_take, List.map_drop]
        have e3 : ([] ++ (outs.map (orbI F)).take a) ++ ([(orbN F X.xss : Int)] ++ (outs.map (orbI F)).drop a) = (insV X outs).map (orbI F) := by rw [hat]; simp [insV, List.map_take, List.map_drop, orbI]
        rw [e1, e2] at hS11
        refine Ops.mv_sl rfl rfl rfl ?_
        refine Ops.nil ?_
        refine thenQ_n ?_
        refine Cd.seq ?_
        refine Cd.region ?_
        refine Ops.mv_int rfl rfl rfl ?_
        refine Ops.bs1I hS11 rfl rfl rfl ?_
        intro A13 w11 hS12
        have hS12 : St w1 w11 [CkI 2 A13 1 1 [(orbN F X.xss : Int)], CkR 32 A12 (insV X outs).length c12 ((insV X outs).map (·.top)), CkI 2 B8 outs.length c8 (outs.map (orbI F))] := hS12
        have hcp8 : outs.length ≤ c8 ∧ c8 ≤ maxLen := hS12.cap 2 rfl
        refine Ops.mv_sl rfl rfl rfl ?_
        refine Ops.mv_int rfl rfl rfl ?_
        refine Ops.cut_l rfl rfl rfl (by omega) ?_
        refine Ops.appI 0 hS12 rfl ((hS12.rdI 2 rfl).drop (l := a) ha hcp8.1) rfl rfl rfl (by omega) (by omega) rfl ?_
        intro A14 c14 w12 hS13
        refine Ops.mv_sl rfl rfl rfl ?_
        refine Ops.nil ?_
        refine thenQ_n ?_
        refine Cd.region ?_
        refine Ops.bs0 hS13 rfl ?_
        intro A15 w13 hS14
        have hS14 : St w1 w13 [CkI 2 A15 0 0 [], CkI 2 A14 (1 + (outs.length - a)) c14 ([(orbN F X.xss : Int)] ++ (outs.map (orbI F)).drop a), CkR 32 A12 (insV X outs).length c12 ((insV X outs).map (·.top)), CkI 2 B8 outs.length c8 (outs.map (orbI F))] := hS14
        refine Ops.mv_sl rfl rfl rfl ?_
        refine Ops.mv_int rfl rfl rfl ?_
        refine Ops.cut_h rfl rfl rfl (by omega) ?_
        refine Ops.appI 0 hS14 rfl ((hS14.rdI 3 rfl).take (l := a) ha) rfl rfl rfl (by omega) (by omega) rfl ?_
        intro A16 c16 w14 hS15
        refine Ops.mv_sl rfl rfl rfl ?_
        refine Ops.appI 0 hS15 rfl (hS15.rdI 1 rfl) rfl rfl rfl (by omega) (by omega) rfl ?_
        intro A17 c17 w15 hS16
        have hS16 : St w1 w15 [CkI 2 A17 (0 + a + (1 + (outs.length - a))) c17 (([] ++ (outs.map (orbI F)).take a) ++ ([(orbN F X.xss : Int)] ++ (outs.map (orbI F)).drop a)), CkI 2 A14 (1 + (outs.length - a)) c14 ([(orbN F X.xss : Int)] ++ (outs.map (orbI F)).drop a), CkR 32 A12 (insV X outs).length c12 ((insV X outs).map (·.top)), CkI 2 B8 outs.length c8 (outs.map (orbI F))] := hS16
        have hS17 : St w1 w15 [CkI 2 A17 (0 + a + (1 + (outs.length - a))) c17 (([] ++ (outs.map (orbI F)).take a) ++ ([(orbN F X.xss : Int)] ++ (outs.map (orbI F)).drop a)), CkR 32 A12 (insV X outs).length c12 ((insV X outs).map (·.top))] := hS16.sub (List.Sublist.cons_cons _ ((List.Sublist.cons_cons _ (List.nil_sublist _)).cons _))
        rw [e1, e3] at hS17
        rw [e1]
        refine Ops.mv_sl rfl rfl rfl ?_
        refine Ops.nil ?_
        refine blockQ_n ?_
        refine thenQ_n ?_
        refine Cd.region ?_
        refine Ops.mv_int rfl rfl rfl ?_
        refine Ops.add rfl rfl rfl (by omega) ?_
        refine Ops.mv_int rfl rfl rfl ?_
        refine Ops.nil ?_
        refine thenQ_n ?_
        exact ⟨(i + 1, (A12, c12), (A17, c17), insV X outs), by show all.length - (i + 1) < all.length - i; omega, ⟨rfl, rfl, rfl, rfl, trivial⟩, hlast hS17.swap⟩
  · have hin : i = all.length := by omega
    subst hin
    rw [List.take_length] at hperm hord
    have hfin : outs.map (·.xss) = listL n F := by
      rw [hord, listL, ownL, formsL, ← hall, selV, List.filter_map]
      rfl
    refine Cd.exit ?_
    refine thenQ_x ?_
    refine thenQ_x ?_
    refine blockQ_x ?_
    refine thenQ_n ?_
    refine Cd.seq ?_
    refine Cd.region ?_
    refine Ops.mv_sl rfl rfl rfl ?_
    refine Ops.mv_sl rfl rfl rfl ?_
    refine Ops.mv_sl rfl rfl rfl ?_
    refine Ops.mv_sl rfl rfl rfl ?_
    refine Ops.nil ?_
    refine thenQ_n ?_
    refine Cd.ret ?_
    refine ret2_ss rfl rfl ?_
    refine ⟨B7, c7, B8, c8, outs, rfl, hfin, fun m hm => hok m (hsubm m hm), ?_⟩
    have hj := hst.call hS4
    refine (hj.sub (?_ : List.Sublist ([CkR 32 B7 outs.length c7 (outs.map (·.top)), CkI 2 B8 outs.length c8 (outs.map (orbI F))] ++ matsCk 34 2 (selV F all)) _)).perm ?_
    · exact List.Sublist.append (List.Sublist.refl _) ((matsCk_sub List.filter_sublist).trans (List.sublist_cons_self _ _))
    · exact List.Perm.append_left _ (matsCk_perm hperm.symm)
end Go.Proofs.YtjpkmpihmilgoaaGreat.Vc
/-
  The walk of cloneManiplex. Conditions: as each states them.
-/
namespace Go.Proofs.YtjpkmpihmilgoaaGreat.Vc
open Go.RowKit

/-- what a copy owns while it grows -/
def clK (Ab Ac Ad A : Option Addr) (n c : Nat) (A1 A3 : Option Addr) (k c1 c3 : Nat) (rs1 : List SlV) (rows : List Ck) : List Ck :=
  Bx 32 1 Ad [.slice A1 k c1] :: Bx 32 1 Ac [.slice none 0 0] :: Bx 32 1 Ab [.slice A n c] :: CkR 34 A3 c3 c1 rs1 :: rows

theorem cloneManiplex_c (A : Option Addr) (n c : Nat) (rs : List SlV) (xss : List (List Int)) (w : World) (hR : RowsI w A n rs xss) (hn : n ≤ 1000000000) (hr : ∀ i, i < n → (rs.getD i slNil).n ≤ 1000000000) :
    Ret Tryz.prog 138 [.agg #[.slice A n c]] w (fun v w' => ∃ A' c' rs', v = .agg #[.slice A' n c'] ∧ rs'.length = n ∧ St w w' (mat 34 2 A' n c' rs' xss)) := by
  refine Ret.of_cd Tryz.func138 rfl Tryz.ntmps138 rfl (postc rfl rfl) ?_
  refine Cd.seq ?_
  refine Cd.region ?_
  refine Ops.box1 (St.refl w) rfl rfl ?_
  intro Ab w1 hS1
  refine Ops.new1 hS1 rfl ?_
  intro Ac w2 hS2
  refine Ops.nil ?_
  refine thenQ_n ?_
  refine Cd.seq ?_
  refine Cd.region ?_
  refine Ops.new1 hS2 rfl ?_
  intro Ad w3 hS3
  have hS3 : St w w3 (Bx 32 1 Ad [.slice none 0 0] :: Bx 32 1 Ac [.slice none 0 0] :: Bx 32 1 Ab [.slice A n c] :: []) := hS3
  refine Ops.nil ?_
  refine thenQ_n ?_
  refine Cd.seq ?_
  refine Cd.seq ?_
  refine Cd.region ?_
  refine Ops.fld (hS3.rd 2 rfl) rfl rfl rfl rfl inferInstance ?_
  refine Ops.ldf_s (hS3.rd 2 rfl) rfl rfl rfl rfl rfl ?_
  refine Ops.len rfl rfl ?_
  refine Ops.mv_int rfl rfl rfl ?_
  refine Ops.nil ?_
  refine thenQ_n ?_
  refine Cd.block ?_
  have hS0 : St w w3 (Bx 32 1 Ad [.slice none 0 0] :: Bx 32 1 Ac [.slice none 0 0] :: Bx 32 1 Ab [.slice A n c] :: CkR 34 none 0 0 [] :: []) :=
    (hS3.nil 34).perm (List.perm_append_comm (l₁ := [_]) (l₂ := [_, _, _]))
  refine Cd.loop (α := Nat × Option Addr × Nat × List SlV) (fun s => [(2, .pointer Ac), (3, .pointer Ad), (7, .slice A n c), (8, .int .i64 (n : Int)), (9, .int .i64 (s.1 : Int))]) (fun s w' => St w w' (Bx 32 1 Ad [.slice s.2.1 s.1 s.2.2.1] :: Bx 32 1 Ac [.slice none 0 0] :: Bx 32 1 Ab [.slice A n c] :: CkR 34 s.2.1 s.1 s.2.2.1 s.2.2.2 :: rowsCk 2 s.2.2.2 (xss.take s.1)) ∧ s.1 ≤ n ∧ s.2.2.2.length = s.1) (fun s => n - s.1) (0, none, 0, []) ⟨rfl, rfl, rfl, rfl, rfl, trivial⟩ ⟨hS0, Nat.zero_le _, rfl⟩ ?_
  rintro ⟨k, A3, c3, rs1⟩ e w4 ⟨hS4, hk, hlen⟩
  dsimp only at hS4 hk hlen ⊢
  refine Cd.seq ?_
  refine Cd.region ?_
  refine Ops.lss rfl rfl rfl ?_
  refine Ops.nil ?_
  refine thenQ_n ?_
  refine Cd.seq ?_
  refine Cd.cond_p _ rfl (fun h1 => ?_) (fun h1 => ?_)
  · have hk' : k < n := by omega
    have hx : k < xss.length := by rw [hR.len]; exact hk'
    have hM := hS4.oldRows hR
    refine Cd.skip ?_
    refine thenQ_n ?_
    refine Cd.seq ?_
    refine Cd.block ?_
    refine Cd.seq ?_
    refine Cd.region ?_
    refine Ops.idx hM.top.2 rfl rfl rfl (by omega) h1 ?_
    refine Ops.ld_sl hM.top rfl (by omega) rfl rfl ?_
    refine Ops.mv_sl rfl rfl rfl ?_
    refine Ops.nil ?_
    refine thenQ_n ?_
    have hB := hS4.rd 0 rfl
    have hrow := hM.at_ (i := (k : Int)) (by omega) h1
    refine Cd.drawN [5, 7] [.ex (.pointer (ptrAt (Ad) 0)), .ex (.slice (A3) (k) (c3)), .ex (.slice ((rg rs k).a) ((rg rs k).n) ((rg rs k).c)), .pr (fun v w' => ∃ A4 c4, v = .slice A4 (rg rs k).n c4 ∧ St w w' (CkI 2 A4 (rg rs k).n c4 (gl xss k) :: Bx 32 1 Ad [.slice A3 k c3] :: Bx 32 1 Ac [.slice none 0 0] :: Bx 32 1 Ab [.slice A n c] :: CkR 34 A3 k c3 rs1 :: rowsCk 2 rs1 (xss.take k))), .pr (fun v w' => ∃ A4 c4 A9, v = .slice A9 1 1 ∧ St w w' (CkR 34 A9 1 1 [⟨A4, (rg rs k).n, c4⟩] :: CkI 2 A4 (rg rs k).n c4 (gl xss k) :: Bx 32 1 Ad [.slice A3 k c3] :: Bx 32 1 Ac [.slice none 0 0] :: Bx 32 1 Ab [.slice A n c] :: CkR 34 A3 k c3 rs1 :: rowsCk 2 rs1 (xss.take k))), .pr (fun v w' => ∃ A4 c4 A10 c10, v = .slice A10 (k + 1) c10 ∧ St w w' (CkI 2 A4 (rg rs k).n c4 (gl xss k) :: Bx 32 1 Ad [.slice A3 k c3] :: Bx 32 1 Ac [.slice none 0 0] :: Bx 32 1 Ab [.slice A n c] :: CkR 34 A10 (k + 1) c10 (rs1 ++ [⟨A4, (rg rs k).n, c4⟩]) :: rowsCk 2 rs1 (xss.take k))), .ex (.pointer (ptrAt (Ad) 0)), .pr (fun _ w' => ∃ A4 c4 A10 c10, St w w' (CkI 2 A4 (rg rs k).n c4 (gl xss k) :: Bx 32 1 Ad [.slice A10 (k + 1) c10] :: Bx 32 1 Ac [.slice none 0 0] :: Bx 32 1 Ab [.slice A n c] :: CkR 34 A10 (k + 1) c10 (rs1 ++ [⟨A4, (rg rs k).n, c4⟩]) :: rowsCk 2 rs1 (xss.take k)))] (by kernel_rfl) (by kernel_rfl) (List.forall_mem_cons.2 ⟨Yd.lasts_ex _, (List.forall_mem_cons.2 ⟨Yd.lasts_ex _, (List.forall_mem_cons.2 ⟨Yd.lasts_ex _, (List.forall_mem_cons.2 ⟨Yd.lasts_pr (fun v w w' h hb => by obtain ⟨A4, c4, hv, hT⟩ := h; exact ⟨A4, c4, hv, hT.later hb⟩), (List.forall_mem_cons.2 ⟨Yd.lasts_pr (fun v w w' h hb => by obtain ⟨A4, c4, A9, hv, hT⟩ := h; exact ⟨A4, c4, A9, hv, hT.later hb⟩), (List.forall_mem_cons.2 ⟨Yd.lasts_pr (fun v w w' h hb => by obtain ⟨A4, c4, A10, c10, hv, hT⟩ := h; exact ⟨A4, c4, A10, c10, hv, hT.later hb⟩), (List.forall_mem_cons.2 ⟨Yd.lasts_ex _, (List.forall_mem_cons.2 ⟨Yd.lasts_pr (fun v w w' h hb => by obtain ⟨A4, c4, A10, c10, hT⟩ := h; exact ⟨A4, c4, A10, c10, hT.later hb⟩), (fun _ h => by cases h)⟩)⟩)⟩)⟩)⟩)⟩)⟩)⟩) ⟨?_, ?_, ?_, ?_, ?_, ?_, ?_, ?_, trivial⟩ ?_
    · intro e1 w1 cc hlo hhi hb0 hp hun hq
      show Ops _ _ _ _ _ _ _
      replace hlo := le_of_lo hlo (b := 0) (by kernel_rfl)
      replace hhi := le_of_hi hhi (b := 0) (by kernel_rfl)
      obtain rfl : cc = 0 := by omega
      have hb := hb0 rfl
      refine Ops.fld (hB.below hb) rfl rfl rfl rfl inferInstance ?_
      refine Ops.nil ?_
      exact AfterN.dn rfl (Below.refl _ _) (by exact rfl)
    · intro e1 w1 cc hlo hhi hb0 hp hun hq
      show Ops _ _ _ _ _ _ _
      replace hlo := le_of_lo hlo (b := 0) (by kernel_rfl)
      replace hhi := le_of_hi hhi (b := 0) (by kernel_rfl)
      obtain rfl : cc = 0 := by omega
      have hb := hb0 rfl
      refine Ops.ldf_s (hB.below hb) rfl rfl rfl rfl rfl ?_
      refine Ops.nil ?_
      exact AfterN.dn rfl (Below.refl _ _) (by exact rfl)
    · intro e1 w1 cc hlo hhi hb0 hp hun hq
      show Ops _ _ _ _ _ _ _
      refine Ops.mv_sl rfl rfl rfl ?_
      refine Ops.nil ?_
      exact AfterN.dn rfl (Below.refl _ _) (by exact rfl)
    · intro e1 w1 cc hlo hhi hb0 hp hun hq
      show Ops _ _ _ _ _ _ _
      replace hlo := le_of_lo hlo (b := 0) (by kernel_rfl)
      replace hhi := le_of_hi hhi (b := 0) (by kernel_rfl)
      obtain rfl : cc = 0 := by omega
      have hb := hb0 rfl
      refine Ops.call (Clone_c _ _ _ _ _ (hrow.later hb) (hr k hk')) rfl rfl rfl ?_
      rintro _ w2 ⟨A4, c4, rfl, hst⟩
      refine Ops.nil ?_
      exact AfterN.dn rfl hst.below ⟨A4, c4, rfl, (hS4.later hb).call hst⟩
    · intro e1 w1 cc hlo hhi hb0 hp hun hq
      show Ops _ _ _ _ _ _ _
      replace hlo := le_of_lo hlo (b := 0) (by kernel_rfl)
      replace hhi := le_of_hi hhi (b := 0) (by kernel_rfl)
      obtain rfl : cc = 0 := by omega
      have hb := hb0 rfl
      obtain ⟨A4, c4, h16, hT⟩ := (hp 3 _ _ (by kernel_rfl) rfl rfl (by kernel_rfl))
      have hb := hb0 rfl
      refine Ops.bs1R (St.refl _) (by exact h16) rfl rfl ?_
      intro A9 w9 hst
      refine Ops.nil ?_
      exact AfterN.dn rfl hst.below ⟨A4, c4, A9, rfl, hT.call hst⟩
    · intro e1 w1 cc hlo hhi hb0 hp hun hq
      show Ops _ _ _ _ _ _ _
      replace hlo := le_of_lo hlo (b := 0) (by kernel_rfl)
      replace hhi := le_of_hi hhi (b := 0) (by kernel_rfl)
      obtain rfl : cc = 0 := by omega
      have hb := hb0 rfl
      obtain ⟨A4, c4, A9, h17, hT⟩ := (hp 4 _ _ (by kernel_rfl) rfl rfl (by kernel_rfl))
      refine Ops.appR 5 hT rfl (hT.rdR 0 rfl) rfl (by exact h17) rfl (by omega) (by omega) rfl ?_
      intro A10 c10 w10 hT10
      refine Ops.nil ?_
      exact AfterT.dn rfl ⟨A4, c4, A10, c10, rfl, hT10.tail⟩
    · intro e1 w1 cc hlo hhi hb0 hp hun hq
      show Ops _ _ _ _ _ _ _
      replace hlo := le_of_lo hlo (b := 1) (by kernel_rfl)
      replace hhi := le_of_hi hhi (b := 1) (by kernel_rfl)
      obtain rfl : cc = 1 := by omega
      have hph := hp 5 _ _ (by kernel_rfl) rfl rfl (by kernel_rfl)
      obtain ⟨A4, c4, A10, c10, h18, hT⟩ := hph
      refine Ops.fld ((hT.rd 1 rfl)) rfl rfl rfl rfl inferInstance ?_
      refine Ops.nil ?_
      exact AfterN.dn rfl (Below.refl _ _) (by exact rfl)
    · intro e1 w1 cc hlo hhi hb0 hp hun hq
      show Ops _ _ _ _ _ _ _
      replace hlo := le_of_lo hlo (b := 1) (by kernel_rfl)
      replace hhi := le_of_hi hhi (b := 1) (by kernel_rfl)
      obtain rfl : cc = 1 := by omega
      have hph := hp 5 _ _ (by kernel_rfl) rfl rfl (by kernel_rfl)
      obtain ⟨A4, c4, A10, c10, h18, hT⟩ := hph
      refine Ops.stf 1 hT rfl rfl (by exact h18) rfl rfl ?_
      intro w11 hT11
      refine Ops.nil ?_
      exact AfterT.st rfl ⟨A4, c4, A10, c10, hT11⟩
    intro u w5 _ hu
    obtain ⟨A4, c4, A10, c10, hT⟩ := hu 7 _ rfl (by kernel_rfl)
    refine blockQ_n ?_
    refine thenQ_n ?_
    refine Cd.region ?_
    refine Ops.add rfl rfl rfl (by omega) ?_
    refine Ops.mv_int rfl rfl rfl ?_
    refine Ops.nil ?_
    refine thenQ_n ?_
    refine ⟨(k + 1, A10, c10, rs1 ++ [⟨A4, (rg rs k).n, c4⟩]), by show n - (k + 1) < n - k; omega, ⟨rfl, rfl, rfl, rfl, rfl, trivial⟩, ?_, hk', by simp [hlen]⟩
    have e2 : gl xss k = xss[k] := by simp [gl, List.getD_eq_getElem?_getD, List.getElem?_eq_getElem hx]
    show St w w5 (_ :: _ :: _ :: CkR _ A10 (k + 1) c10 (rs1 ++ [_]) :: rowsCk _ (rs1 ++ [_]) (xss.take (k + 1)))
    rw [List.take_succ_eq_append_getElem hx, rowsCk_append (by simp [hlen]; omega), ← e2]
    refine hT.perm ?_
    exact List.perm_append_comm (l₁ := [_]) (l₂ := _ :: _ :: _ :: _ :: rowsCk 2 rs1 (xss.take k))
  · refine Cd.exit ?_
    refine thenQ_x ?_
    refine thenQ_x ?_
    refine blockQ_x ?_
    refine thenQ_n ?_
    refine Cd.seq ?_
    refine Cd.region ?_
    have hkn : k = n := by omega
    subst hkn
    rw [← hR.len, List.take_length, hR.len] at hS4
    refine Ops.ld_agg 0 (hS4.rd 0 rfl) rfl rfl rfl ?_
    refine Ops.st_agg 1 1 hS4 rfl rfl rfl rfl rfl rfl rfl ?_
    intro w5 hS5
    refine Ops.nil ?_
    refine thenQ_n ?_
    refine Cd.ret ?_
    skip
    refine retc_r rfl (hS5.rd 1 rfl) ?_
    exact ⟨A3, c3, rs1, rfl, hlen, hS5.sub (((List.sublist_cons_self _ _).trans (List.sublist_cons_self _ _)).trans (List.sublist_cons_self _ _))⟩
end Go.Proofs.YtjpkmpihmilgoaaGreat.Vc
