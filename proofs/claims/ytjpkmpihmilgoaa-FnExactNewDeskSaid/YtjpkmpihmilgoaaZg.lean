/-
  The texts Im5, C9, C11, Cs3, Drs, Cs4, Cs5, Cs6, Src in one. Conditions: as each part states them.
-/
import Derived.Test.YtjpkmpihmilgoaaZf
import Derived.Test.YtjpkmpihmilgoaaZc
import Derived.Test.YtjpkmpihmilgoaaZa
/-
  The program's coset enumeration, walked: the procedure and the table. Conditions: as each states them.
-/
namespace Go.Proofs.Ytjpkmpihmilgoaa.Vc
open Go.RowKit

def runRelI (c : Int) : PS → List (List Int) → Option PS
  | x, [] => some x
  | x, w :: r => if 0 ≤ c ∧ c < (x.ls.length : Int) then (if gi x.ls c = c then (match closeI x c w with | none => none | some y => runRelI c y r) else runRelI c x r) else none
def runGenI (c : Int) (gens : Nat) : Nat → Nat → PS → Option PS
  | 0, _, _ => none
  | k + 1, g, x => if g < gens then
      (if 0 ≤ c ∧ c < (x.ls.length : Int) then
        (if gi x.ls c = c then
          (if c < (x.im.length : Int) ∧ (g : Int) < ((gl x.im c).length : Int) then
            (if gi (gl x.im c) (g : Int) < 0 then
              (match defP x (gl x.im 0).length with
                | none => none
                | some y => if (g : Int) < ((gl x.im 0).length : Int) then runGenI c gens k (g + 1) ⟨linkM y.im c (x.ls.length : Int) (g : Int), y.ls⟩ else none)
            else runGenI c gens k (g + 1) x)
          else none)
        else runGenI c gens k (g + 1) x)
      else none)
    else some x
def runCI (gens : Nat) (rel : List (List Int)) : Nat → Nat → PS → Option PS
  | 0, _, _ => none
  | k + 1, c, x => if c < x.im.length then (match runRelI (c : Int) x rel with | none => none | some y => match runGenI (c : Int) gens 100 0 y with | none => none | some z => runCI gens rel k (c + 1) z) else some x
def runI (gens : Nat) (rel : List (List Int)) : Option PS := runCI gens rel 3000 0 ⟨[List.replicate gens (-1)], [0]⟩

def tabG (y : PS) (c : Int) (gens : Nat) : Nat → Nat → List Int → List (Int × Int) → List (List Int) → Option (List Int × List (Int × Int) × List (List Int))
  | 0, _, _, _, _ => none
  | k + 1, g, ord, L, tab => if g < gens then (match imageP y c (g : Int) with
    | none => none
    | some d => if ord.length < 1000000 ∧ (gl tab (g : Int)).length < 1000000 then
        (match getA L d with
          | some n => tabG y c gens k (g + 1) ord L (tab.set g (gl tab (g : Int) ++ [n]))
          | none => tabG y c gens k (g + 1) (ord ++ [d]) (putA L d (ord.length : Int)) (tab.set g (gl tab (g : Int) ++ [(ord.length : Int)])))
      else none) else some (ord, L, tab)
def tabI (y : PS) (gens : Nat) : Nat → Nat → List Int → List (Int × Int) → List (List Int) → Option (List (List Int))
  | 0, _, _, _, _ => none
  | k + 1, i, ord, L, tab => if i < ord.length then (match tabG y (gi ord (i : Int)) gens 100 0 ord L tab with
    | none => none
    | some (o, l, t) => tabI y gens k (i + 1) o l t) else some tab
def tableI (gens : Nat) (rel : List (List Int)) : Option (List (List Int)) :=
  match runI gens rel with
  | none => none
  | some y => tabI y gens 10000 0 [0] [(0, 0)] (List.replicate gens [])

section
variable {P : Program} {N : Nat} {ops : Array Oper} {K : Env → World → Prop} {rest : List Oper} {e : Env} {w0 w w' : World} {ks : List Ck} {d : Nat} {ty : TypeId} {pos : String} {af : Array Edge}
/-- a struct of three parts, the third left out -/
theorem Ops.bld01 {t : TypeId} {f0 f1 f2 : Field} {z0 z1 z2 y0 y1 y2 : Value} {b b0 b1 b2 : Nat} [Und P t (.struct #[f0, f1, f2])] [Inf P t (.agg #[z0, z1, z2]) 3 b] {x0 x1 : Operand} {v0 v1 : Value} (hI0 : Inf P f0.type y0 1 b0) (hI1 : Inf P f1.type y1 1 b1) (hI2 : Inf P f2.type y2 1 b2) (ho : f0.offset = 0) (ho1 : f1.offset = 1) (ho2 : f2.offset = 2) (h0 : ev e x0 = v0) (h1 : ev e x1 = v1) (c0 : v0.oneCell' = true) (c1 : v1.oneCell' = true) (hb : Nat.blt d N = true)
    (hK : Ops P N ops K rest (upd e d (.agg #[v0, v1, z2])) w) : Ops P N ops K (⟨some d, .build t #[(0, x0), (1, x1)], ty, pos, af, none⟩ :: rest) e w := by
  obtain ⟨inf, hi, hz0, hs, hby⟩ := Inf.get P t
  obtain ⟨inf0, hi0, _, hs0, _⟩ := hI0.get P f0.type
  obtain ⟨inf1, hi1, _, hs1, _⟩ := hI1.get P f1.type
  obtain ⟨inf2, hi2, _, hs2, _⟩ := hI2.get P f2.type
  have e0 : v0.cells = #[v0] := by cases v0 <;> simp [Value.oneCell'] at c0 <;> rfl
  have e1 : v1.cells = #[v1] := by cases v1 <;> simp [Value.oneCell'] at c1 <;> rfl
  have ez : (Value.agg #[z0, z1, z2]).cells = #[z0, z1, z2] := rfl
  refine .val (w' := w) ?_ hb hK
  simp [execOp, Instr.build, run_underlying (Und.out (P := P) (t := t)), sizeOf, typeInfo, zeroValue, hi, hz0, hi0, hs0, hi1, hs1, hi2, hs2, ho, ho1, ho2, h0, e0, h1, e1, ez, Instr.fill]
end

structure TbI where
  k : Nat
  i : Nat
  A : Option Addr
  c : Nat
  ord : List Int
  L : List (Int × Int)
  rs : List SlV
  tab : List (List Int)
structure RuI where
  k : Nat
  c : Nat
  x : LS

set_option maxRecDepth 100000 in
theorem enumerated_c (gens : Nat) (Ar : Option Addr) (nr cr : Nat) (rsr : List SlV) (rel : List (List Int)) (tb : List (List Int)) (w : World) (hR : RowsI w Ar nr rsr rel) (hrel : ∀ x ∈ rel, x.length ≤ 1000000) (hnr : nr ≤ 1000000) (hgens : gens ≤ 100) (hp : tableI gens rel = some tb) :
    Ret Try.prog 55 [.agg #[.int .i64 (gens : Int), .slice Ar nr cr], .slice none 0 0] w (fun v w' => ∃ A c rs, v = .tuple #[.slice A tb.length c, .bool true] ∧ rs.length = tb.length ∧ St w w' (mat 36 2 A tb.length c rs tb)) := by
  have hrl := hR.len
  unfold tableI at hp
  split at hp
  case h_1 => cases hp
  rename_i y hy
  refine Ret.of_cd Try.func55 rfl Try.ntmps55 rfl (post2 rfl) ?_
  refine Cd.seq ?_
  refine Cd.region ?_
  refine Ops.box2 (St.refl w) rfl rfl ?_
  intro A2 w1 hS1
  refine Ops.mv_sl rfl rfl rfl ?_
  refine Ops.mv_bool rfl rfl rfl ?_
  refine Ops.nil ?_
  refine thenQ_n ?_
  refine Cd.seq ?_
  refine Cd.region ?_
  refine Ops.bs1I hS1 rfl rfl rfl ?_
  intro A21 w2 hS2
  skip
  refine Ops.fld (hS2.rd 1 rfl) rfl rfl rfl rfl inferInstance ?_
  refine Ops.ldf_i (hS2.rd 1 rfl) rfl rfl rfl rfl rfl ?_
  skip
  refine Ops.call (Repeat_c A21 1 (-1) gens _ (hS2.rdI 0 rfl) (by omega)) rfl rfl rfl ?_
  rintro _ w3 ⟨A24, rfl, hst⟩
  have hS3 := hS2.call hst
  skip
  refine Ops.bs1R hS3 rfl rfl rfl ?_
  intro A25 w4 hS4
  refine Ops.bs1I hS4 rfl rfl rfl ?_
  intro A26 w5 hS5
  refine Ops.bld01 (by exact inferInstance) (by exact inferInstance) (by exact inferInstance) rfl rfl rfl rfl rfl rfl rfl rfl ?_
  refine Ops.box3 hS5 rfl rfl ?_
  intro T w6 hS6
  have hS6 : St w w6 ((⟨A25, 1, 1, [⟨A24, gens, gens⟩], [List.replicate gens (-1)], A26, 1, 1, [0]⟩ : LS).pt T ++ [CkI 2 A21 1 1 [-1], Bx 42 2 A2 [.int .i64 (gens : Int), .slice Ar nr cr]]) := hS6
  have hS6 : St w w6 ((⟨A25, 1, 1, [⟨A24, gens, gens⟩], [List.replicate gens (-1)], A26, 1, 1, [0]⟩ : LS).pt T ++ [Bx 42 2 A2 [.int .i64 (gens : Int), .slice Ar nr cr]]) := hS6.sub (List.Sublist.append (List.Sublist.refl _) (List.sublist_cons_self _ _))
  refine Ops.mv_ptr rfl rfl rfl ?_
  refine Ops.nil ?_
  refine thenQ_n ?_
  refine Cd.seq ?_
  refine Cd.seq ?_
  refine Cd.region ?_
  refine Ops.mv_sl rfl rfl rfl ?_
  refine Ops.len rfl rfl ?_
  refine Ops.mv_int rfl rfl rfl ?_
  refine Ops.nil ?_
  refine thenQ_n ?_
  refine Cd.block ?_
  refine Cd.loop (α := Unit) (fun _ => [(2, .pointer A2), (6, .pointer T), (30, .int .i64 0), (31, .int .i64 0)]) (fun _ w' => w' = w6) (fun _ => 0) () ⟨rfl, rfl, rfl, rfl, trivial⟩ rfl ?_
  rintro ⟨⟩ e w7 rfl
  refine Cd.seq ?_
  refine Cd.region ?_
  refine Ops.lss rfl rfl rfl ?_
  refine Ops.nil ?_
  refine thenQ_n ?_
  refine Cd.seq ?_
  refine Cd.cond_pf rfl (by omega) ?_
  refine Cd.exit ?_
  refine thenQ_x ?_
  refine thenQ_x ?_
  refine blockQ_x ?_
  refine thenQ_n ?_
  refine Cd.seq ?_
  refine Cd.seq ?_
  refine Cd.region ?_
  refine Ops.mv_int rfl rfl rfl ?_
  refine Ops.nil ?_
  refine thenQ_n ?_
  refine Cd.block ?_
  refine Cd.loop (α := RuI) (fun s => [(2, .pointer A2), (6, .pointer T), (9, .int .i64 (s.c : Int))]) (fun s w' => s.x.ok ∧ runCI gens rel s.k s.c s.x.p = some y ∧ s.c + s.k ≤ 3000 ∧ St w w' (s.x.pt T ++ [Bx 42 2 A2 [.int .i64 (gens : Int), .slice Ar nr cr]])) (fun s => s.k) ⟨3000, 0, ⟨A25, 1, 1, [⟨A24, gens, gens⟩], [List.replicate gens (-1)], A26, 1, 1, [0]⟩⟩ ⟨rfl, rfl, rfl, trivial⟩ ⟨⟨rfl, rfl, rfl⟩, hy, Nat.le_refl _, hS6⟩ ?_
  rintro ⟨k, c, x⟩ e w8 ⟨hok, hrun, hck, hS8⟩
  dsimp only at hok hrun hck hS8 ⊢
  obtain ⟨k, rfl⟩ : ∃ q, k = q + 1 := by cases k with | zero => cases hrun | succ q => exact ⟨q, rfl⟩
  rw [runCI] at hrun
  have hxi : x.im.length = x.n := hok.2.1
  refine Cd.seq ?_
  refine Cd.seq ?_
  refine Cd.region ?_
  refine Ops.mv_int rfl rfl rfl ?_
  refine Ops.mv_ptr rfl rfl rfl ?_
  refine Ops.nilp (hS8.rd 0 rfl) (Nat.succ_pos _) rfl rfl ?_
  refine Ops.fld (hS8.rd 0 rfl) rfl rfl rfl rfl inferInstance ?_
  refine Ops.ldf_s (hS8.rd 0 rfl) rfl rfl rfl rfl rfl ?_
  skip
  refine Ops.call (sizeR_c x.A x.n x.c w8) rfl rfl rfl ?_
  rintro _ w9 ⟨rfl, rfl⟩
  refine Ops.lss rfl rfl rfl ?_
  refine Ops.mv_bool rfl rfl rfl ?_
  refine Ops.split_p 46 rfl (fun h1 => ?_) (fun h1 => ?_)
  · rw [if_pos (by show c < x.im.length; omega)] at hrun
    split at hrun
    case h_1 => cases hrun
    rename_i y1 hrel1
    split at hrun
    case h_1 => cases hrun
    rename_i y2 hgen1
    refine Ops.rung rfl rfl rfl ?_
    refine Ops.mv_ptr rfl rfl rfl ?_
    refine Ops.rung rfl rfl rfl ?_
    refine Ops.nilp (hS8.rd 0 rfl) (Nat.succ_pos _) rfl rfl ?_
    refine Ops.rung rfl rfl rfl ?_
    refine Ops.fld (hS8.rd 0 rfl) rfl rfl rfl rfl inferInstance ?_
    refine Ops.rung rfl rfl rfl ?_
    refine Ops.ldf_b (hS8.rd 0 rfl) rfl rfl rfl rfl rfl ?_
    refine Ops.rung rfl rfl rfl ?_
    first | refine Ops.not_p rfl rfl ?_ | refine Ops.not rfl rfl ?_
    refine Ops.pick_t rfl rfl rfl ?_
    refine Ops.nil ?_
    refine thenQ_n ?_
    refine Cd.cond_t rfl ?_
    refine Cd.skip ?_
    refine thenQ_n ?_
    refine Cd.seq ?_
    refine Cd.block ?_
    refine Cd.seq ?_
    refine Cd.seq ?_
    refine Cd.region ?_
    have hP8 : Rd _ A2 2 (fun j => ([.int .i64 (gens : Int), .slice Ar nr cr] : List Value).getD j undef) := (hS8.sub (List.sublist_append_right _ _)).rd 0 rfl
    refine Ops.fld hP8 rfl rfl rfl rfl inferInstance ?_
    refine Ops.ldf_s hP8 rfl rfl rfl rfl rfl ?_
    refine Ops.len rfl rfl ?_
    refine Ops.mv_int rfl rfl rfl ?_
    refine Ops.nil ?_
    refine thenQ_n ?_
    refine Cd.block ?_
    refine Cd.loop (α := Nat × LS) (fun s => [(2, .pointer A2), (6, .pointer T), (9, .int .i64 (c : Int)), (56, .slice Ar nr cr), (57, .int .i64 (nr : Int)), (58, .int .i64 (s.1 : Int))]) (fun s w' => s.2.ok ∧ s.1 ≤ nr ∧ runRelI (c : Int) s.2.p (rel.drop s.1) = some y1 ∧ St w w' (s.2.pt T ++ [Bx 42 2 A2 [.int .i64 (gens : Int), .slice Ar nr cr]])) (fun s => nr - s.1) (0, x) ⟨rfl, rfl, rfl, rfl, rfl, rfl, trivial⟩ ⟨hok, Nat.zero_le _, hrel1, hS8⟩ ?_
    rintro ⟨i, x⟩ e w10 ⟨hok, hi, hrel1, hS10⟩
    dsimp only at hok hi hrel1 hS10 ⊢
    have hP10 : Rd w10 A2 2 (fun j => ([.int .i64 (gens : Int), .slice Ar nr cr] : List Value).getD j undef) := (hS10.sub (List.sublist_append_right _ _)).rd 0 rfl
    have hR10 := hS10.oldRows hR
    have hL10 := LS.ptRd hS10
    have hxm : x.ls.length = x.m := hok.2.2
    refine Cd.seq ?_
    refine Cd.region ?_
    refine Ops.lss rfl rfl rfl ?_
    refine Ops.nil ?_
    refine thenQ_n ?_
    refine Cd.seq ?_
    refine Cd.cond_p _ rfl (fun h2 => ?_) (fun h2 => ?_)
    · have hrow := hR10.at_ (i := (i : Int)) (by omega) h2
      have hrc := hR10.cap_ (i := (i : Int)) (by omega) h2
      have hlen := hrel (gl rel (i : Int)) (gl_in (by omega) (by omega))
      rw [List.drop_eq_getElem_cons (by omega), ← gl_mem (by omega)] at hrel1
      simp only [runRelI] at hrel1
      split at hrel1
      case isFalse => cases hrel1
      rename_i hcl
      have hcl : 0 ≤ (c : Int) ∧ (c : Int) < (x.ls.length : Int) := hcl
      have hrw := hrow.1
      refine Cd.skip ?_
      refine thenQ_n ?_
      refine Cd.seq ?_
      refine Cd.block ?_
      refine Cd.seq ?_
      refine Cd.region ?_
      refine Ops.idx hR10.top.2 rfl rfl rfl (by omega) h2 ?_
      refine Ops.ld_sl hR10.top rfl (by omega) rfl rfl ?_
      refine Ops.mv_sl rfl rfl rfl ?_
      refine Ops.nil ?_
      refine thenQ_n ?_
      refine Cd.seq ?_
      refine Cd.region ?_
      refine Ops.mv_ptr rfl rfl rfl ?_
      refine Ops.nilp (hS10.rd 0 rfl) (Nat.succ_pos _) rfl rfl ?_
      refine Ops.fld (hS10.rd 0 rfl) rfl rfl rfl rfl inferInstance ?_
      refine Ops.ldf_s (hS10.rd 0 rfl) rfl rfl rfl rfl rfl ?_
      refine Ops.mv_int rfl rfl rfl ?_
      refine Ops.idx hL10.2 rfl rfl rfl (by omega) (by omega) ?_
      refine Ops.ld_int hL10 rfl (by omega) rfl rfl ?_
      refine Ops.mv_int rfl rfl rfl ?_
      refine Ops.eql rfl rfl rfl ?_
      refine Ops.mv_bool rfl rfl rfl ?_
      refine Ops.split_p 71 rfl (fun h3 => ?_) (fun h3 => ?_)
      · rw [if_pos (show gi x.p.ls (c : Int) = (c : Int) from h3)] at hrel1
        split at hrel1
        case h_1 => cases hrel1
        rename_i z hz
        refine Ops.rung rfl rfl rfl ?_
        refine Ops.mv_ptr rfl rfl rfl ?_
        refine Ops.rung rfl rfl rfl ?_
        refine Ops.nilp (hS10.rd 0 rfl) (Nat.succ_pos _) rfl rfl ?_
        refine Ops.rung rfl rfl rfl ?_
        refine Ops.fld (hS10.rd 0 rfl) rfl rfl rfl rfl inferInstance ?_
        refine Ops.rung rfl rfl rfl ?_
        refine Ops.ldf_b (hS10.rd 0 rfl) rfl rfl rfl rfl rfl ?_
        refine Ops.rung rfl rfl rfl ?_
        first | refine Ops.not_p rfl rfl ?_ | refine Ops.not rfl rfl ?_
        refine Ops.pick_t rfl rfl rfl ?_
        refine Ops.nil ?_
        refine thenQ_n ?_
        refine Cd.cond_t rfl ?_
        refine Cd.region ?_
        refine Ops.mv_ptr rfl rfl rfl ?_
        refine Ops.mv_sl rfl rfl rfl ?_
        refine Ops.mv_int rfl rfl rfl ?_
        refine Ops.call (closeAt_c x (c : Int) _ _ (rg rsr (i : Int)).c (gl rel (i : Int)) z hok hS10 (fun w' h => (h.oldRows hR).at_ (by omega) h2) (by omega) hrc.1 hz) rfl rfl rfl ?_
        rintro _ w11 ⟨x', hok', hp', hS11⟩
        subst hp'
        refine Ops.nil ?_
        refine blockQ_n ?_
        refine thenQ_n ?_
        refine Cd.region ?_
        refine Ops.add rfl rfl rfl (by omega) ?_
        refine Ops.mv_int rfl rfl rfl ?_
        refine Ops.nil ?_
        refine thenQ_n ?_
        exact ⟨(i + 1, x'), by show nr - (i + 1) < nr - i; omega, ⟨rfl, rfl, rfl, rfl, rfl, rfl, trivial⟩, hok', by show i + 1 ≤ nr; omega, hrel1, hS11⟩
      · rw [if_neg (show ¬ gi x.p.ls (c : Int) = (c : Int) from h3)] at hrel1
        refine Ops.skipg rfl rfl rfl rfl rfl ?_
        refine Ops.skipg rfl rfl rfl rfl rfl ?_
        refine Ops.skipg rfl rfl rfl rfl rfl ?_
        refine Ops.skipg rfl rfl rfl rfl rfl ?_
        refine Ops.skipg rfl rfl rfl rfl rfl ?_
        refine Ops.pick_f rfl rfl rfl ?_
        refine Ops.nil ?_
        refine thenQ_n ?_
        refine Cd.cond_f rfl ?_
        refine Cd.skip ?_
        refine blockQ_n ?_
        refine thenQ_n ?_
        refine Cd.region ?_
        refine Ops.add rfl rfl rfl (by omega) ?_
        refine Ops.mv_int rfl rfl rfl ?_
        refine Ops.nil ?_
        refine thenQ_n ?_
        exact ⟨(i + 1, x), by show nr - (i + 1) < nr - i; omega, ⟨rfl, rfl, rfl, rfl, rfl, rfl, trivial⟩, hok, by show i + 1 ≤ nr; omega, hrel1, hS10⟩
    · rw [List.drop_eq_nil_of_le (by omega)] at hrel1
      obtain rfl := Option.some.inj hrel1
      refine Cd.exit ?_
      refine thenQ_x ?_
      refine thenQ_x ?_
      refine blockQ_x ?_
      refine thenQ_n ?_
      refine Cd.seq ?_
      refine Cd.region ?_
      refine Ops.fld hP10 rfl rfl rfl rfl inferInstance ?_
      refine Ops.ldf_i hP10 rfl rfl rfl rfl rfl ?_
      refine Ops.mv_int rfl rfl rfl ?_
      refine Ops.nil ?_
      refine thenQ_n ?_
      refine Cd.block ?_
      refine Cd.loop (α := RuI) (fun s => [(2, .pointer A2), (6, .pointer T), (9, .int .i64 (c : Int)), (84, .int .i64 (gens : Int)), (85, .int .i64 (s.c : Int))]) (fun s w' => s.x.ok ∧ runGenI (c : Int) gens s.k s.c s.x.p = some y2 ∧ s.c + s.k = 100 ∧ St w w' (s.x.pt T ++ [Bx 42 2 A2 [.int .i64 (gens : Int), .slice Ar nr cr]])) (fun s => s.k) ⟨100, 0, x⟩ ⟨rfl, rfl, rfl, rfl, rfl, trivial⟩ ⟨hok, hgen1, rfl, hS10⟩ ?_
      rintro ⟨j, g, x⟩ e w11 ⟨hok, hgen1, hjg, hS11⟩
      dsimp only at hok hgen1 hjg hS11 ⊢
      obtain ⟨j, rfl⟩ : ∃ q, j = q + 1 := by cases j with | zero => cases hgen1 | succ q => exact ⟨q, rfl⟩
      rw [runGenI] at hgen1
      have hL11 := LS.ptRd hS11
      have hI11 := LS.ptRows hok hS11
      have hxm : x.ls.length = x.m := hok.2.2
      have hxn : x.im.length = x.n := hok.2.1
      refine Cd.seq ?_
      refine Cd.region ?_
      refine Ops.lss rfl rfl rfl ?_
      refine Ops.nil ?_
      refine thenQ_n ?_
      refine Cd.seq ?_
      refine Cd.cond_p _ rfl (fun h4 => ?_) (fun h4 => ?_)
      · rw [if_pos (by omega)] at hgen1
        split at hgen1
        case isFalse => cases hgen1
        rename_i hcl
        have hcl : 0 ≤ (c : Int) ∧ (c : Int) < (x.ls.length : Int) := hcl
        refine Cd.skip ?_
        refine thenQ_n ?_
        refine Cd.seq ?_
        refine Cd.block ?_
        refine Cd.seq ?_
        refine Cd.region ?_
        refine Ops.mv_int rfl rfl rfl ?_
        refine Ops.mv_int rfl rfl rfl ?_
        refine Ops.nil ?_
        refine thenQ_n ?_
        refine Cd.seq ?_
        refine Cd.region ?_
        refine Ops.mv_ptr rfl rfl rfl ?_
        refine Ops.nilp (hS11.rd 0 rfl) (Nat.succ_pos _) rfl rfl ?_
        refine Ops.fld (hS11.rd 0 rfl) rfl rfl rfl rfl inferInstance ?_
        refine Ops.ldf_s (hS11.rd 0 rfl) rfl rfl rfl rfl rfl ?_
        refine Ops.mv_int rfl rfl rfl ?_
        refine Ops.idx hL11.2 rfl rfl rfl (by omega) (by omega) ?_
        refine Ops.ld_int hL11 rfl (by omega) rfl rfl ?_
        refine Ops.mv_int rfl rfl rfl ?_
        refine Ops.eql rfl rfl rfl ?_
        refine Ops.mv_bool rfl rfl rfl ?_
        refine Ops.split_p 97 rfl (fun h5 => ?_) (fun h5 => ?_)
        · rw [if_pos (show gi x.p.ls (c : Int) = (c : Int) from h5)] at hgen1
          split at hgen1
          case isFalse => cases hgen1
          rename_i hcg
          have hcg : (c : Int) < (x.im.length : Int) ∧ (g : Int) < ((gl x.im (c : Int)).length : Int) := hcg
          have hrow := hI11.at_ (i := (c : Int)) (by omega) (by omega)
          have hrw := hrow.1
          refine Ops.rung rfl rfl rfl ?_
          refine Ops.mv_ptr rfl rfl rfl ?_
          refine Ops.rung rfl rfl rfl ?_
          refine Ops.nilp (hS11.rd 0 rfl) (Nat.succ_pos _) rfl rfl ?_
          refine Ops.rung rfl rfl rfl ?_
          refine Ops.fld (hS11.rd 0 rfl) rfl rfl rfl rfl inferInstance ?_
          refine Ops.rung rfl rfl rfl ?_
          refine Ops.ldf_b (hS11.rd 0 rfl) rfl rfl rfl rfl rfl ?_
          refine Ops.rung rfl rfl rfl ?_
          first | refine Ops.not_p rfl rfl ?_ | refine Ops.not rfl rfl ?_
          refine Ops.pick_t rfl rfl rfl ?_
          refine Ops.mv_bool rfl rfl rfl ?_
          refine Ops.split 104 (b := true) rfl (fun _ => ?_) (fun h => absurd h (by decide)) --t
          refine Ops.rung rfl rfl rfl ?_
          refine Ops.mv_ptr rfl rfl rfl ?_
          refine Ops.rung rfl rfl rfl ?_
          refine Ops.nilp (hS11.rd 0 rfl) (Nat.succ_pos _) rfl rfl ?_
          refine Ops.rung rfl rfl rfl ?_
          refine Ops.fld (hS11.rd 0 rfl) rfl rfl rfl rfl inferInstance ?_
          refine Ops.rung rfl rfl rfl ?_
          refine Ops.ldf_s (hS11.rd 0 rfl) rfl rfl rfl rfl rfl ?_
          refine Ops.rung rfl rfl rfl ?_
          refine Ops.mv_int rfl rfl rfl ?_
          refine Ops.rung rfl rfl rfl ?_
          refine Ops.idx hI11.top.2 rfl rfl rfl (by omega) (by omega) ?_
          refine Ops.rung rfl rfl rfl ?_
          refine Ops.ld_sl hI11.top rfl (by omega) rfl rfl ?_
          refine Ops.rung rfl rfl rfl ?_
          refine Ops.mv_int rfl rfl rfl ?_
          refine Ops.rung rfl rfl rfl ?_
          refine Ops.idx hrow.2 rfl rfl rfl (by omega) (by omega) ?_
          refine Ops.rung rfl rfl rfl ?_
          refine Ops.ld_int hrow rfl (by omega) rfl rfl ?_
          refine Ops.rung rfl rfl rfl ?_
          refine Ops.lss rfl rfl rfl ?_
          refine Ops.pick_t rfl rfl rfl ?_
          refine Ops.nil ?_
          refine thenQ_n ?_
          refine Cd.cond_p _ rfl (fun h6 => ?_) (fun h6 => ?_)
          · rw [if_pos (show gi (gl x.p.im (c : Int)) (g : Int) < 0 from h6)] at hgen1
            split at hgen1
            case h_1 => cases hgen1
            rename_i y3 hy3
            split at hgen1
            case isFalse => cases hgen1
            rename_i hg0
            refine Cd.region ?_
            refine Ops.mv_ptr rfl rfl rfl ?_
            refine Ops.mv_int rfl rfl rfl ?_
            refine Ops.mv_int rfl rfl rfl ?_
            refine Ops.call (define_c x (c : Int) (g : Int) y3 hok hS11 hy3 (by omega) ⟨by omega, hcg.1⟩ ⟨by omega, hcg.2, hg0⟩) rfl rfl rfl ?_
            rintro _ w12 ⟨x', hok', hp', rfl, hS12⟩
            refine Ops.nil ?_
            refine blockQ_n ?_
            refine thenQ_n ?_
            refine Cd.region ?_
            refine Ops.add rfl rfl rfl (by omega) ?_
            refine Ops.mv_int rfl rfl rfl ?_
            refine Ops.nil ?_
            refine thenQ_n ?_
            exact ⟨⟨j, g + 1, x'⟩, Nat.lt_succ_self j, ⟨rfl, rfl, rfl, rfl, rfl, trivial⟩, hok', by rw [hp']; exact hgen1, by show g + 1 + j = 100; omega, hS12⟩
          · rw [if_neg (show ¬ gi (gl x.p.im (c : Int)) (g : Int) < 0 from h6)] at hgen1
            refine Cd.skip ?_
            refine blockQ_n ?_
            refine thenQ_n ?_
            refine Cd.region ?_
            refine Ops.add rfl rfl rfl (by omega) ?_
            refine Ops.mv_int rfl rfl rfl ?_
            refine Ops.nil ?_
            refine thenQ_n ?_
            exact ⟨⟨j, g + 1, x⟩, Nat.lt_succ_self j, ⟨rfl, rfl, rfl, rfl, rfl, trivial⟩, hok, hgen1, by show g + 1 + j = 100; omega, hS11⟩
        · rw [if_neg (show ¬ gi x.p.ls (c : Int) = (c : Int) from h5)] at hgen1
          refine Ops.skipg rfl rfl rfl rfl rfl ?_
          refine Ops.skipg rfl rfl rfl rfl rfl ?_
          refine Ops.skipg rfl rfl rfl rfl rfl ?_
          refine Ops.skipg rfl rfl rfl rfl rfl ?_
          refine Ops.skipg rfl rfl rfl rfl rfl ?_
          refine Ops.pick_f rfl rfl rfl ?_
          refine Ops.mv_bool rfl rfl rfl ?_
          refine Ops.skipg rfl rfl rfl rfl rfl ?_
          refine Ops.skipg rfl rfl rfl rfl rfl ?_
          refine Ops.skipg rfl rfl rfl rfl rfl ?_
          refine Ops.skipg rfl rfl rfl rfl rfl ?_
          refine Ops.skipg rfl rfl rfl rfl rfl ?_
          refine Ops.skipg rfl rfl rfl rfl rfl ?_
          refine Ops.skipg rfl rfl rfl rfl rfl ?_
          refine Ops.skipg rfl rfl rfl rfl rfl ?_
          refine Ops.skipg rfl rfl rfl rfl rfl ?_
          refine Ops.skipg rfl rfl rfl rfl rfl ?_
          refine Ops.skipg rfl rfl rfl rfl rfl ?_
          refine Ops.pick_f rfl rfl rfl ?_
          refine Ops.nil ?_
          refine thenQ_n ?_
          refine Cd.cond_f rfl ?_
          refine Cd.skip ?_
          refine blockQ_n ?_
          refine thenQ_n ?_
          refine Cd.region ?_
          refine Ops.add rfl rfl rfl (by omega) ?_
          refine Ops.mv_int rfl rfl rfl ?_
          refine Ops.nil ?_
          refine thenQ_n ?_
          exact ⟨⟨j, g + 1, x⟩, Nat.lt_succ_self j, ⟨rfl, rfl, rfl, rfl, rfl, trivial⟩, hok, hgen1, by show g + 1 + j = 100; omega, hS11⟩
      · rw [if_neg (by omega)] at hgen1
        obtain rfl := Option.some.inj hgen1
        refine Cd.exit ?_
        refine thenQ_x ?_
        refine thenQ_x ?_
        refine blockQ_x ?_
        refine blockQ_n ?_
        refine thenQ_n ?_
        refine Cd.region ?_
        refine Ops.mv_int rfl rfl rfl ?_
        refine Ops.add rfl rfl rfl (by omega) ?_
        refine Ops.mv_int rfl rfl rfl ?_
        refine Ops.nil ?_
        refine thenQ_n ?_
        exact ⟨⟨k, c + 1, x⟩, Nat.lt_succ_self k, ⟨rfl, rfl, rfl, trivial⟩, hok, hrun, by show c + 1 + k ≤ 3000; omega, hS11⟩
  · rw [if_neg (by show ¬ c < x.im.length; omega)] at hrun
    refine Ops.skipg rfl rfl rfl rfl rfl ?_
    refine Ops.skipg rfl rfl rfl rfl rfl ?_
    refine Ops.skipg rfl rfl rfl rfl rfl ?_
    refine Ops.skipg rfl rfl rfl rfl rfl ?_
    refine Ops.skipg rfl rfl rfl rfl rfl ?_
    refine Ops.pick_f rfl rfl rfl ?_
    refine Ops.nil ?_
    refine thenQ_n ?_
    refine Cd.cond_f rfl ?_
    obtain rfl := Option.some.inj hrun
    refine Cd.exit ?_
    refine thenQ_x ?_
    refine thenQ_x ?_
    refine blockQ_x ?_
    refine thenQ_n ?_
    refine Cd.seq ?_
    refine Cd.seq ?_
    refine Cd.region ?_
    refine Ops.mv_ptr rfl rfl rfl ?_
    refine Ops.nilp (hS8.rd 0 rfl) (Nat.succ_pos _) rfl rfl ?_
    refine Ops.fld (hS8.rd 0 rfl) rfl rfl rfl rfl inferInstance ?_
    refine Ops.ldf_b (hS8.rd 0 rfl) rfl rfl rfl rfl rfl ?_
    refine Ops.nil ?_
    refine thenQ_n ?_
    refine Cd.cond_f rfl ?_
    refine Cd.skip ?_
    refine thenQ_n ?_
    refine Cd.seq ?_
    refine Cd.region ?_
    refine Ops.bs1I hS8 rfl rfl rfl ?_
    intro A13 w10 hS10
    refine Ops.mv_sl rfl rfl rfl ?_
    refine Ops.nil ?_
    refine thenQ_n ?_
    refine Cd.seq ?_
    refine Cd.region ?_
    refine Ops.mkmap hS10 rfl ?_
    intro gM w11 hS11
    refine Ops.upm rfl keyI 0 (L := ([] : List (Int × Int))) (a := 0) (u := (0 : Int)) (vv := Value.int .i64) hS11 rfl rfl rfl rfl ?_
    intro w12 hS12
    have hS12 : St w w12 ([CkI 2 A13 1 1 [0], CkM 90 gM (prV (Value.int .i64) (Value.int .i64) [((0 : Int), (0 : Int))])] ++ (x.pt T ++ [Bx 42 2 A2 [.int .i64 (gens : Int), .slice Ar nr cr]])) := hS12.perm (List.Perm.swap _ _ _)
    have hP12 : Rd w12 A2 2 (fun j => ([.int .i64 (gens : Int), .slice Ar nr cr] : List Value).getD j undef) := ((hS12.sub (List.sublist_append_right _ _)).sub (List.sublist_append_right _ _)).rd 0 rfl
    refine Ops.mv_map rfl rfl rfl ?_
    refine Ops.mv_map rfl rfl rfl ?_
    refine Ops.nil ?_
    refine thenQ_n ?_
    refine Cd.seq ?_
    refine Cd.region ?_
    refine Ops.fld hP12 rfl rfl rfl rfl inferInstance ?_
    refine Ops.ldf_i hP12 rfl rfl rfl rfl rfl ?_
    skip
    refine Ops.mkR gens hS12 rfl rfl (by omega) ?_
    intro A15 w13 hS13
    have hS13 : St w w13 (mat 36 2 A15 gens gens (List.replicate gens slNil) (List.replicate gens []) ++ ([CkI 2 A13 ([0]).length 1 ([0]), CkM 90 gM (prV (Value.int .i64) (Value.int .i64) ([((0 : Int), (0 : Int))]))] ++ (x.pt T ++ [Bx 42 2 A2 [.int .i64 (gens : Int), .slice Ar nr cr]]))) := by
      have h := (nilRows (t := 2) gens hS13)
      refine h.perm ?_
      show List.Perm (_ :: (_ ++ _)) (_ :: (_ ++ _))
      exact List.Perm.cons _ List.perm_append_comm
    refine Ops.mv_sl rfl rfl rfl ?_
    refine Ops.nil ?_
    refine thenQ_n ?_
    refine Cd.seq ?_
    refine Cd.seq ?_
    refine Cd.region ?_
    refine Ops.mv_int rfl rfl rfl ?_
    refine Ops.nil ?_
    refine thenQ_n ?_
    refine Cd.block ?_
    refine Cd.loop (α := TbI) (fun s => [(2, .pointer A2), (6, .pointer T), (13, .slice s.A s.ord.length s.c), (14, .map (some gM)), (15, .slice A15 gens gens), (16, .int .i64 (s.i : Int))]) (fun s w' => St w w' (mat 36 2 A15 gens gens s.rs s.tab ++ ([CkI 2 s.A (s.ord).length s.c (s.ord), CkM 90 gM (prV (Value.int .i64) (Value.int .i64) (s.L))] ++ (x.pt T ++ [Bx 42 2 A2 [.int .i64 (gens : Int), .slice Ar nr cr]]))) ∧ s.rs.length = gens ∧ s.tab.length = gens ∧ s.i + s.k = 10000 ∧ tabI x.p gens s.k s.i s.ord s.L s.tab = some tb) (fun s => s.k) ⟨10000, 0, A13, 1, [0], [(0, 0)], List.replicate gens slNil, List.replicate gens []⟩ ⟨rfl, rfl, rfl, rfl, rfl, rfl, trivial⟩ ⟨hS13, by simp, by simp, rfl, hp⟩ ?_
    rintro ⟨k, i, A13, c13, ord, L, rs, tab⟩ e w14 ⟨hS14, hrsl, htl, hik, htb⟩
    dsimp only at hS14 hrsl htl hik htb ⊢
    obtain ⟨k, rfl⟩ : ∃ q, k = q + 1 := by cases k with | zero => cases htb | succ q => exact ⟨q, rfl⟩
    rw [tabI] at htb
    refine Cd.seq ?_
    refine Cd.seq ?_
    refine Cd.region ?_
    refine Ops.mv_int rfl rfl rfl ?_
    refine Ops.mv_sl rfl rfl rfl ?_
    refine Ops.len rfl rfl ?_
    refine Ops.lss rfl rfl rfl ?_
    refine Ops.nil ?_
    refine thenQ_n ?_
    refine Cd.cond_p _ rfl (fun h2 => ?_) (fun h2 => ?_)
    · rw [if_pos (by omega)] at htb
      split at htb
      case h_1 => cases htb
      rename_i o1 l1 t1 hrow1
      have hP14 : Rd w14 A2 2 (fun j => ([.int .i64 (gens : Int), .slice Ar nr cr] : List Value).getD j undef) := (((hS14.sub (List.sublist_append_right _ _)).sub (List.sublist_append_right _ _)).sub (List.sublist_append_right _ _)).rd 0 rfl
      refine Cd.skip ?_
      refine thenQ_n ?_
      refine Cd.seq ?_
      refine Cd.block ?_
      refine Cd.seq ?_
      refine Cd.region ?_
      refine Ops.fld hP14 rfl rfl rfl rfl inferInstance ?_
      refine Ops.ldf_i hP14 rfl rfl rfl rfl rfl ?_
      refine Ops.mv_int rfl rfl rfl ?_
      refine Ops.nil ?_
      refine thenQ_n ?_
      refine Cd.block ?_
      have hic : (gi ord (i : Int)) = gi ord (i : Int) := rfl
      generalize hcc : gi ord (i : Int) = cc at hrow1
      refine Cd.loop (α := TbI) (fun s => [(2, .pointer A2), (6, .pointer T), (13, .slice s.A s.ord.length s.c), (14, .map (some gM)), (15, .slice A15 gens gens), (16, .int .i64 (i : Int)), (139, .int .i64 (gens : Int)), (140, .int .i64 (s.i : Int))]) (fun s w' => St w w' (mat 36 2 A15 gens gens s.rs s.tab ++ ([CkI 2 s.A (s.ord).length s.c (s.ord), CkM 90 gM (prV (Value.int .i64) (Value.int .i64) (s.L))] ++ (x.pt T ++ [Bx 42 2 A2 [.int .i64 (gens : Int), .slice Ar nr cr]]))) ∧ s.rs.length = gens ∧ s.tab.length = gens ∧ i < s.ord.length ∧ gi s.ord (i : Int) = cc ∧ tabG x.p cc gens s.k s.i s.ord s.L s.tab = some (o1, l1, t1)) (fun s => s.k) ⟨100, 0, A13, c13, ord, L, rs, tab⟩ ⟨rfl, rfl, rfl, rfl, rfl, rfl, rfl, rfl, trivial⟩ ⟨hS14, hrsl, htl, by show i < ord.length; omega, hcc, hrow1⟩ ?_
      rintro ⟨j, g, A13, c13, ord, L, rs, tab⟩ e w15 ⟨hS15, hrsl, htl, h2, hcc, hrow1⟩
      dsimp only at hS15 hrsl htl h2 hcc hrow1 ⊢
      obtain ⟨j, rfl⟩ : ∃ q, j = q + 1 := by cases j with | zero => cases hrow1 | succ q => exact ⟨q, rfl⟩
      rw [tabG] at hrow1
      have hB15 := hS15.toBack
      have hO15 := hB15.rdI 0 rfl
      refine Cd.seq ?_
      refine Cd.region ?_
      refine Ops.lss rfl rfl rfl ?_
      refine Ops.nil ?_
      refine thenQ_n ?_
      refine Cd.seq ?_
      refine Cd.cond_p _ rfl (fun h4 => ?_) (fun h4 => ?_)
      · rw [if_pos (by omega)] at hrow1
        split at hrow1
        case h_1 => cases hrow1
        rename_i d hd
        split at hrow1
        case isFalse => cases hrow1
        rename_i hbd
        refine Cd.skip ?_
        refine thenQ_n ?_
        refine Cd.seq ?_
        refine Cd.block ?_
        refine Cd.seq ?_
        refine Cd.region ?_
        refine Ops.mv_int rfl rfl rfl ?_
        refine Ops.mv_int rfl rfl rfl ?_
        refine Ops.nil ?_
        refine thenQ_n ?_
        refine Cd.seq ?_
        refine Cd.region ?_
        refine Ops.mv_ptr rfl rfl rfl ?_
        refine Ops.mv_sl rfl rfl rfl ?_
        refine Ops.mv_int rfl rfl rfl ?_
        refine Ops.idx hO15.2 rfl rfl rfl (by omega) (by omega) ?_
        refine Ops.ld_int hO15 rfl (by omega) rfl rfl ?_
        rw [hcc]
        refine Ops.mv_int rfl rfl rfl ?_
        refine Ops.call (image_c x cc (g : Int) d hok ((hS15.sub (List.sublist_append_right _ _)).sub (List.sublist_append_right _ _)) hd) rfl rfl rfl ?_
        rintro _ w16 ⟨rfl, rfl⟩
        refine Ops.mv_int rfl rfl rfl ?_
        refine Ops.nil ?_
        refine thenQ_n ?_
        refine Cd.seq ?_
        refine Cd.region ?_
        refine Ops.mv_map rfl rfl rfl ?_
        refine Ops.mv_int rfl rfl rfl ?_
        refine Ops.lookIok keyI d (hB15.rdM 1 rfl) rfl rfl rfl ?_
        refine Ops.mv_tup rfl rfl rfl ?_
        refine Ops.extract rfl rfl rfl ?_
        refine Ops.extract rfl rfl rfl ?_
        refine Ops.mv_int rfl rfl rfl ?_
        refine Ops.mv_bool rfl rfl rfl ?_
        refine Ops.nil ?_
        refine thenQ_n ?_
        obtain ⟨ord', L', n', hgo⟩ : ∃ (ord' : List Int) (L' : List (Int × Int)) (n' : Int), (getA L d = some n' ∧ ord' = ord ∧ L' = L) ∨ (getA L d = none ∧ ord' = ord ++ [d] ∧ L' = putA L d (ord.length : Int) ∧ n' = (ord.length : Int)) := by
          cases hg : getA L d with
          | some n => exact ⟨ord, L, n, .inl ⟨rfl, rfl, rfl⟩⟩
          | none => exact ⟨_, _, _, .inr ⟨rfl, rfl, rfl, rfl⟩⟩
        have hrow2 : tabG x.p cc gens j (g + 1) ord' L' (tab.set g (gl tab (g : Int) ++ [n'])) = some (o1, l1, t1) := by
          rcases hgo with ⟨h5, rfl, rfl⟩ | ⟨h5, rfl, rfl, rfl⟩ <;> rw [h5] at hrow1 <;> exact hrow1
        refine Cd.join (α := Option Addr × Nat) (fun s => [(2, .pointer A2), (6, .pointer T), (13, .slice s.1 ord'.length s.2), (14, .map (some gM)), (15, .slice A15 gens gens), (16, .int .i64 (i : Int)), (17, .int .i64 (g : Int)), (19, .int .i64 n'), (139, .int .i64 (gens : Int)), (140, .int .i64 (g : Int))]) (fun s w' => St w w' (mat 36 2 A15 gens gens rs tab ++ ([CkI 2 s.1 (ord').length s.2 (ord'), CkM 90 gM (prV (Value.int .i64) (Value.int .i64) (L'))] ++ (x.pt T ++ [Bx 42 2 A2 [.int .i64 (gens : Int), .slice Ar nr cr]])))) ?_ ?_
        · refine Cd.seq ?_
          refine Cd.region ?_
          refine Ops.mv_bool rfl rfl rfl ?_
          first | refine Ops.not_p rfl rfl ?_ | refine Ops.not rfl rfl ?_
          refine Ops.nil ?_
          refine thenQ_n ?_
          refine Cd.cond rfl (fun h6 => ?_) (fun h6 => ?_)
          · rcases hgo with ⟨h5, rfl, rfl⟩ | ⟨h5, rfl, rfl, rfl⟩ --dup 2
            · rw [h5] at h6; cases h6 --x
            · refine Cd.seq ?_
              refine Cd.region ?_
              refine Ops.mv_sl rfl rfl rfl ?_
              refine Ops.call (sizeI_c A13 ord.length c13 _) rfl rfl rfl ?_
              rintro _ w17 ⟨rfl, rfl⟩
              refine Ops.mv_int rfl rfl rfl ?_
              refine Ops.nil ?_
              refine thenQ_n ?_
              refine Cd.seq ?_
              refine Cd.region ?_
              refine Ops.mv_map rfl rfl rfl ?_
              refine Ops.mv_int rfl rfl rfl ?_
              refine Ops.mv_int rfl rfl rfl ?_
              refine Ops.upm rfl keyI 1 (a := d) (u := (ord.length : Int)) (vv := Value.int .i64) hB15 rfl rfl rfl rfl ?_
              intro w18 hS18
              refine Ops.nil ?_
              refine thenQ_n ?_
              refine Cd.region ?_
              refine Ops.mv_sl rfl rfl rfl ?_
              refine Ops.mv_int rfl rfl rfl ?_
              refine Ops.bs1I hS18 rfl rfl rfl ?_
              intro A17 w19 hS19
              refine Ops.appI 1 hS19 rfl (hS19.rdI 0 rfl) rfl rfl rfl (by omega) (by omega) rfl ?_
              intro A20 c20 w20 hS20
              have hS20 : St w w20 ([CkI 2 A20 (ord.length + 1) c20 (ord ++ [d]), CkM 90 gM (prV (Value.int .i64) (Value.int .i64) (putA L d (ord.length : Int)))] ++ (mat 36 2 A15 gens gens rs tab ++ (x.pt T ++ [Bx 42 2 A2 [.int .i64 (gens : Int), .slice Ar nr cr]]))) := hS20.tail
              refine Ops.mv_sl rfl rfl rfl ?_
              refine Ops.nil ?_
              refine thenQ_n ?_
              refine ⟨(A20, c20), ⟨rfl, rfl, by show Value.slice _ _ _ = .slice _ _ _; rw [List.length_append]; rfl, rfl, rfl, rfl, rfl, rfl, rfl, rfl, trivial⟩, ?_⟩
              dsimp only
              rw [List.length_append]
              exact hS20.toBack
          · rcases hgo with ⟨h5, rfl, rfl⟩ | ⟨h5, rfl, rfl, rfl⟩ --dup 2
            · refine Cd.skip ?_
              refine thenQ_n ?_
              exact ⟨(A13, c13), ⟨rfl, rfl, rfl, rfl, rfl, rfl, rfl, by show Value.int .i64 _ = .int .i64 _; rw [h5]; rfl, rfl, rfl, trivial⟩, hS15⟩
            · rw [h5] at h6; cases h6 --x
        · rintro ⟨A13, c13⟩ e w17 hS17
          dsimp only at hS17 ⊢
          have hM17 := hS17.rowsI htl
          have hrow := hM17.at_ (i := (g : Int)) (by omega) (by omega)
          have hrw := hrow.1
          have hget : (mat 36 2 A15 gens gens rs tab ++ ([CkI 2 A13 ord'.length c13 ord', CkM 90 gM (prV (Value.int .i64) (Value.int .i64) L')] ++ (x.pt T ++ [Bx 42 2 A2 [.int .i64 (gens : Int), .slice Ar nr cr]])))[g + 1]? = some (CkI 2 (rg rs (g : Int)).a (rg rs (g : Int)).n (rg rs (g : Int)).c (gl tab (g : Int))) := by
            have := mat_get (t1 := 36) (t2 := 2) (A := A15) (n := gens) (c := gens) (rs := rs) (xss := tab) (pre := []) (ks := [CkI 2 A13 ord'.length c13 ord', CkM 90 gM (prV (Value.int .i64) (Value.int .i64) L')] ++ (x.pt T ++ [Bx 42 2 A2 [.int .i64 (gens : Int), .slice Ar nr cr]])) (i := g) (by omega) (by omega)
            rw [show ([] : List Ck).length + 1 + g = g + 1 by simp; omega] at this
            exact this
          refine Cd.region ?_
          refine Ops.mv_sl rfl rfl rfl ?_
          refine Ops.mv_int rfl rfl rfl ?_
          refine Ops.mv_sl rfl rfl rfl ?_
          refine Ops.mv_int rfl rfl rfl ?_
          refine Ops.idx hM17.top.2 rfl rfl rfl (by omega) (by omega) ?_
          refine Ops.ld_sl hM17.top rfl (by omega) rfl rfl ?_
          refine Ops.mv_int rfl rfl rfl ?_
          refine Ops.bs1I hS17 rfl rfl rfl ?_
          intro A18 w18 hS18
          refine Ops.appI (g + 2) hS18 hget (hS18.rdI 0 rfl) rfl rfl rfl (by omega) (by omega) rfl ?_
          intro A19 c19 w19 hS19
          have hS19 : St w w19 (CkR 36 A15 gens gens rs :: (rowsCk 2 rs tab ++ ([CkI 2 A13 ord'.length c13 ord', CkM 90 gM (prV (Value.int .i64) (Value.int .i64) L')] ++ (x.pt T ++ [Bx 42 2 A2 [.int .i64 (gens : Int), .slice Ar nr cr]]))).set g (CkI 2 A19 ((rg rs (g : Int)).n + 1) c19 (gl tab (g : Int) ++ [n']))) := hS19.tail
          have hR19 := hS19.rdR 0 rfl
          refine Ops.idx hR19.2 rfl rfl rfl (by omega) (by omega) ?_
          refine Ops.st_sl 0 hS19 rfl rfl rfl (by omega) ?_
          intro w20 hS20
          refine Ops.nil ?_
          refine blockQ_n ?_
          refine thenQ_n ?_
          refine Cd.region ?_
          refine Ops.add rfl rfl rfl (by omega) ?_
          refine Ops.mv_int rfl rfl rfl ?_
          refine Ops.nil ?_
          refine thenQ_n ?_
          refine ⟨⟨j, g + 1, A13, c13, ord', L', rs.set g ⟨A19, (rg rs (g : Int)).n + 1, c19⟩, tab.set g (gl tab (g : Int) ++ [n'])⟩, Nat.lt_succ_self j, ⟨rfl, rfl, rfl, rfl, rfl, rfl, rfl, rfl, trivial⟩, ?_, by simp [hrsl], by simp [htl], ?_, ?_, hrow2⟩
          · rw [← mat_updk (by omega) (by omega)]
            exact hS20
          · show i < ord'.length
            rcases hgo with ⟨h5, rfl, rfl⟩ | ⟨h5, rfl, rfl, rfl⟩
            · exact h2
            · rw [List.length_append]; omega
          · show gi ord' (i : Int) = cc
            rcases hgo with ⟨h5, rfl, rfl⟩ | ⟨h5, rfl, rfl, rfl⟩
            · exact hcc
            · rw [show gi (ord ++ [d]) (i : Int) = gi ord (i : Int) by simp [gi, List.getD_eq_getElem?_getD, List.getElem?_append_left h2]]; exact hcc
      · rw [if_neg (by omega)] at hrow1
        obtain ⟨rfl, h7⟩ := Prod.mk.inj (Option.some.inj hrow1)
        obtain ⟨rfl, rfl⟩ := Prod.mk.inj h7
        refine Cd.exit ?_
        refine thenQ_x ?_
        refine thenQ_x ?_
        refine blockQ_x ?_
        refine blockQ_n ?_
        refine thenQ_n ?_
        refine Cd.region ?_
        refine Ops.mv_int rfl rfl rfl ?_
        refine Ops.add rfl rfl rfl (by omega) ?_
        refine Ops.mv_int rfl rfl rfl ?_
        refine Ops.nil ?_
        refine thenQ_n ?_
        exact ⟨⟨k, i + 1, A13, c13, ord, L, rs, tab⟩, Nat.lt_succ_self k, ⟨rfl, rfl, rfl, rfl, rfl, rfl, trivial⟩, hS15, hrsl, htl, by show i + 1 + k = 10000; omega, htb⟩
    · rw [if_neg (by omega)] at htb
      obtain rfl := Option.some.inj htb
      refine Cd.exit ?_
      refine thenQ_x ?_
      refine thenQ_x ?_
      refine blockQ_x ?_
      refine thenQ_n ?_
      refine Cd.seq ?_
      refine Cd.region ?_
      refine Ops.mv_sl rfl rfl rfl ?_
      refine Ops.mv_sl rfl rfl rfl ?_
      refine Ops.mv_bool rfl rfl rfl ?_
      refine Ops.nil ?_
      refine thenQ_n ?_
      refine Cd.ret ?_
      refine ret2_sb rfl rfl ?_
      refine ⟨A15, gens, rs, by rw [htl], by omega, ?_⟩
      rw [htl]
      exact hS14.sub (List.sublist_append_left _ _)
end Go.Proofs.Ytjpkmpihmilgoaa.Vc
/-
  The walks of the lengths of holes and zigzags on both sides. Conditions: as each states them.
-/
namespace Go.Proofs.Ytjpkmpihmilgoaa.Vc
open Go.RowKit

def holeL (xss : List (List Int)) (j : Int) : List Int := if holeK xss j = 0 then wordL xss (holeW (j - 1).toNat) else []
def zigL (xss : List (List Int)) (j : Int) : List Int := if holeK xss j = 0 then wordL xss (zigW j.toNat) else []

end Go.Proofs.Ytjpkmpihmilgoaa.Vc
/-
  The walks of the lengths of a word on both sides. Conditions: as each states them.
-/
namespace Go.Proofs.Ytjpkmpihmilgoaa.Vc
open Go.RowKit
section
variable {P : Program} {N : Nat} {ops : Array Oper} {K : Env → World → Prop} {rest : List Oper} {e : Env} {w : World} {d : Nat} {ty : TypeId} {pos : String} {af : Array Edge}
theorem Ops.fn2 {F : FuncId} {x y : Operand} {v1 v2 : Value} (hx : ev e x = v1) (hy : ev e y = v2) (hb : Nat.blt d N = true) (hK : Ops P N ops K rest (upd e d (.func (.func F) #[] #[v1, v2])) w) :
    Ops P N ops K (⟨some d, .makeFunc (.func F) #[] #[x, y], ty, pos, af, none⟩ :: rest) e w :=
  .val (by simp [execOp, Instr.makeFunc, hx, hy]) hb hK
end

def allIn (lo hi : Int) (xs : List Int) : Prop := ∀ x ∈ xs, lo ≤ x ∧ x ≤ hi
instance (lo hi : Int) (xs : List Int) : Decidable (allIn lo hi xs) := by unfold allIn; exact inferInstance

theorem areWithin1_c (x lo hi : Int) (P1 P2 : Option Addr) (w : World) (h1 : Rd w P1 1 (fun _ => .int .i64 lo)) (h2 : Rd w P2 1 (fun _ => .int .i64 hi)) :
    Ret Try.prog 82 [.int .i64 x, .pointer P1, .pointer P2] w (fun v w' => v = .bool (decide (¬ (lo ≤ x ∧ x ≤ hi))) ∧ w' = w) := by
  refine Ret.of_cd Try.func82 rfl Try.ntmps82 rfl (post1 rfl) ?_
  refine Cd.seq ?_
  refine Cd.region ?_
  refine Ops.mv_bool rfl rfl rfl ?_
  refine Ops.nil ?_
  refine thenQ_n ?_
  refine Cd.seq ?_
  refine Cd.region ?_
  refine Ops.mv_int rfl rfl rfl ?_
  refine Ops.ld h1 (by exact congrArg Value.pointer (ptrAt_zero P1).symm) (by decide) rfl rfl rfl ?_
  refine Ops.ld h2 (by exact congrArg Value.pointer (ptrAt_zero P2).symm) (by decide) rfl rfl rfl ?_
  refine Ops.call (within_c _ _ _ _) rfl rfl rfl ?_
  rintro _ w ⟨rfl, rfl⟩
  first | refine Ops.not_p rfl rfl ?_ | refine Ops.not rfl rfl ?_
  refine Ops.mv_bool rfl rfl rfl ?_
  refine Ops.nil ?_
  refine thenQ_n ?_
  refine Cd.ret ?_
  refine ret1_b rfl ?_
  exact ⟨rfl, rfl⟩

theorem IndexFunc_c (A : Option Addr) (n c : Nat) (xs : List Int) (lo hi : Int) (P1 P2 : Option Addr) (w : World) (hR : RdI w A n xs) (hn : n ≤ 9223372036854775807) (h1 : Rd w P1 1 (fun _ => .int .i64 lo)) (h2 : Rd w P2 1 (fun _ => .int .i64 hi)) :
    Ret Try.prog 64 [.slice A n c, .func (.func 82) #[] #[.pointer P1, .pointer P2]] w (fun v w' => (∃ i : Int, v = .int .i64 i ∧ (0 ≤ i ↔ ¬ allIn lo hi xs)) ∧ w' = w) := by
  have hxl := hR.1
  refine Ret.of_cd Try.func64 rfl Try.ntmps64 rfl (post1 rfl) ?_
  refine Cd.seq ?_
  refine Cd.region ?_
  refine Ops.mv_int rfl rfl rfl ?_
  refine Ops.nil ?_
  refine thenQ_n ?_
  refine Cd.seq ?_
  refine Cd.seq ?_
  refine Cd.region ?_
  refine Ops.mv_sl rfl rfl rfl ?_
  refine Ops.len rfl rfl ?_
  refine Ops.mv_int rfl rfl rfl ?_
  refine Ops.nil ?_
  refine thenQ_n ?_
  refine Cd.block ?_
  refine Cd.loop (α := Nat) (fun k => [(0, .slice A n c), (1, .func (.func 82) #[] #[.pointer P1, .pointer P2]), (7, .int .i64 (n : Int)), (8, .int .i64 (k : Int))]) (fun k w' => w' = w ∧ k ≤ n ∧ ∀ j, j < k → lo ≤ gi xs (j : Nat) ∧ gi xs (j : Nat) ≤ hi) (fun k => n - k) 0 ⟨rfl, rfl, rfl, rfl, trivial⟩ ⟨rfl, Nat.zero_le _, fun j hj => by omega⟩ ?_
  rintro k e w ⟨rfl, hk, hK⟩
  refine Cd.seq ?_
  refine Cd.region ?_
  refine Ops.lss rfl rfl rfl ?_
  refine Ops.nil ?_
  refine thenQ_n ?_
  refine Cd.seq ?_
  refine Cd.cond_p _ rfl (fun h3 => ?_) (fun h3 => ?_)
  · refine Cd.skip ?_
    refine thenQ_n ?_
    refine Cd.seq ?_
    refine Cd.block ?_
    refine Cd.seq ?_
    refine Cd.region ?_
    refine Ops.mv_int rfl rfl rfl ?_
    refine Ops.mv_int rfl rfl rfl ?_
    refine Ops.nil ?_
    refine thenQ_n ?_
    refine Cd.seq ?_
    refine Cd.region ?_
    refine Ops.mv_fn rfl rfl rfl ?_
    refine Ops.mv_sl rfl rfl rfl ?_
    refine Ops.mv_int rfl rfl rfl ?_
    refine Ops.idx hR.2 rfl rfl rfl (by omega) (by omega) ?_
    refine Ops.ld_int hR rfl (by omega) rfl rfl ?_
    refine Ops.call (areWithin1_c _ lo hi P1 P2 _ h1 h2) rfl rfl rfl ?_
    rintro _ w ⟨rfl, rfl⟩
    refine Ops.nil ?_
    refine thenQ_n ?_
    refine Cd.cond_p _ rfl (fun h4 => ?_) (fun h4 => ?_)
    · refine Cd.seq ?_
      refine Cd.region ?_
      refine Ops.mv_int rfl rfl rfl ?_
      refine Ops.mv_int rfl rfl rfl ?_
      refine Ops.nil ?_
      refine thenQ_n ?_
      refine Cd.ret ?_
      refine blockQ_r ?_
      refine thenQ_r ?_
      refine thenQ_r ?_
      refine blockQ_r ?_
      refine thenQ_r ?_
      refine ret1_i rfl ?_
      exact ⟨⟨(k : Int), rfl, ⟨fun _ ha => h4 (by rw [gi_mem (by omega)]; exact ha _ (List.getElem_mem _)), fun _ => by omega⟩⟩, rfl⟩
    · refine Cd.skip ?_
      refine blockQ_n ?_
      refine thenQ_n ?_
      refine Cd.region ?_
      refine Ops.add rfl rfl rfl (by omega) ?_
      refine Ops.mv_int rfl rfl rfl ?_
      refine Ops.nil ?_
      refine thenQ_n ?_
      refine ⟨k + 1, by show n - (k + 1) < n - k; omega, ⟨rfl, rfl, rfl, rfl, trivial⟩, rfl, by omega, fun j hj => ?_⟩
      by_cases ej : j = k
      · subst ej; exact Classical.not_not.1 h4
      · exact hK j (by omega)
  · refine Cd.exit ?_
    refine thenQ_x ?_
    refine thenQ_x ?_
    refine blockQ_x ?_
    refine thenQ_n ?_
    refine Cd.seq ?_
    refine Cd.region ?_
    refine Ops.mv_int rfl rfl rfl ?_
    refine Ops.nil ?_
    refine thenQ_n ?_
    refine Cd.ret ?_
    refine ret1_i rfl ?_
    refine ⟨⟨-1, rfl, ⟨fun h => absurd h (by decide), fun h => absurd (fun x hx => ?_) h⟩⟩, rfl⟩
    obtain ⟨j, hj, rfl⟩ := List.mem_iff_getElem.1 hx
    have := hK j (by omega)
    rwa [gi_mem hj] at this

theorem ContainsFunc_c (A : Option Addr) (n c : Nat) (xs : List Int) (lo hi : Int) (P1 P2 : Option Addr) (w : World) (hR : RdI w A n xs) (hn : n ≤ 9223372036854775807) (h1 : Rd w P1 1 (fun _ => .int .i64 lo)) (h2 : Rd w P2 1 (fun _ => .int .i64 hi)) :
    Ret Try.prog 44 [.slice A n c, .func (.func 82) #[] #[.pointer P1, .pointer P2]] w (fun v w' => v = .bool (decide (¬ allIn lo hi xs)) ∧ w' = w) := by
  refine Ret.of_cd Try.func44 rfl Try.ntmps44 rfl (post1 rfl) ?_
  refine Cd.seq ?_
  refine Cd.region ?_
  refine Ops.mv_bool rfl rfl rfl ?_
  refine Ops.nil ?_
  refine thenQ_n ?_
  refine Cd.seq ?_
  refine Cd.region ?_
  refine Ops.mv_sl rfl rfl rfl ?_
  refine Ops.mv_fn rfl rfl rfl ?_
  refine Ops.call (IndexFunc_c A n c xs lo hi P1 P2 _ hR hn h1 h2) rfl rfl rfl ?_
  rintro _ w ⟨⟨i, rfl, hi'⟩, rfl⟩
  refine Ops.geq rfl rfl rfl ?_
  refine Ops.mv_bool rfl rfl rfl ?_
  refine Ops.nil ?_
  refine thenQ_n ?_
  refine Cd.ret ?_
  refine ret1_b rfl ?_
  exact ⟨congrArg Value.bool (decide_eq_decide.2 hi'), rfl⟩

theorem areWithin_c (A : Option Addr) (n c : Nat) (xs : List Int) (lo hi : Int) (w : World) (hR : RdI w A n xs) (hn : n ≤ 9223372036854775807) :
    Ret Try.prog 68 [.slice A n c, .int .i64 lo, .int .i64 hi] w (fun v w' => v = .bool (decide (allIn lo hi xs)) ∧ St w w' []) := by
  refine Ret.of_cd Try.func68 rfl Try.ntmps68 rfl (post1 rfl) ?_
  refine Cd.seq ?_
  refine Cd.region ?_
  refine Ops.box (v := .int .i64 lo) (St.refl w) rfl rfl (by show (1 : Nat) ≤ maxLen; simp [maxLen]) ?_
  intro P1 w1 hS1
  have hS1 : St w w1 [Bx 2 1 P1 [.int .i64 lo]] := hS1
  refine Ops.box (v := .int .i64 hi) hS1 rfl rfl (by show (1 : Nat) ≤ maxLen; simp [maxLen]) ?_
  intro P2 w2 hS2
  have hS2 : St w w2 [Bx 2 1 P2 [.int .i64 hi], Bx 2 1 P1 [.int .i64 lo]] := hS2
  refine Ops.mv_bool rfl rfl rfl ?_
  refine Ops.nil ?_
  refine thenQ_n ?_
  refine Cd.seq ?_
  refine Cd.region ?_
  refine Ops.mv_sl rfl rfl rfl ?_
  refine Ops.fn2 rfl rfl rfl ?_
  skip
  refine Ops.call (ContainsFunc_c A n c xs lo hi P1 P2 _ (hS2.oldI hR) hn (Rd.one (hS2.rd 1 rfl)) (Rd.one (hS2.rd 0 rfl))) rfl rfl rfl ?_
  rintro _ w2 ⟨rfl, rfl⟩
  first | refine Ops.not_p rfl rfl ?_ | refine Ops.not rfl rfl ?_
  refine Ops.mv_bool rfl rfl rfl ?_
  refine Ops.nil ?_
  refine thenQ_n ?_
  refine Cd.ret ?_
  refine ret1_b rfl ?_
  exact ⟨by simp, hS2.none⟩

/-- a word of n moves -/
def IsW (n : Nat) (ws : List Int) : Prop := allIn 0 ((n : Int) - 1) ws ∧ ws.length ≤ 64
instance (n : Nat) (ws : List Int) : Decidable (IsW n ws) := by unfold IsW; exact inferInstance

def lowK (xss : List (List Int)) (ws : List Int) : Int := if ¬ Grph xss then 1 else if ¬ IsW xss.length ws then 2 else 0
def lowL (xss : List (List Int)) (ws : List Int) : List Int := if Grph xss ∧ IsW xss.length ws then wordL xss ws else []

end Go.Proofs.Ytjpkmpihmilgoaa.Vc
/-
  The reference's coset enumeration, walked: cosets identified. Conditions: as each states them.
-/
namespace Go.Proofs.Ytjpkmpihmilgoaa.Vc
open Go.RowKit

/-- one row's images given over -/
def idRowP (lo hi : Int) : Nat → Nat → List (List Int) → List Int → List Int → Option (List (List Int) × List Int × List Int)
  | 0, _, _, _, _ => none
  | k + 1, g, im, one, two =>
    if g < (gl im hi).length then
      if gi (gl im hi) g < 0 then idRowP lo hi k (g + 1) im one two
      else if g < (gl im lo).length then
        if 0 ≤ gi (gl im lo) g then (if one.length < 1000000 ∧ two.length < 1000000 then idRowP lo hi k (g + 1) im (one ++ [gi (gl im hi) g]) (two ++ [gi (gl im lo) g]) else none)
        else idRowP lo hi k (g + 1) (setI im lo g (gi (gl im hi) g)) one two
      else none
    else some (im, one, two)
def identP : Nat → Nat → PS → List Int → List Int → Option PS
  | 0, _, _, _, _ => none
  | k + 1, i, x, one, two =>
    if i < one.length then
      if i < two.length then
        match findP x.ls 2000 (gi one i), findP x.ls 2000 (gi two i) with
        | some a, some b =>
          if a = b then identP k (i + 1) x one two
          else
            if 0 ≤ (if b < a then b else a) ∧ (if b < a then a else b) < (x.im.length : Int) ∧ (if b < a then a else b) < (x.ls.length : Int) ∧ x.im.length ≤ 2000 then
              match idRowP (if b < a then b else a) (if b < a then a else b) 1000 0 x.im one two with
              | some (im, one', two') => identP k (i + 1) ⟨im, x.ls.set (if b < a then a else b).toNat (if b < a then b else a)⟩ one' two'
              | none => none
            else none
        | _, _ => none
      else none
    else some x
structure IdS where
  i : Nat
  k : Nat
  A7 : Option Addr
  c7 : Nat
  one : List Int
  A8 : Option Addr
  c8 : Nat
  two : List Int
  im : List (List Int)
  ls : List Int

theorem l11Identify_c {w0 w : World} {ks : List Ck} (x : LS) (c d : Int) (y : PS) (k0 : Nat) (hok : x.ok) (hS : St w0 w (x.cks ++ ks)) (hp : identP k0 0 x.p [c] [d] = some y) :
    Ret Try.prog 86 [x.val, .int .i64 c, .int .i64 d] w (fun v w' => ∃ x' : LS, x'.ok ∧ x'.p = y ∧ v = x'.val ∧ St w0 w' (x'.cks ++ ks)) := by
  obtain ⟨A, n, cc, rs, im, B, m, cB, ls⟩ := x
  obtain ⟨h1, h2, h3⟩ := hok
  have h1 : rs.length = n := h1
  have h2 : im.length = n := h2
  have h3 : ls.length = m := h3
  refine Ret.of_cd Try.func86 rfl Try.ntmps86 rfl (postc rfl rfl) ?_
  refine Cd.seq ?_
  refine Cd.region ?_
  refine Ops.box3 hS rfl rfl ?_
  intro Ab w1 hS1
  skip
  refine Ops.new3 hS1 rfl ?_
  intro Ac w2 hS2
  refine Ops.nil ?_
  refine thenQ_n ?_
  refine Cd.seq ?_
  refine Cd.region ?_
  refine Ops.mv_int rfl rfl rfl ?_
  refine Ops.bs1I hS2 rfl rfl rfl ?_
  intro A7 w3 hS3
  refine Ops.mv_int rfl rfl rfl ?_
  refine Ops.bs1I hS3 rfl rfl rfl ?_
  intro A8 w4 hS4
  have hS4 : St w0 w4 ([CkI 2 A8 1 1 [d], CkI 2 A7 1 1 [c], Bx 72 3 Ac [.slice none 0 0, .slice none 0 0, .bool false], Bx 72 3 Ab [.slice A n cc, .slice B m cB, .bool false], CkI 2 B m cB ls] ++ (mat 36 2 A n cc rs im ++ ks)) := hS4
  refine Ops.mv_sl rfl rfl rfl ?_
  refine Ops.mv_sl rfl rfl rfl ?_
  refine Ops.nil ?_
  refine thenQ_n ?_
  refine Cd.seq ?_
  refine Cd.seq ?_
  refine Cd.region ?_
  refine Ops.mv_int rfl rfl rfl ?_
  refine Ops.nil ?_
  refine thenQ_n ?_
  refine Cd.block ?_
  refine Cd.loop (α := IdS) (fun s => [(3, .pointer Ab), (6, .pointer Ac), (7, .slice s.A7 s.one.length s.c7), (8, .slice s.A8 s.two.length s.c8), (9, .int .i64 (s.i : Int))])
    (fun s w' => St w0 w' ([CkI 2 s.A8 s.two.length s.c8 s.two, CkI 2 s.A7 s.one.length s.c7 s.one, Bx 72 3 Ac [.slice none 0 0, .slice none 0 0, .bool false], Bx 72 3 Ab [.slice A n cc, .slice B m cB, .bool false], CkI 2 B m cB s.ls] ++ (mat 36 2 A n cc rs s.im ++ ks)) ∧ s.im.length = n ∧ s.ls.length = m ∧ identP s.k s.i ⟨s.im, s.ls⟩ s.one s.two = some y) (fun s => s.k)
    ⟨0, k0, A7, 1, [c], A8, 1, [d], im, ls⟩ ⟨rfl, rfl, rfl, rfl, rfl, trivial⟩ ⟨hS4, h2, h3, hp⟩ ?_
  rintro ⟨i, k, A7, c7, one, A8, c8, two, im, ls⟩ e w5 ⟨hS5, h2, h3, hf⟩
  dsimp only at hS5 h2 h3 hf ⊢
  obtain ⟨q, rfl⟩ : ∃ q, k = q + 1 := by cases k with | zero => cases hf | succ q => exact ⟨q, rfl⟩
  rw [identP] at hf
  have hc1 := hS5.cap 1 rfl
  dsimp only [CkI] at hc1
  simp only [maxLen] at hc1
  refine Cd.seq ?_
  refine Cd.seq ?_
  refine Cd.region ?_
  refine Ops.mv_int rfl rfl rfl ?_
  refine Ops.mv_sl rfl rfl rfl ?_
  refine Ops.len rfl rfl ?_
  refine Ops.lss rfl rfl rfl ?_
  refine Ops.nil ?_
  refine thenQ_n ?_
  refine Cd.cond_p _ rfl (fun hi => ?_) (fun hi => ?_)
  · rw [if_pos (by omega)] at hf
    split at hf
    case isFalse => cases hf
    rename_i hi2
    split at hf
    case h_2 => cases hf
    rename_i a b hfa hfb
    have hR5 : RdI w5 B m ls := hS5.rdI 4 rfl
    refine Cd.skip ?_
    refine thenQ_n ?_
    refine Cd.seq ?_
    refine Cd.block ?_
    refine Cd.seq ?_
    refine Cd.draw [.ex (.agg #[.slice (A) (n) (cc), .slice (B) (m) (cB), .bool (false)]), .ex (.slice (A7) (one.length) (c7)), .ex (.int .i64 ((i : Int))), .ex (.pointer (ptrAt (A7) ((i : Int)).toNat)), .ex (.int .i64 (gi (one) ((i : Int)))), .ex (.int .i64 (a)), .ex (.agg #[.slice (A) (n) (cc), .slice (B) (m) (cB), .bool (false)]), .ex (.slice (A8) (two.length) (c8)), .ex (.int .i64 ((i : Int))), .ex (.pointer (ptrAt (A8) ((i : Int)).toNat)), .ex (.int .i64 (gi (two) ((i : Int)))), .ex (.int .i64 (b)), .ex (.int .i64 (a)), .ex (.int .i64 (b))] (by kernel_rfl) (by kernel_rfl) rfl (List.forall_mem_cons.2 ⟨Yd.lasts_ex _, (List.forall_mem_cons.2 ⟨Yd.lasts_ex _, (List.forall_mem_cons.2 ⟨Yd.lasts_ex _, (List.forall_mem_cons.2 ⟨Yd.lasts_ex _, (List.forall_mem_cons.2 ⟨Yd.lasts_ex _, (List.forall_mem_cons.2 ⟨Yd.lasts_ex _, (List.forall_mem_cons.2 ⟨Yd.lasts_ex _, (List.forall_mem_cons.2 ⟨Yd.lasts_ex _, (List.forall_mem_cons.2 ⟨Yd.lasts_ex _, (List.forall_mem_cons.2 ⟨Yd.lasts_ex _, (List.forall_mem_cons.2 ⟨Yd.lasts_ex _, (List.forall_mem_cons.2 ⟨Yd.lasts_ex _, (List.forall_mem_cons.2 ⟨Yd.lasts_ex _, (List.forall_mem_cons.2 ⟨Yd.lasts_ex _, (fun _ h => by cases h)⟩)⟩)⟩)⟩)⟩)⟩)⟩)⟩)⟩)⟩)⟩)⟩)⟩)⟩) ⟨?_, ?_, ?_, ?_, ?_, ?_, ?_, ?_, ?_, ?_, ?_, ?_, ?_, ?_, trivial⟩ ?_
    · intro e1 w1 hb hp hun
      refine Ops.ld_agg 2 ((hS5.rd 3 rfl).below hb) rfl rfl rfl ?_
      refine Ops.nil ?_
      exact After.dn (Below.refl _ _) (by exact rfl)
    · intro e1 w1 hb hp hun
      refine Ops.mv_sl rfl rfl rfl ?_
      refine Ops.nil ?_
      exact After.dn (Below.refl _ _) (by exact rfl)
    · intro e1 w1 hb hp hun
      refine Ops.mv_int rfl rfl rfl ?_
      refine Ops.nil ?_
      exact After.dn (Below.refl _ _) (by exact rfl)
    · intro e1 w1 hb hp hun
      refine Ops.idx ((hS5.rdI 1 rfl).later hb).2 rfl rfl rfl (by omega) (by omega) ?_
      refine Ops.nil ?_
      exact After.dn (Below.refl _ _) (by exact rfl)
    · intro e1 w1 hb hp hun
      refine Ops.ld_int ((hS5.rdI 1 rfl).later hb) rfl (by omega) rfl rfl ?_
      refine Ops.nil ?_
      exact After.dn (Below.refl _ _) (by exact rfl)
    · intro e1 w1 hb hp hun
      refine Ops.call (l11Find_c ls 2000 _ a _ (hR5.later hb) hfa) rfl rfl rfl ?_
      rintro _ w2 ⟨rfl, hst⟩
      refine Ops.nil ?_
      exact After.dn hst.below (by exact rfl)
    · intro e1 w1 hb hp hun
      refine Ops.ld_agg 2 ((hS5.rd 3 rfl).below hb) rfl rfl rfl ?_
      refine Ops.nil ?_
      exact After.dn (Below.refl _ _) (by exact rfl)
    · intro e1 w1 hb hp hun
      refine Ops.mv_sl rfl rfl rfl ?_
      refine Ops.nil ?_
      exact After.dn (Below.refl _ _) (by exact rfl)
    · intro e1 w1 hb hp hun
      refine Ops.mv_int rfl rfl rfl ?_
      refine Ops.nil ?_
      exact After.dn (Below.refl _ _) (by exact rfl)
    · intro e1 w1 hb hp hun
      refine Ops.idx ((hS5.rdI 0 rfl).later hb).2 rfl rfl rfl (by omega) (by omega) ?_
      refine Ops.nil ?_
      exact After.dn (Below.refl _ _) (by exact rfl)
    · intro e1 w1 hb hp hun
      refine Ops.ld_int ((hS5.rdI 0 rfl).later hb) rfl (by omega) rfl rfl ?_
      refine Ops.nil ?_
      exact After.dn (Below.refl _ _) (by exact rfl)
    · intro e1 w1 hb hp hun
      refine Ops.call (l11Find_c ls 2000 _ b _ (hR5.later hb) hfb) rfl rfl rfl ?_
      rintro _ w2 ⟨rfl, hst⟩
      refine Ops.nil ?_
      exact After.dn hst.below (by exact rfl)
    · intro e1 w1 hb hp hun
      refine Ops.mv_int rfl rfl rfl ?_
      refine Ops.nil ?_
      exact After.dn (Below.refl _ _) (by exact rfl)
    · intro e1 w1 hb hp hun
      refine Ops.mv_int rfl rfl rfl ?_
      refine Ops.nil ?_
      exact After.dn (Below.refl _ _) (by exact rfl)
    intro u w6 hb6 _
    have hS6 := hS5.later hb6
    refine thenQ_n ?_
    refine Cd.seq ?_
    refine Cd.seq ?_
    refine Cd.region ?_
    refine Ops.mv_int rfl rfl rfl ?_
    refine Ops.mv_int rfl rfl rfl ?_
    refine Ops.eql rfl rfl rfl ?_
    refine Ops.nil ?_
    refine thenQ_n ?_
    refine Cd.cond_p _ rfl (fun hab => ?_) (fun hab => ?_)
    · rw [if_pos hab] at hf
      refine Cd.exit ?_
      refine thenQ_x ?_
      refine blockQ_x ?_
      refine thenQ_n ?_
      refine Cd.region ?_
      refine Ops.mv_int rfl rfl rfl ?_
      refine Ops.add rfl rfl rfl (by omega) ?_
      refine Ops.mv_int rfl rfl rfl ?_
      refine Ops.nil ?_
      refine thenQ_n ?_
      exact ⟨⟨i + 1, q, A7, c7, one, A8, c8, two, im, ls⟩, Nat.lt_succ_self q, ⟨rfl, rfl, rfl, rfl, rfl, trivial⟩, hS6, h2, h3, hf⟩
    · rw [if_neg hab] at hf
      refine Cd.skip ?_
      refine thenQ_n ?_
      refine Cd.join (α := Unit) (fun _ => [(3, .pointer Ab), (6, .pointer Ac), (7, .slice A7 one.length c7), (8, .slice A8 two.length c8), (9, .int .i64 (i : Int)), (10, .int .i64 (if b < a then b else a)), (11, .int .i64 (if b < a then a else b))]) (fun _ w' => w' = w6) ?_ ?_
      · refine Cd.seq ?_
        refine Cd.region ?_
        refine Ops.mv_int rfl rfl rfl ?_
        refine Ops.mv_int rfl rfl rfl ?_
        refine Ops.gtr rfl rfl rfl ?_
        refine Ops.nil ?_
        refine thenQ_n ?_
        refine Cd.cond_p _ rfl (fun hlt => ?_) (fun hlt => ?_)
        · refine Cd.region ?_
          refine Ops.mv_int rfl rfl rfl ?_
          refine Ops.mv_int rfl rfl rfl ?_
          refine Ops.mv_int rfl rfl rfl ?_
          refine Ops.mv_int rfl rfl rfl ?_
          refine Ops.nil ?_
          refine thenQ_n ?_
          exact ⟨(), ⟨rfl, rfl, rfl, rfl, rfl, by show Value.int .i64 _ = .int .i64 _; rw [if_pos hlt], by show Value.int .i64 _ = .int .i64 _; rw [if_pos hlt], trivial⟩, rfl⟩
        · refine Cd.skip ?_
          refine thenQ_n ?_
          exact ⟨(), ⟨rfl, rfl, rfl, rfl, rfl, by show Value.int .i64 _ = .int .i64 _; rw [if_neg hlt], by show Value.int .i64 _ = .int .i64 _; rw [if_neg hlt], trivial⟩, rfl⟩
      · rintro _ e w7 rfl
        have hlh : (if b < a then b else a) < (if b < a then a else b) := by split <;> omega
        generalize (if b < a then b else a) = lo at hf hlh ⊢
        generalize (if b < a then a else b) = hi' at hf hlh ⊢
        split at hf
        case isFalse => cases hf
        rename_i hbd
        dsimp only at hbd
        split at hf
        case h_2 => cases hf
        rename_i im' one' two' hrowp
        obtain ⟨loN, rfl⟩ : ∃ q : Nat, lo = q := ⟨lo.toNat, by omega⟩
        obtain ⟨hiN, rfl⟩ : ∃ q : Nat, hi' = q := ⟨hi'.toNat, by omega⟩
        rw [Int.toNat_natCast] at hf
        have hRr := hS6.rdI 4 rfl
        refine Cd.seq ?_
        refine Cd.region ?_
        refine Ops.fld (hS6.rd 3 rfl) rfl rfl rfl rfl inferInstance ?_
        refine Ops.ldf_s (hS6.rd 3 rfl) rfl rfl rfl rfl rfl ?_
        refine Ops.mv_int rfl rfl rfl ?_
        refine Ops.mv_int rfl rfl rfl ?_
        refine Ops.idx hRr.2 rfl rfl rfl (by omega) (by omega) ?_
        skip
        refine Ops.st_int 4 hS6 rfl rfl rfl (by omega) ?_
        intro w8 hS8
        have hS8 : St w0 w8 ([CkI 2 A8 two.length c8 two, CkI 2 A7 one.length c7 one, Bx 72 3 Ac [.slice none 0 0, .slice none 0 0, .bool false], Bx 72 3 Ab [.slice A n cc, .slice B m cB, .bool false], CkI 2 B m cB (ls.set hiN (loN : Int))] ++ (mat 36 2 A n cc rs im ++ ks)) := hS8
        refine Ops.nil ?_
        refine thenQ_n ?_
        refine Cd.seq ?_
        refine Cd.region ?_
        refine Ops.mv_int rfl rfl rfl ?_
        refine Ops.nil ?_
        refine thenQ_n ?_
        refine Cd.block ?_
        refine Cd.loop (α := IdS) (fun s => [(3, .pointer Ab), (6, .pointer Ac), (7, .slice s.A7 s.one.length s.c7), (8, .slice s.A8 s.two.length s.c8), (9, .int .i64 (i : Int)), (10, .int .i64 (loN : Int)), (11, .int .i64 (hiN : Int)), (12, .int .i64 (s.i : Int))])
          (fun s w' => St w0 w' ([CkI 2 s.A8 s.two.length s.c8 s.two, CkI 2 s.A7 s.one.length s.c7 s.one, Bx 72 3 Ac [.slice none 0 0, .slice none 0 0, .bool false], Bx 72 3 Ab [.slice A n cc, .slice B m cB, .bool false], CkI 2 B m cB (ls.set hiN (loN : Int))] ++ (mat 36 2 A n cc rs s.im ++ ks)) ∧ s.im.length = n ∧ idRowP (loN : Int) (hiN : Int) s.k s.i s.im s.one s.two = some (im', one', two') ∧ s.i + s.k ≤ 1000) (fun s => s.k)
          ⟨0, 1000, A7, c7, one, A8, c8, two, im, ls⟩ ⟨rfl, rfl, rfl, rfl, rfl, rfl, rfl, rfl, trivial⟩ ⟨hS8, h2, hrowp, Nat.le_refl _⟩ ?_
        rintro ⟨g, k, A7, c7, one, A8, c8, two, im, ls0⟩ e w9 ⟨hS9, h2, hg, hgk⟩
        dsimp only at hS9 h2 hg hgk ⊢
        obtain ⟨r, rfl⟩ : ∃ q, k = q + 1 := by cases k with | zero => cases hg | succ q => exact ⟨q, rfl⟩
        rw [idRowP] at hg
        have hI9 : RowsI w9 A n rs im := LS.rowsI (x := ⟨A, n, cc, rs, im, B, m, cB, ls.set hiN (loN : Int)⟩) ⟨h1, h2, by rw [List.length_set]; exact h3⟩ (pre := [CkI 2 A8 two.length c8 two, CkI 2 A7 one.length c7 one, Bx 72 3 Ac [.slice none 0 0, .slice none 0 0, .bool false], Bx 72 3 Ab [.slice A n cc, .slice B m cB, .bool false]]) hS9
        have hrh := hI9.at_ (i := (hiN : Int)) (by omega) (by omega)
        have hrlo := hI9.at_ (i := (loN : Int)) (by omega) (by omega)
        have hh1 := hrh.1
        have hl1 := hrlo.1
        refine Cd.seq ?_
        refine Cd.seq ?_
        refine Cd.region ?_
        refine Ops.mv_int rfl rfl rfl ?_
        refine Ops.fld (hS9.rd 3 rfl) rfl rfl rfl rfl inferInstance ?_
        refine Ops.ldf_s (hS9.rd 3 rfl) rfl rfl rfl rfl rfl ?_
        refine Ops.mv_int rfl rfl rfl ?_
        refine Ops.idx hI9.top.2 rfl rfl rfl (by omega) (by omega) ?_
        refine Ops.ld_sl hI9.top rfl (by omega) rfl rfl ?_
        refine Ops.len rfl rfl ?_
        refine Ops.lss rfl rfl rfl ?_
        refine Ops.nil ?_
        refine thenQ_n ?_
        refine Cd.cond_p _ rfl (fun hgl => ?_) (fun hgl => ?_)
        · rw [if_pos (by omega)] at hg
          refine Cd.skip ?_
          refine thenQ_n ?_
          refine Cd.seq ?_
          refine Cd.block ?_
          refine Cd.seq ?_
          refine Cd.region ?_
          refine Ops.fld (hS9.rd 3 rfl) rfl rfl rfl rfl inferInstance ?_
          refine Ops.ldf_s (hS9.rd 3 rfl) rfl rfl rfl rfl rfl ?_
          refine Ops.mv_int rfl rfl rfl ?_
          refine Ops.idx hI9.top.2 rfl rfl rfl (by omega) (by omega) ?_
          refine Ops.ld_sl hI9.top rfl (by omega) rfl rfl ?_
          refine Ops.mv_int rfl rfl rfl ?_
          refine Ops.idx hrh.2 rfl rfl rfl (by omega) (by omega) ?_
          refine Ops.ld_int hrh rfl (by omega) rfl rfl ?_
          refine Ops.mv_int rfl rfl rfl ?_
          refine Ops.nil ?_
          refine thenQ_n ?_
          refine Cd.seq ?_
          refine Cd.seq ?_
          refine Cd.region ?_
          refine Ops.mv_int rfl rfl rfl ?_
          refine Ops.lss rfl rfl rfl ?_
          refine Ops.nil ?_
          refine thenQ_n ?_
          refine Cd.cond_p _ rfl (fun he => ?_) (fun he => ?_)
          · rw [if_pos he] at hg
            refine Cd.exit ?_
            refine thenQ_x ?_
            refine blockQ_x ?_
            refine thenQ_n ?_
            refine Cd.region ?_
            refine Ops.mv_int rfl rfl rfl ?_
            refine Ops.add rfl rfl rfl (by omega) ?_
            refine Ops.mv_int rfl rfl rfl ?_
            refine Ops.nil ?_
            refine thenQ_n ?_
            exact ⟨⟨g + 1, r, A7, c7, one, A8, c8, two, im, ls0⟩, Nat.lt_succ_self r, ⟨rfl, rfl, rfl, rfl, rfl, rfl, rfl, rfl, trivial⟩, hS9, h2, hg, by show g + 1 + r ≤ 1000; omega⟩
          · rw [if_neg he] at hg
            split at hg
            case isFalse => cases hg
            rename_i hgl2
            refine Cd.skip ?_
            refine thenQ_n ?_
            refine Cd.seq ?_
            refine Cd.region ?_
            refine Ops.fld (hS9.rd 3 rfl) rfl rfl rfl rfl inferInstance ?_
            refine Ops.ldf_s (hS9.rd 3 rfl) rfl rfl rfl rfl rfl ?_
            refine Ops.mv_int rfl rfl rfl ?_
            refine Ops.idx hI9.top.2 rfl rfl rfl (by omega) (by omega) ?_
            refine Ops.ld_sl hI9.top rfl (by omega) rfl rfl ?_
            refine Ops.mv_int rfl rfl rfl ?_
            refine Ops.idx hrlo.2 rfl rfl rfl (by omega) (by omega) ?_
            refine Ops.ld_int hrlo rfl (by omega) rfl rfl ?_
            refine Ops.mv_int rfl rfl rfl ?_
            refine Ops.nil ?_
            refine thenQ_n ?_
            refine Cd.seq ?_
            refine Cd.region ?_
            refine Ops.mv_int rfl rfl rfl ?_
            refine Ops.geq rfl rfl rfl ?_
            refine Ops.nil ?_
            refine thenQ_n ?_
            refine Cd.cond_p _ rfl (fun hf0 => ?_) (fun hf0 => ?_)
            · rw [if_pos hf0] at hg
              split at hg
              case isFalse => cases hg
              rename_i hlen
              refine Cd.seq ?_
              refine Cd.region ?_
              refine Ops.mv_sl rfl rfl rfl ?_
              refine Ops.mv_int rfl rfl rfl ?_
              refine Ops.bs1I hS9 rfl rfl rfl ?_
              intro A10 w10 hS10
              refine Ops.appI 2 hS10 rfl (hS10.rdI 0 rfl) rfl rfl rfl (by omega) (by omega) rfl ?_
              intro A11 c11 w11 hS11
              have hS11 : St w0 w11 ([CkI 2 A8 two.length c8 two, CkI 2 A11 (one.length + 1) c11 (one ++ [gi (gl im (hiN : Int)) (g : Int)]), Bx 72 3 Ac [.slice none 0 0, .slice none 0 0, .bool false], Bx 72 3 Ab [.slice A n cc, .slice B m cB, .bool false], CkI 2 B m cB (ls.set hiN (loN : Int))] ++ (mat 36 2 A n cc rs im ++ ks)) := hS11.tail
              refine Ops.mv_sl rfl rfl rfl ?_
              refine Ops.nil ?_
              refine thenQ_n ?_
              refine Cd.region ?_
              refine Ops.mv_sl rfl rfl rfl ?_
              refine Ops.mv_int rfl rfl rfl ?_
              refine Ops.bs1I hS11 rfl rfl rfl ?_
              intro A12 w12 hS12
              refine Ops.appI 1 hS12 rfl (hS12.rdI 0 rfl) rfl rfl rfl (by omega) (by omega) rfl ?_
              intro A13 c13 w13 hS13
              have hS13 : St w0 w13 ([CkI 2 A13 (two.length + 1) c13 (two ++ [gi (gl im (loN : Int)) (g : Int)]), CkI 2 A11 (one.length + 1) c11 (one ++ [gi (gl im (hiN : Int)) (g : Int)]), Bx 72 3 Ac [.slice none 0 0, .slice none 0 0, .bool false], Bx 72 3 Ab [.slice A n cc, .slice B m cB, .bool false], CkI 2 B m cB (ls.set hiN (loN : Int))] ++ (mat 36 2 A n cc rs im ++ ks)) := hS13.tail
              refine Ops.mv_sl rfl rfl rfl ?_
              refine Ops.nil ?_
              refine blockQ_n ?_
              refine thenQ_n ?_
              refine Cd.region ?_
              refine Ops.mv_int rfl rfl rfl ?_
              refine Ops.add rfl rfl rfl (by omega) ?_
              refine Ops.mv_int rfl rfl rfl ?_
              refine Ops.nil ?_
              refine thenQ_n ?_
              refine ⟨⟨g + 1, r, A11, c11, one ++ [gi (gl im (hiN : Int)) (g : Int)], A13, c13, two ++ [gi (gl im (loN : Int)) (g : Int)], im, ls0⟩, Nat.lt_succ_self r, ⟨rfl, rfl, by show Value.slice _ _ _ = .slice _ _ _; rw [List.length_append]; rfl, by show Value.slice _ _ _ = .slice _ _ _; rw [List.length_append]; rfl, rfl, rfl, rfl, rfl, trivial⟩, ?_, h2, hg, by show g + 1 + r ≤ 1000; omega⟩
              dsimp only
              rw [List.length_append, List.length_append]
              exact hS13
            · rw [if_neg hf0] at hg
              refine Cd.region ?_
              refine Ops.fld (hS9.rd 3 rfl) rfl rfl rfl rfl inferInstance ?_
              refine Ops.ldf_s (hS9.rd 3 rfl) rfl rfl rfl rfl rfl ?_
              refine Ops.mv_int rfl rfl rfl ?_
              refine Ops.idx hI9.top.2 rfl rfl rfl (by omega) (by omega) ?_
              refine Ops.ld_sl hI9.top rfl (by omega) rfl rfl ?_
              refine Ops.mv_int rfl rfl rfl ?_
              refine Ops.mv_int rfl rfl rfl ?_
              refine Ops.idx hrlo.2 rfl rfl rfl (by omega) (by omega) ?_
              skip
              refine Ops.st_row loN hS9 (by omega) (by omega) rfl rfl (by omega) ?_
              intro w10 hS10
              refine Ops.nil ?_
              refine blockQ_n ?_
              refine thenQ_n ?_
              refine Cd.region ?_
              refine Ops.mv_int rfl rfl rfl ?_
              refine Ops.add rfl rfl rfl (by omega) ?_
              refine Ops.mv_int rfl rfl rfl ?_
              refine Ops.nil ?_
              refine thenQ_n ?_
              exact ⟨⟨g + 1, r, A7, c7, one, A8, c8, two, im.set loN ((gl im (loN : Int)).set g (gi (gl im (hiN : Int)) (g : Int))), ls0⟩, Nat.lt_succ_self r, ⟨rfl, rfl, rfl, rfl, rfl, rfl, rfl, rfl, trivial⟩, hS10, by show (im.set _ _).length = n; rw [List.length_set]; exact h2, hg, by show g + 1 + r ≤ 1000; omega⟩
        · rw [if_neg (by omega)] at hg
          have hg := Option.some.inj hg
          simp only [Prod.mk.injEq] at hg
          obtain ⟨rfl, rfl, rfl⟩ := hg
          refine Cd.exit ?_
          refine thenQ_x ?_
          refine thenQ_x ?_
          refine blockQ_x ?_
          refine blockQ_n ?_
          refine thenQ_n ?_
          refine Cd.region ?_
          refine Ops.mv_int rfl rfl rfl ?_
          refine Ops.add rfl rfl rfl (by omega) ?_
          refine Ops.mv_int rfl rfl rfl ?_
          refine Ops.nil ?_
          refine thenQ_n ?_
          exact ⟨⟨i + 1, q, A7, c7, one, A8, c8, two, im, ls.set hiN (loN : Int)⟩, Nat.lt_succ_self q, ⟨rfl, rfl, rfl, rfl, rfl, trivial⟩, hS9, h2, by show (ls.set _ _).length = m; rw [List.length_set]; exact h3, hf⟩
  · rw [if_neg (by omega)] at hf
    obtain rfl := Option.some.inj hf
    refine Cd.exit ?_
    refine thenQ_x ?_
    refine thenQ_x ?_
    refine blockQ_x ?_
    refine thenQ_n ?_
    refine Cd.seq ?_
    refine Cd.region ?_
    refine Ops.ld_agg 2 (hS5.rd 3 rfl) rfl rfl rfl ?_
    skip
    refine Ops.st_agg 3 2 hS5 rfl rfl rfl rfl rfl rfl rfl ?_
    intro w6 hS6
    refine Ops.nil ?_
    refine thenQ_n ?_
    refine Cd.ret ?_
    skip
    refine retc_r rfl (hS6.rd 2 rfl) ?_
    exact ⟨⟨A, n, cc, rs, im, B, m, cB, ls⟩, ⟨h1, h2, h3⟩, rfl, rfl, hS6.sub (((((List.Sublist.refl _).cons _).cons _).cons _).cons _)⟩
end Go.Proofs.Ytjpkmpihmilgoaa.Vc
/-
  A statement whose order Go leaves open, by a property of what is done so far. Conditions: as the rule names them.
-/
namespace Go.Proofs.Ytjpkmpihmilgoaa.Vc
open Go.RowKit

/-- the order of the text is one of the orders -/
def backB (l : List Oper) : Bool := l.zipIdx.all fun p => (aft p.1).all fun ed => Nat.blt ed.on p.2
/-- an operation's own premises -/
theorem deps_of {o : Oper} {S : Nat → Bool} (h : ∀ ed ∈ aft o, S ed.on = true) (k : Nat) (hk : (aft o).any (fun ed => Nat.beq ed.on k) = true) : S k = true := by
  obtain ⟨ed, hed, hb⟩ := List.any_eq_true.1 hk
  rw [← Nat.eq_of_beq_eq_true hb]
  exact h ed hed
theorem thenQ_ext {K : Env → World → Prop} {Q : Post} {e : Env} {w : World} {F : List (Nat × Value)} (hM : Mt e F) (h : thenQ K Q .normal (ext e F) w) : thenQ K Q .normal e w := by rwa [ext_of_mt hM] at h
section
variable {P : Program} {N : Nat} {e : Env} {w : World}
theorem Cd.drawS {id : Nat} {l : List Oper} {Q : Post} (hm : P.follows .mixedOrders = true) (hbk : backB l = true) (I : (Nat → Bool) → Env → World → Prop) (h0 : ∀ w1, Below w.heap.size w w1 → I (fun _ => false) e w1)
    (hstep : ∀ (S : Nat → Bool) (i : Nat) (o : Oper) (e1 : Env) (w1 : World), l[i]? = some o → S i = false → (∀ ed ∈ aft o, S ed.on = true) → (∀ (k : Nat) (o' : Oper), S k = true → l[k]? = some o' → ∀ ed ∈ aft o', S ed.on = true) → I S e1 w1 → Ops P N l.toArray (fun e2 w2 => I (fun k => Nat.beq k i || S k) e2 w2) [o] e1 w1)
    (hend : ∀ (S : Nat → Bool) (e1 : Env) (w1 : World), (∀ i, i < l.length → S i = true) → I S e1 w1 → Q .normal e1 w1) : Cd P N (.region id l.toArray true) Q e w := .mk' fun a ha => by
  have hback : ∀ (i : Nat) (o : Oper), l[i]? = some o → ∀ ed ∈ aft o, ed.on < i := by
    intro i o ho ed hed
    simp only [backB, List.all_eq_true] at hbk
    have := hbk (o, i) (by
      obtain ⟨hi, hio⟩ := List.getElem?_eq_some_iff.1 ho
      rw [List.mem_iff_getElem?]
      exact ⟨i, by simp [ho]⟩)
    simpa [Nat.blt_eq] using this ed hed
  refine wp_region_any hm ?_
  have key : ∀ (fuel : Nat) (listed : Array Bool) (a1 : Act) (e1 : Env) (w1 : World), Rep N a1 e1 → listed.size = l.length →
      (∀ (i : Nat) (o : Oper), listed.getD i false = true → l[i]? = some o → ∀ ed ∈ aft o, listed.getD ed.on false = true) → I (fun k => listed.getD k false) e1 w1 → (l.length - fuel ≤ (List.range l.length).countP fun i => listed.getD i false) →
      wpAny P .any l.toArray (low N Q) fuel listed a1 w1 := by
    have hfin : ∀ (listed : Array Bool) (a1 : Act) (e1 : Env) (w1 : World), Rep N a1 e1 → I (fun k => listed.getD k false) e1 w1 → (∀ i, i < l.length → listed.getD i false = true) → low N Q .normal a1 w1 :=
      fun listed a1 e1 w1 hr hI hall => ⟨e1, hr, hend _ e1 w1 hall hI⟩
    have hready : ∀ (listed : Array Bool), listed.size = l.length → Region.ready .any l.toArray listed = [] → ∀ i, i < l.length → listed.getD i false = true := by
      intro listed hsz hnil i
      induction i using Nat.strongRecOn with
      | _ i ih =>
        intro hi
        cases hli : listed.getD i false with
        | true => rfl
        | false =>
          exfalso
          have : i ∈ Region.ready .any l.toArray listed := by
            rw [mem_ready]
            refine ⟨?_, l[i], by simp [hi], fun ed hed hbd => ih ed.on (hback i _ (List.getElem?_eq_getElem hi) ed (mem_aft.2 ⟨hed, hbd⟩)) (by have := hback i _ (List.getElem?_eq_getElem hi) ed (mem_aft.2 ⟨hed, hbd⟩); omega)⟩
            rw [Array.getD_eq_getD_getElem?, Array.getElem?_eq_getElem (by omega)] at hli ⊢
            exact hli
          rw [hnil] at this
          cases this
    intro fuel
    induction fuel with
    | zero =>
      intro listed a1 e1 w1 hr hsz hcl hI hcnt
      have hall : ∀ i, i < l.length → listed.getD i false = true := by
        have h4 : (List.range l.length).countP (fun i => listed.getD i false) = (List.range l.length).length := by
          have := List.countP_le_length (p := fun i => listed.getD i false) (l := List.range l.length)
          simp at this hcnt ⊢; omega
        rw [List.countP_eq_length] at h4
        intro i hi
        exact h4 i (by simpa using hi)
      refine ⟨?_, hfin listed a1 e1 w1 hr hI hall⟩
      rw [List.eq_nil_iff_forall_not_mem]
      intro i hi
      obtain ⟨h5, o, ho, _⟩ := mem_ready.1 hi
      have hil : i < l.length := by
        rcases Nat.lt_or_ge i l.length with h | h
        · exact h
        · simp [List.getElem?_eq_none h] at ho
      have h6 := hall i hil
      rw [Array.getD_eq_getD_getElem?, Array.getElem?_eq_getElem (by omega)] at h5 h6
      simp at h5 h6
      rw [h5] at h6; cases h6
    | succ fuel ih =>
      intro listed a1 e1 w1 hr hsz hcl hI hcnt
      refine ⟨fun hnil => hfin listed a1 e1 w1 hr hI (hready listed hsz hnil), fun i hi => ?_⟩
      obtain ⟨hun, o, ho, haf⟩ := mem_ready.1 hi
      have ho' : l[i]? = some o := by simpa using ho
      have hil : i < l.length := (List.getElem?_eq_some_iff.1 ho').1
      have hrd : ∀ ed ∈ aft o, listed.getD ed.on false = true := fun ed hed => haf ed (mem_aft.1 hed).1 (mem_aft.1 hed).2
      have hun' : listed.getD i false = false := by
        have h5 := hun
        rw [Array.getD_eq_getD_getElem?, Array.getElem?_eq_getElem (by omega)] at h5 ⊢
        exact h5
      have hgs : ∀ k, (listed.setIfInBounds i true).getD k false = if k = i then true else listed.getD k false := by
        intro k
        rw [Array.getD_eq_getD_getElem?, Array.getElem?_setIfInBounds]
        by_cases hki : k = i
        · subst hki; rw [if_pos rfl, if_pos (by omega), if_pos rfl]; rfl
        · rw [if_neg (fun e => hki e.symm), if_neg hki, ← Array.getD_eq_getD_getElem?]
      have hS : (fun k => (listed.setIfInBounds i true).getD k false) = fun k => Nat.beq k i || listed.getD k false := by
        funext k
        rw [hgs]
        by_cases hki : k = i
        · subst hki; rw [if_pos rfl, Nat.beq_refl]; rfl
        · rw [if_neg hki]
          have : Nat.beq k i = false := by
            cases hb : Nat.beq k i with
            | false => rfl
            | true => exact absurd (Nat.eq_of_beq_eq_true hb) hki
          rw [this]; rfl
      have hst := hstep (fun k => listed.getD k false) i o e1 w1 ho' hun' hrd (fun k o' hk hok => hcl k o' hk hok) hI
      have hwl := hst.run a1 hr
      have hnext : ∀ a2 w2, (∃ e2, Rep N a2 e2 ∧ I (fun k => Nat.beq k i || listed.getD k false) e2 w2) → wpAny P .any l.toArray (low N Q) fuel (listed.setIfInBounds i true) a2 w2 := by
        intro a2 w2 ⟨e2, hr2, hI2⟩
        refine ih _ a2 e2 w2 hr2 (by simpa using hsz) (fun k o' hk hok ed hed => ?_) (by rw [hS]; exact hI2) ?_
        · rw [hgs]
          by_cases hei : ed.on = i
          · rw [if_pos hei]
          · rw [if_neg hei]
            by_cases hki : k = i
            · subst hki
              rw [ho'] at hok; cases hok
              exact hrd ed hed
            · rw [hgs, if_neg hki] at hk
              exact hcl k o' hk hok ed hed
        · have hcount : (List.range l.length).countP (fun k => (listed.setIfInBounds i true).getD k false) = (List.range l.length).countP (fun k => listed.getD k false) + 1 :=
            countP_one (fun k => listed.getD k false) (fun k => (listed.setIfInBounds i true).getD k false) i hun' hgs _ List.nodup_range (by simpa using hil)
          rw [hcount]; omega
      unfold wpOp
      rw [ho]
      unfold wpList at hwl
      show if _ then _ else _
      by_cases hw : Region.wanted o (yielded l.toArray a1.tmps) = true
      · rw [if_pos hw] at hwl ⊢
        rcases hwl with h5 | ⟨_, a0, w0, h5⟩
        · refine .inl (Oper.wp_conv h5 (fun a2 w2 hx => ?_) (fun x a w hx hq => hx hq.1))
          exact hnext a2 w2 hx.2
        · exact absurd h5.1 (by simp)
      · rw [if_neg hw] at hwl ⊢
        exact hnext _ _ hwl.2
  refine key l.length (Array.replicate l.length false) a e _ ha (by simp) (fun i o hi => ?_) (by
    have : (fun k => (Array.replicate l.length false).getD k false) = fun _ => false := by
      funext k
      rw [Array.getD_eq_getD_getElem?, Array.getElem?_replicate]
      split <;> rfl
    rw [this]; exact h0 _ ⟨⟨rfl, rfl, rfl, Nat.le_refl _, fun _ _ => rfl⟩, fun _ => Nat.le_add_right _ _⟩) (by omega)
  exfalso
  rw [Array.getD_eq_getD_getElem?, Array.getElem?_replicate] at hi
  split at hi <;> simp at hi
end
end Go.Proofs.Ytjpkmpihmilgoaa.Vc
/-
  The reference's coset enumeration, walked: a word closed at a coset. Conditions: as each states them.
-/
namespace Go.Proofs.Ytjpkmpihmilgoaa.Vc
open Go.RowKit

def closeW (x : PS) (d : Int) : List Int → Option (PS × Int × Int)
  | [] => none
  | [g] => some (x, d, g)
  | g :: g' :: r => match nextP x d g with
    | none => none
    | some (y, e) => closeW y e (g' :: r)
def closeP (x : PS) (c : Int) (ws : List Int) : Option PS :=
  match ws with
  | [] => some x
  | g :: r => match closeW x c (g :: r) with
    | none => none
    | some (y, d, g) => match imageP y d g, imageP y c g with
      | some e, some f => if 0 ≤ e then identP 100000 0 y [e] [c] else if 0 ≤ f then identP 100000 0 y [f] [d] else some ⟨setI (setI y.im d g c) c g d, y.ls⟩
      | _, _ => none

/-- how far the open statement is -/
structure Cl4 (w0 : World) (ks : List Ck) (Ab Ac Aw : Option Addr) (nw cw : Nat) (ws : List Int) (c d : Int) (i : Nat) (x : LS) (y : PS) (d' : Int) (S : Nat → Bool) (e : Env) (w : World) : Prop where
  f1 : e 1 = .int .i64 c
  f2 : e 2 = .slice Aw nw cw
  f3 : e 3 = .pointer Ab
  f6 : e 6 = .pointer Ac
  f7 : e 7 = .int .i64 d
  f8 : e 8 = .int .i64 (i : Int)
  p0 : S 0 = true → e 27 = x.val
  p1 : S 1 = true → e 28 = .int .i64 d
  p2 : S 2 = true → e 29 = .slice Aw nw cw
  p3 : S 3 = true → e 30 = .int .i64 (i : Int)
  p4 : S 4 = true → e 31 = .pointer (ptrAt Aw (i : Int).toNat)
  p5 : S 5 = true → e 32 = .int .i64 (gi ws (i : Int))
  mem : ∃ (X : LS) (bs : List Ck) (Ad : Option Addr), X.ok ∧ (S 6 = false → X = x) ∧ (S 6 = true → X.p = y ∧ e 33 = .tuple #[X.val, .int .i64 d']) ∧ (S 7 = true → e 26 = .tuple #[X.val, .int .i64 d']) ∧ (S 8 = true → e 34 = X.val) ∧ (S 9 = true → e 35 = .int .i64 d') ∧ (S 10 = false → bs = []) ∧
    (S 10 = true → e 9 = .pointer Ad ∧ ((S 11 = false ∧ bs = [Bx 72 3 Ad [.slice none 0 0, .slice none 0 0, .bool false]]) ∨ (S 11 = true ∧ bs = [Bx 72 3 Ad X.cells]))) ∧ (S 12 = true → e 10 = .int .i64 d') ∧
    St w0 w (bs ++ ([Bx 72 3 Ac [.slice none 0 0, .slice none 0 0, .bool false], Bx 72 3 Ab x.cells] ++ (X.cks ++ ks)))

theorem LS.back {w0 w : World} {bs pre ks : List Ck} {x : LS} (h : St w0 w (bs ++ (pre ++ (x.cks ++ ks)))) : St w0 w (x.cks ++ ((bs ++ pre) ++ ks)) := by
  rw [← List.append_assoc] at h
  exact h.toBack
theorem LS.front {w0 w : World} {pre ks : List Ck} {x : LS} (h : St w0 w (x.cks ++ (pre ++ ks))) : St w0 w (pre ++ (x.cks ++ ks)) := h.toBack
theorem LS.front2 {w0 w : World} {bs pre ks : List Ck} {x : LS} (h : St w0 w (x.cks ++ ((bs ++ pre) ++ ks))) : St w0 w (bs ++ (pre ++ (x.cks ++ ks))) := by
  have := h.toBack
  rwa [List.append_assoc] at this
theorem drop_two {l : List Int} {i : Nat} (h : i + 1 < l.length) : l.drop i = gi l (i : Int) :: gi l ((i + 1 : Nat) : Int) :: l.drop (i + 2) := by
  rw [List.drop_eq_getElem_cons (by omega), List.drop_eq_getElem_cons (i := i + 1) (by omega), gi_mem (by omega), gi_mem (by omega)]
theorem drop_one {l : List Int} {i : Nat} (h : i + 1 = l.length) : l.drop i = [gi l (i : Int)] := by
  rw [List.drop_eq_getElem_cons (by omega), gi_mem (by omega), List.drop_eq_nil_of_le (by omega)]

theorem l11Close_c {w0 w : World} {ks : List Ck} (x : LS) (c : Int) (Aw : Option Addr) (nw cw : Nat) (ws : List Int) (y : PS) (hok : x.ok) (hS : St w0 w (x.cks ++ ks)) (hW : ∀ w', St w0 w' ks → RdI w' Aw nw ws) (hnw : nw ≤ 1000000) (hp : closeP x.p c ws = some y) :
    Ret Try.prog 77 [x.val, .int .i64 c, .slice Aw nw cw] w (fun v w' => ∃ x' : LS, x'.ok ∧ x'.p = y ∧ v = x'.val ∧ St w0 w' (x'.cks ++ ks)) := by
  have hwl : ws.length = nw := (hW w (hS.sub (List.sublist_append_right _ _))).1
  refine Ret.of_cd Try.func77 rfl Try.ntmps77 rfl (postc rfl rfl) ?_
  refine Cd.seq ?_
  refine Cd.region ?_
  refine Ops.box3 hS rfl rfl ?_
  intro Ab w1 hS1
  skip
  refine Ops.new3 hS1 rfl ?_
  intro Ac w2 hS2
  have hS2 : St w0 w2 ([Bx 72 3 Ac [.slice none 0 0, .slice none 0 0, .bool false], Bx 72 3 Ab x.cells] ++ (x.cks ++ ks)) := hS2
  refine Ops.nil ?_
  refine thenQ_n ?_
  refine Cd.seq ?_
  refine Cd.seq ?_
  refine Cd.region ?_
  refine Ops.mv_sl rfl rfl rfl ?_
  refine Ops.len rfl rfl ?_
  refine Ops.eql rfl rfl rfl ?_
  refine Ops.nil ?_
  refine thenQ_n ?_
  refine Cd.cond_p _ rfl (fun h1 => ?_) (fun h1 => ?_)
  · have : ws = [] := List.eq_nil_of_length_eq_zero (by omega)
    subst this
    obtain rfl := Option.some.inj hp
    refine Cd.seq ?_
    refine Cd.region ?_
    refine Ops.ld_agg 2 (hS2.rd 1 rfl) rfl rfl rfl ?_
    skip
    refine Ops.st_agg 3 0 hS2 rfl rfl rfl rfl rfl rfl rfl ?_
    intro w3 hS3
    refine Ops.nil ?_
    refine thenQ_n ?_
    refine Cd.ret ?_
    refine thenQ_r ?_
    skip
    refine retc_r rfl (hS3.rd 0 rfl) ?_
    exact ⟨x, hok, rfl, rfl, (hS3.sub ((List.Sublist.refl _).cons _)).sub ((List.Sublist.refl _).cons _)⟩
  · obtain ⟨z, d', g', hcw, hfin⟩ : ∃ z d' g', closeW x.p c (ws.drop 0) = some (z, d', g') ∧ (match imageP z d' g', imageP z c g' with
      | some e, some f => if 0 ≤ e then identP 100000 0 z [e] [c] else if 0 ≤ f then identP 100000 0 z [f] [d'] else some ⟨setI (setI z.im d' g' c) c g' d', z.ls⟩
      | _, _ => none) = some y := by
      cases ws with
      | nil => exact absurd (by simpa using hwl.symm) (by omega)
      | cons a r =>
        simp only [closeP] at hp
        split at hp
        · cases hp
        · rename_i z d' g' hz
          exact ⟨z, d', g', hz, hp⟩
    clear hp
    refine Cd.skip ?_
    refine thenQ_n ?_
    refine Cd.seq ?_
    refine Cd.region ?_
    refine Ops.mv_int rfl rfl rfl ?_
    refine Ops.mv_int rfl rfl rfl ?_
    refine Ops.nil ?_
    refine thenQ_n ?_
    refine Cd.seq ?_
    refine Cd.seq ?_
    refine Cd.region ?_
    refine Ops.mv_int rfl rfl rfl ?_
    refine Ops.nil ?_
    refine thenQ_n ?_
    refine Cd.block ?_
    refine Cd.loop (α := Nat × LS × Int) (fun s => [(1, .int .i64 c), (2, .slice Aw nw cw), (3, .pointer Ab), (6, .pointer Ac), (7, .int .i64 s.2.2), (8, .int .i64 (s.1 : Int))]) (fun s w' => s.2.1.ok ∧ s.1 < nw ∧ closeW s.2.1.p s.2.2 (ws.drop s.1) = some (z, d', g') ∧ St w0 w' ([Bx 72 3 Ac [.slice none 0 0, .slice none 0 0, .bool false], Bx 72 3 Ab s.2.1.cells] ++ (s.2.1.cks ++ ks))) (fun s => nw - s.1) (0, x, c) ⟨rfl, rfl, rfl, rfl, rfl, rfl, trivial⟩ ⟨hok, by show 0 < nw; omega, hcw, hS2⟩ ?_
    rintro ⟨i, x, d⟩ e w3 ⟨hok, hi, hcw, hS3⟩
    dsimp only at hok hi hcw hS3 ⊢
    refine Cd.seq ?_
    refine Cd.seq ?_
    refine Cd.region ?_
    refine Ops.mv_int rfl rfl rfl ?_
    refine Ops.add rfl rfl rfl (by omega) ?_
    refine Ops.mv_sl rfl rfl rfl ?_
    refine Ops.len rfl rfl ?_
    refine Ops.lss rfl rfl rfl ?_
    refine Ops.nil ?_
    refine thenQ_n ?_
    refine Cd.cond_p _ rfl (fun h2 => ?_) (fun h2 => ?_)
    · rw [drop_two (by omega)] at hcw
      simp only [closeW] at hcw
      split at hcw
      case h_1 => cases hcw
      rename_i y1 d1 hn
      refine Cd.skip ?_
      refine thenQ_n ?_
      refine Cd.seq ?_
      refine Cd.block ?_
      refine Cd.seq ?_
      refine Cd.drawS (by kernel_rfl) (by kernel_rfl) (fun S e1 w1 => Cl4 w0 ks Ab Ac Aw nw cw ws c d i x y1 d1 S e1 w1) (fun w4 hb => ⟨rfl, rfl, rfl, rfl, rfl, rfl, fun h => (nomatch h), fun h => (nomatch h), fun h => (nomatch h), fun h => (nomatch h), fun h => (nomatch h), fun h => (nomatch h), x, [], none, hok, fun _ => rfl, fun h => (nomatch h), fun h => (nomatch h), fun h => (nomatch h), fun h => (nomatch h), fun _ => rfl, fun h => (nomatch h), fun h => (nomatch h), hS3.later hb⟩) ?_ ?_
      · intro S k o e1 w4 hk hSk hd hcl hI
        obtain ⟨f1, f2, f3, f6, f7, f8, p0, p1, p2, p3, p4, p5, X, bs, Ad, m0, m1, m2, m3, m4, m5, m6, m7, m8, hT⟩ := hI
        have hRw : RdI w4 Aw nw ws := hW w4 (((hT.sub (List.sublist_append_right _ _)).sub (List.sublist_append_right _ _)).sub (List.sublist_append_right _ _))
        match k, hk, hSk with
        | 0, hk, hSk =>
          obtain rfl := Option.some.inj hk
          refine Ops.ld_agg 2 ((hT.sub (List.sublist_append_right bs _)).rd 1 rfl) (by exact f3) rfl rfl ?_
          refine Ops.nil ?_
          exact ⟨f1, f2, f3, f6, f7, f8, fun _ => rfl, p1, p2, p3, p4, p5, X, bs, Ad, m0, m1, m2, m3, m4, m5, m6, m7, m8, hT⟩
        | 1, hk, hSk =>
          obtain rfl := Option.some.inj hk
          refine Ops.mv_int rfl (by exact f7) rfl ?_
          refine Ops.nil ?_
          exact ⟨f1, f2, f3, f6, f7, f8, p0, fun _ => rfl, p2, p3, p4, p5, X, bs, Ad, m0, m1, m2, m3, m4, m5, m6, m7, m8, hT⟩
        | 2, hk, hSk =>
          obtain rfl := Option.some.inj hk
          refine Ops.mv_sl rfl (by exact f2) rfl ?_
          refine Ops.nil ?_
          exact ⟨f1, f2, f3, f6, f7, f8, p0, p1, fun _ => rfl, p3, p4, p5, X, bs, Ad, m0, m1, m2, m3, m4, m5, m6, m7, m8, hT⟩
        | 3, hk, hSk =>
          obtain rfl := Option.some.inj hk
          refine Ops.mv_int rfl (by exact f8) rfl ?_
          refine Ops.nil ?_
          exact ⟨f1, f2, f3, f6, f7, f8, p0, p1, p2, fun _ => rfl, p4, p5, X, bs, Ad, m0, m1, m2, m3, m4, m5, m6, m7, m8, hT⟩
        | 4, hk, hSk =>
          obtain rfl := Option.some.inj hk
          refine Ops.idx hRw.2 (by exact p2 (deps_of hd 2 rfl)) (by exact p3 (deps_of hd 3 rfl)) rfl (by omega) (by omega) ?_
          refine Ops.nil ?_
          exact ⟨f1, f2, f3, f6, f7, f8, p0, p1, p2, p3, fun _ => rfl, p5, X, bs, Ad, m0, m1, m2, m3, m4, m5, m6, m7, m8, hT⟩
        | 5, hk, hSk =>
          obtain rfl := Option.some.inj hk
          refine Ops.ld_int hRw (by exact p4 (deps_of hd 4 rfl)) (by omega) rfl rfl ?_
          refine Ops.nil ?_
          exact ⟨f1, f2, f3, f6, f7, f8, p0, p1, p2, p3, p4, fun _ => rfl, X, bs, Ad, m0, m1, m2, m3, m4, m5, m6, m7, m8, hT⟩
        | 6, hk, hSk =>
          obtain rfl := Option.some.inj hk
          obtain rfl := m1 hSk
          have n7 : S 7 = false := by
            cases h : S 7 with
            | false => rfl
            | true => rw [← hSk]; exact (deps_of (hcl 7 _ h rfl) 6 rfl).symm
          have n8 : S 8 = false := by
            cases h : S 8 with
            | false => rfl
            | true => rw [← n7]; exact (deps_of (hcl 8 _ h rfl) 7 rfl).symm
          have n9 : S 9 = false := by
            cases h : S 9 with
            | false => rfl
            | true => rw [← n7]; exact (deps_of (hcl 9 _ h rfl) 7 rfl).symm
          have n11 : S 11 = false := by
            cases h : S 11 with
            | false => rfl
            | true => rw [← hSk]; exact (deps_of (hcl 11 _ h rfl) 6 rfl).symm
          have n12 : S 12 = false := by
            cases h : S 12 with
            | false => rfl
            | true => rw [← n11]; exact (deps_of (hcl 12 _ h rfl) 11 rfl).symm
          refine Ops.call (l11Next_c X d (gi ws (i : Int)) y1 d1 m0 (LS.back hT) hn) rfl (by show [e1 27, e1 28, e1 32] = _; rw [p0 (deps_of hd 0 rfl), p1 (deps_of hd 1 rfl), p5 (deps_of hd 5 rfl)]) rfl ?_
          rintro _ w5 ⟨x', hok', hp', rfl, hT'⟩
          refine Ops.nil ?_
          refine ⟨f1, f2, f3, f6, f7, f8, p0, p1, p2, p3, p4, p5, x', bs, Ad, hok', fun h => (nomatch (show true = false from h)), fun _ => ⟨hp', rfl⟩, fun h => ?_, fun h => ?_, fun h => ?_, m6, fun h => ?_, fun h => ?_, LS.front2 hT'⟩
          · exact (nomatch n7.symm.trans h)
          · exact (nomatch n8.symm.trans h)
          · exact (nomatch n9.symm.trans h)
          · obtain ⟨h9, h10⟩ := m7 h
            refine ⟨h9, .inl ⟨n11, ?_⟩⟩
            rcases h10 with h10 | h10
            · exact h10.2
            · exact (nomatch n11.symm.trans h10.1)
          · exact (nomatch n12.symm.trans h)
        | 7, hk, hSk =>
          obtain rfl := Option.some.inj hk
          refine Ops.mv_tup rfl (by exact (m2 (deps_of hd 6 rfl)).2) rfl ?_
          refine Ops.nil ?_
          exact ⟨f1, f2, f3, f6, f7, f8, p0, p1, p2, p3, p4, p5, X, bs, Ad, m0, m1, m2, fun _ => rfl, m4, m5, m6, m7, m8, hT⟩
        | 8, hk, hSk =>
          obtain rfl := Option.some.inj hk
          refine Ops.extract (by exact m3 (deps_of hd 7 rfl)) rfl rfl ?_
          refine Ops.nil ?_
          exact ⟨f1, f2, f3, f6, f7, f8, p0, p1, p2, p3, p4, p5, X, bs, Ad, m0, m1, m2, m3, fun _ => rfl, m5, m6, m7, m8, hT⟩
        | 9, hk, hSk =>
          obtain rfl := Option.some.inj hk
          refine Ops.extract (by exact m3 (deps_of hd 7 rfl)) rfl rfl ?_
          refine Ops.nil ?_
          exact ⟨f1, f2, f3, f6, f7, f8, p0, p1, p2, p3, p4, p5, X, bs, Ad, m0, m1, m2, m3, m4, fun _ => rfl, m6, m7, m8, hT⟩
        | 10, hk, hSk =>
          obtain rfl := Option.some.inj hk
          obtain rfl := m6 hSk
          have n11 : S 11 = false := by
            cases h : S 11 with
            | false => rfl
            | true => rw [← hSk]; exact (deps_of (hcl 11 _ h rfl) 10 rfl).symm
          refine Ops.new3 hT rfl ?_
          intro Ae w5 hT5
          refine Ops.nil ?_
          exact ⟨f1, f2, f3, f6, f7, f8, p0, p1, p2, p3, p4, p5, X, [Bx 72 3 Ae [.slice none 0 0, .slice none 0 0, .bool false]], Ae, m0, m1, m2, m3, m4, m5, fun h => (nomatch (show true = false from h)), fun _ => ⟨rfl, .inl ⟨n11, rfl⟩⟩, m8, hT5⟩
        | 11, hk, hSk =>
          obtain rfl := Option.some.inj hk
          have hs10 := deps_of hd 10 rfl
          obtain ⟨h9, h10⟩ := m7 hs10
          rcases h10 with ⟨_, rfl⟩ | h10
          · refine Ops.st_agg 3 0 hT rfl (by exact h9) (by exact m4 (deps_of hd 8 rfl)) rfl rfl rfl rfl ?_
            intro w5 hT5
            refine Ops.nil ?_
            exact ⟨f1, f2, f3, f6, f7, f8, p0, p1, p2, p3, p4, p5, X, [Bx 72 3 Ad X.cells], Ad, m0, m1, m2, m3, m4, m5, fun h => (nomatch hs10.symm.trans h), fun _ => ⟨h9, .inr ⟨rfl, rfl⟩⟩, m8, hT5⟩
          · exact (nomatch hSk.symm.trans h10.1)
        | 12, hk, hSk =>
          obtain rfl := Option.some.inj hk
          refine Ops.mv_int rfl (by exact m5 (deps_of hd 9 rfl)) rfl ?_
          refine Ops.nil ?_
          exact ⟨f1, f2, f3, f6, f7, f8, p0, p1, p2, p3, p4, p5, X, bs, Ad, m0, m1, m2, m3, m4, m5, m6, m7, fun _ => rfl, hT⟩
        | q + 13, hk, _ => exact (nomatch hk)
      · intro S e1 w4 hall hI
        obtain ⟨f1, f2, f3, f6, f7, f8, p0, p1, p2, p3, p4, p5, X, bs, Ad, m0, m1, m2, m3, m4, m5, m6, m7, m8, hT⟩ := hI
        obtain ⟨h9, h10⟩ := m7 (hall 10 (by decide))
        rcases h10 with h10 | ⟨_, rfl⟩
        · exact (nomatch (hall 11 (by decide)).symm.trans h10.1)
        have hy1 := (m2 (hall 6 (by decide))).1
        refine thenQ_ext (F := [(1, .int .i64 c), (2, .slice Aw nw cw), (3, .pointer Ab), (6, .pointer Ac), (7, .int .i64 d), (8, .int .i64 (i : Int)), (9, .pointer Ad), (10, .int .i64 d1)]) ⟨f1, f2, f3, f6, f7, f8, h9, m8 (hall 12 (by decide)), trivial⟩ ?_
        refine thenQ_n ?_
        refine Cd.seq ?_
        refine Cd.region ?_
        refine Ops.ld_agg 2 (hT.rd 0 rfl) rfl rfl rfl ?_
        skip
        refine Ops.st_agg 3 2 hT rfl rfl rfl rfl rfl rfl rfl ?_
        intro w5 hT5
        have hT5 : St w0 w5 (Bx 72 3 Ad X.cells :: ([Bx 72 3 Ac [.slice none 0 0, .slice none 0 0, .bool false], Bx 72 3 Ab X.cells] ++ (X.cks ++ ks))) := hT5
        have hT6 := hT5.tail
        refine Ops.nil ?_
        refine thenQ_n ?_
        refine Cd.seq ?_
        refine Cd.region ?_
        refine Ops.mv_int rfl rfl rfl ?_
        refine Ops.mv_int rfl rfl rfl ?_
        refine Ops.nil ?_
        refine thenQ_n ?_
        refine Cd.seq ?_
        refine Cd.region ?_
        refine Ops.fld (hT6.rd 1 rfl) rfl rfl rfl rfl inferInstance ?_
        refine Ops.ldf_b (hT6.rd 1 rfl) rfl rfl rfl rfl rfl ?_
        refine Ops.nil ?_
        refine thenQ_n ?_
        refine Cd.cond_f rfl ?_
        refine Cd.skip ?_
        refine blockQ_n ?_
        refine thenQ_n ?_
        refine Cd.region ?_
        refine Ops.mv_int rfl rfl rfl ?_
        refine Ops.add rfl rfl rfl (by omega) ?_
        refine Ops.mv_int rfl rfl rfl ?_
        refine Ops.nil ?_
        refine thenQ_n ?_
        refine ⟨(i + 1, X, d1), by show nw - (i + 1) < nw - i; omega, ⟨rfl, rfl, rfl, rfl, rfl, rfl, trivial⟩, m0, by show i + 1 < nw; omega, ?_, hT6⟩
        show closeW X.p d1 (ws.drop (i + 1)) = _
        rw [hy1, List.drop_eq_getElem_cons (by omega), ← gi_mem (by omega)]
        exact hcw
    · rw [drop_one (by omega)] at hcw
      have hcw := Option.some.inj hcw
      simp only [Prod.mk.injEq] at hcw
      obtain ⟨rfl, rfl, rfl⟩ := hcw
      have hRw : RdI w3 Aw nw ws := hW w3 ((hS3.sub (List.sublist_append_right _ _)).sub (List.sublist_append_right _ _))
      split at hfin
      case h_2 => cases hfin
      rename_i a b ha hb0
      have hI3 := LS.rowsI hok hS3
      have hR3 := LS.rdI hS3
      refine Cd.exit ?_
      refine thenQ_x ?_
      refine thenQ_x ?_
      refine blockQ_x ?_
      refine thenQ_n ?_
      refine Cd.seq ?_
      refine Cd.region ?_
      refine Ops.mv_sl rfl rfl rfl ?_
      refine Ops.mv_sl rfl rfl rfl ?_
      refine Ops.len rfl rfl ?_
      refine Ops.sub rfl rfl rfl (by omega) ?_
      refine Ops.idx hRw.2 rfl rfl rfl (by omega) (by omega) ?_
      have hin : ((nw : Nat) : Int) - 1 = (i : Nat) := by omega
      refine Ops.ld_int hRw rfl (by omega) rfl rfl ?_
      rw [hin]
      generalize gi ws (i : Int) = g at *
      refine Ops.mv_int rfl rfl rfl ?_
      refine Ops.nil ?_
      refine thenQ_n ?_
      refine Cd.seq ?_
      refine Cd.draw [.ex (.agg #[.slice (x.A) (x.n) (x.c), .slice (x.B) (x.m) (x.cB), .bool (false)]), .ex (.int .i64 (d)), .ex (.int .i64 (g)), .ex (.int .i64 (a)), .ex (.agg #[.slice (x.A) (x.n) (x.c), .slice (x.B) (x.m) (x.cB), .bool (false)]), .ex (.int .i64 (c)), .ex (.int .i64 (g)), .ex (.int .i64 (b)), .ex (.int .i64 (a)), .ex (.int .i64 (b))] (by kernel_rfl) (by kernel_rfl) rfl (List.forall_mem_cons.2 ⟨Yd.lasts_ex _, (List.forall_mem_cons.2 ⟨Yd.lasts_ex _, (List.forall_mem_cons.2 ⟨Yd.lasts_ex _, (List.forall_mem_cons.2 ⟨Yd.lasts_ex _, (List.forall_mem_cons.2 ⟨Yd.lasts_ex _, (List.forall_mem_cons.2 ⟨Yd.lasts_ex _, (List.forall_mem_cons.2 ⟨Yd.lasts_ex _, (List.forall_mem_cons.2 ⟨Yd.lasts_ex _, (List.forall_mem_cons.2 ⟨Yd.lasts_ex _, (List.forall_mem_cons.2 ⟨Yd.lasts_ex _, (fun _ h => by cases h)⟩)⟩)⟩)⟩)⟩)⟩)⟩)⟩)⟩)⟩) ⟨?_, ?_, ?_, ?_, ?_, ?_, ?_, ?_, ?_, ?_, trivial⟩ ?_
      · intro e1 w1 hb hp hun
        refine Ops.ld_agg 2 ((hS3.rd 1 rfl).below hb) rfl rfl rfl ?_
        refine Ops.nil ?_
        exact After.dn (Below.refl _ _) (by exact rfl)
      · intro e1 w1 hb hp hun
        refine Ops.mv_int rfl rfl rfl ?_
        refine Ops.nil ?_
        exact After.dn (Below.refl _ _) (by exact rfl)
      · intro e1 w1 hb hp hun
        refine Ops.mv_int rfl rfl rfl ?_
        refine Ops.nil ?_
        exact After.dn (Below.refl _ _) (by exact rfl)
      · intro e1 w1 hb hp hun
        refine Ops.call (l11Image_c x.rs x.im x.ls d g a _ (hI3.later hb) (hR3.later hb) ha) rfl rfl rfl ?_
        rintro _ w2 ⟨rfl, hst⟩
        refine Ops.nil ?_
        exact After.dn hst.below (by exact rfl)
      · intro e1 w1 hb hp hun
        refine Ops.ld_agg 2 ((hS3.rd 1 rfl).below hb) rfl rfl rfl ?_
        refine Ops.nil ?_
        exact After.dn (Below.refl _ _) (by exact rfl)
      · intro e1 w1 hb hp hun
        refine Ops.mv_int rfl rfl rfl ?_
        refine Ops.nil ?_
        exact After.dn (Below.refl _ _) (by exact rfl)
      · intro e1 w1 hb hp hun
        refine Ops.mv_int rfl rfl rfl ?_
        refine Ops.nil ?_
        exact After.dn (Below.refl _ _) (by exact rfl)
      · intro e1 w1 hb hp hun
        refine Ops.call (l11Image_c x.rs x.im x.ls c g b _ (hI3.later hb) (hR3.later hb) hb0) rfl rfl rfl ?_
        rintro _ w2 ⟨rfl, hst⟩
        refine Ops.nil ?_
        exact After.dn hst.below (by exact rfl)
      · intro e1 w1 hb hp hun
        refine Ops.mv_int rfl rfl rfl ?_
        refine Ops.nil ?_
        exact After.dn (Below.refl _ _) (by exact rfl)
      · intro e1 w1 hb hp hun
        refine Ops.mv_int rfl rfl rfl ?_
        refine Ops.nil ?_
        exact After.dn (Below.refl _ _) (by exact rfl)
      intro u w4 hb4 _
      have hS4 := hS3.later hb4
      refine thenQ_n ?_
      refine Cd.seq ?_
      refine Cd.block ?_
      refine Cd.seq ?_
      refine Cd.region ?_
      refine Ops.mv_int rfl rfl rfl ?_
      refine Ops.geq rfl rfl rfl ?_
      refine Ops.mv_bool rfl rfl rfl ?_
      refine Ops.nil ?_
      refine thenQ_n ?_
      refine Cd.cond_p _ rfl (fun h3 => ?_) (fun h3 => ?_)
      · rw [if_pos h3] at hfin
        refine Cd.seq ?_
        refine Cd.region ?_
        refine Ops.ld_agg 2 (hS4.rd 1 rfl) rfl rfl rfl ?_
        refine Ops.mv_int rfl rfl rfl ?_
        refine Ops.mv_int rfl rfl rfl ?_
        refine Ops.call (l11Identify_c x a c y 100000 hok (hS4.toBack (pre := [_, _])) hfin) rfl rfl rfl ?_
        rintro _ w5 ⟨x', hok', hp', rfl, hT⟩
        have hT := hT.toBack
        refine Ops.st_agg 3 0 hT rfl rfl rfl rfl rfl rfl rfl ?_
        intro w6 hT6
        refine Ops.nil ?_
        refine thenQ_n ?_
        refine Cd.ret ?_
        refine blockQ_r ?_
        refine thenQ_r ?_
        skip
        refine retc_r rfl (hT6.rd 0 rfl) ?_
        exact ⟨x', hok', hp', rfl, (hT6.sub ((List.Sublist.refl _).cons _)).sub ((List.Sublist.refl _).cons _)⟩
      · rw [if_neg h3] at hfin
        refine Cd.seq ?_
        refine Cd.region ?_
        refine Ops.mv_int rfl rfl rfl ?_
        refine Ops.geq rfl rfl rfl ?_
        refine Ops.mv_bool rfl rfl rfl ?_
        refine Ops.nil ?_
        refine thenQ_n ?_
        refine Cd.cond_p _ rfl (fun h4 => ?_) (fun h4 => ?_)
        · rw [if_pos h4] at hfin
          refine Cd.seq ?_
          refine Cd.region ?_
          refine Ops.ld_agg 2 (hS4.rd 1 rfl) rfl rfl rfl ?_
          refine Ops.mv_int rfl rfl rfl ?_
          refine Ops.mv_int rfl rfl rfl ?_
          refine Ops.call (l11Identify_c x b d y 100000 hok (hS4.toBack (pre := [_, _])) hfin) rfl rfl rfl ?_
          rintro _ w5 ⟨x', hok', hp', rfl, hT⟩
          have hT := hT.toBack
          refine Ops.st_agg 3 0 hT rfl rfl rfl rfl rfl rfl rfl ?_
          intro w6 hT6
          refine Ops.nil ?_
          refine thenQ_n ?_
          refine Cd.ret ?_
          refine blockQ_r ?_
          refine thenQ_r ?_
          skip
          refine retc_r rfl (hT6.rd 0 rfl) ?_
          exact ⟨x', hok', hp', rfl, (hT6.sub ((List.Sublist.refl _).cons _)).sub ((List.Sublist.refl _).cons _)⟩
        · rw [if_neg h4] at hfin
          obtain rfl := Option.some.inj hfin
          have bd : ∀ {z : PS} {c g r : Int}, imageP z c g = some r → 0 ≤ c ∧ c < (z.im.length : Int) ∧ 0 ≤ g ∧ g < ((gl z.im c).length : Int) := fun {z c g r} h => by
            unfold imageP at h
            split at h
            case isFalse => cases h
            rename_i h'; exact h'
          have b1 := bd ha
          have b2 := bd hb0
          have b1 : 0 ≤ d ∧ d < (x.im.length : Int) ∧ 0 ≤ g ∧ g < ((gl x.im d).length : Int) := b1
          have b2 : 0 ≤ c ∧ c < (x.im.length : Int) ∧ 0 ≤ g ∧ g < ((gl x.im c).length : Int) := b2
          have hxn := hok.2.1
          have hxr := hok.1
          obtain ⟨dN, rfl⟩ : ∃ q : Nat, d = q := ⟨d.toNat, by omega⟩
          obtain ⟨cN, rfl⟩ : ∃ q : Nat, c = q := ⟨c.toNat, by omega⟩
          have hI4 := LS.rowsI hok hS4
          have hrd := hI4.at_ (i := (dN : Int)) (by omega) (by omega)
          have hrd1 := hrd.1
          have hS5 : St w0 w4 ([Bx 72 3 Ac [.slice none 0 0, .slice none 0 0, .bool false], Bx 72 3 Ab x.cells, CkI 2 x.B x.m x.cB x.ls] ++ (mat 36 2 x.A x.n x.c x.rs x.im ++ ks)) := hS4
          refine Cd.skip ?_
          refine blockQ_n ?_
          refine thenQ_n ?_
          refine Cd.seq ?_
          refine Cd.region ?_
          refine Ops.fld (hS4.rd 1 rfl) rfl rfl rfl rfl inferInstance ?_
          refine Ops.ldf_s (hS4.rd 1 rfl) rfl rfl rfl rfl rfl ?_
          refine Ops.mv_int rfl rfl rfl ?_
          refine Ops.idx hI4.top.2 rfl rfl rfl (by omega) (by omega) ?_
          refine Ops.ld_sl hI4.top rfl (by omega) rfl rfl ?_
          refine Ops.mv_int rfl rfl rfl ?_
          refine Ops.mv_int rfl rfl rfl ?_
          refine Ops.idx hrd.2 rfl rfl rfl (by omega) (by omega) ?_
          skip
          refine Ops.st_row dN hS5 (by omega) (by omega) rfl rfl (by omega) ?_
          intro w6 hT6
          have hok6 : ({ x with im := x.im.set dN ((gl x.im (dN : Int)).set g.toNat (cN : Int)) } : LS).ok := ⟨hok.1, by show (x.im.set _ _).length = _; rw [List.length_set]; exact hok.2.1, hok.2.2⟩
          generalize hx6 : ({ x with im := x.im.set dN ((gl x.im (dN : Int)).set g.toNat (cN : Int)) } : LS) = x6 at hok6
          have hA6 : x6.A = x.A ∧ x6.n = x.n ∧ x6.c = x.c ∧ x6.rs = x.rs ∧ x6.B = x.B ∧ x6.m = x.m ∧ x6.cB = x.cB ∧ x6.ls = x.ls ∧ x6.im = x.im.set dN ((gl x.im (dN : Int)).set g.toNat (cN : Int)) := by subst hx6; exact ⟨rfl, rfl, rfl, rfl, rfl, rfl, rfl, rfl, rfl⟩
          obtain ⟨q1, q2, q3, q4, q5, q6, q7, q8, q9⟩ := hA6
          have hT6' : St w0 w6 ([Bx 72 3 Ac [.slice none 0 0, .slice none 0 0, .bool false], Bx 72 3 Ab x.cells] ++ (x6.cks ++ ks)) := by
            show St w0 w6 ([Bx _ 3 Ac _, Bx _ 3 Ab x.cells] ++ ((CkI _ x6.B x6.m x6.cB x6.ls :: mat _ _ x6.A x6.n x6.c x6.rs x6.im) ++ ks))
            rw [q1, q2, q3, q4, q5, q6, q7, q8, q9]
            exact hT6
          have hI6 := LS.rowsI hok6 hT6'
          have hrow6 := hI6.at_ (i := (cN : Int)) (by omega) (by omega)
          have eg6 : (gl x6.im (cN : Int)).length = (gl x.im (cN : Int)).length := by
            rw [q9, gl_set (by omega)]
            split
            · rename_i e; subst e; rw [List.length_set]
            · rfl
          have hr6 : (rg x6.rs (cN : Int)).n = (gl x.im (cN : Int)).length := by rw [← hrow6.1, eg6]
          refine Ops.nil ?_
          refine thenQ_n ?_
          refine Cd.seq ?_
          refine Cd.region ?_
          refine Ops.fld (hT6'.rd 1 rfl) rfl rfl rfl rfl inferInstance ?_
          refine Ops.ldf_s (hT6'.rd 1 rfl) rfl rfl rfl rfl rfl ?_
          refine Ops.mv_int rfl rfl rfl ?_
          rw [q1, q2, q4] at hI6
          rw [q4] at hrow6 hr6
          refine Ops.idx hI6.top.2 rfl rfl rfl (by omega) (by omega) ?_
          refine Ops.ld_sl hI6.top rfl (by omega) rfl rfl ?_
          refine Ops.mv_int rfl rfl rfl ?_
          refine Ops.mv_int rfl rfl rfl ?_
          refine Ops.idx hrow6.2 rfl rfl rfl (by omega) (by omega) ?_
          skip
          have hT7 : St w0 w6 ([Bx 72 3 Ac [.slice none 0 0, .slice none 0 0, .bool false], Bx 72 3 Ab x.cells, CkI 2 x.B x.m x.cB x.ls] ++ (mat 36 2 x.A x.n x.c x.rs x6.im ++ ks)) := by
            rw [q9]; exact hT6
          refine Ops.st_row cN hT7 (by rw [q9, List.length_set]; omega) (by omega) rfl rfl (by omega) ?_
          intro w8 hT8
          refine Ops.nil ?_
          refine thenQ_n ?_
          refine Cd.seq ?_
          refine Cd.region ?_
          refine Ops.ld_agg 2 (hT8.rd 1 rfl) rfl rfl rfl ?_
          skip
          refine Ops.st_agg 3 0 hT8 rfl rfl rfl rfl rfl rfl rfl ?_
          intro w9 hT9
          refine Ops.nil ?_
          refine thenQ_n ?_
          refine Cd.ret ?_
          skip
          refine retc_r rfl (hT9.rd 0 rfl) ?_
          refine ⟨{ x with im := x6.im.set cN ((gl x6.im (cN : Int)).set g.toNat (dN : Int)) }, ⟨hok.1, by show (x6.im.set _ _).length = _; rw [List.length_set, q9, List.length_set]; exact hok.2.1, hok.2.2⟩, ?_, rfl, (hT9.sub ((List.Sublist.refl _).cons _)).sub ((List.Sublist.refl _).cons _)⟩
          show (⟨x6.im.set cN ((gl x6.im (cN : Int)).set g.toNat (dN : Int)), x.ls⟩ : PS) = _
          rw [q9]
          rfl
end Go.Proofs.Ytjpkmpihmilgoaa.Vc
/-
  The reference's coset enumeration, walked: the procedure. Conditions: as each states them.
-/
namespace Go.Proofs.Ytjpkmpihmilgoaa.Vc
open Go.RowKit

def runRel (c : Int) : PS → List (List Int) → Option PS
  | x, [] => some x
  | x, w :: r => if 0 ≤ c ∧ c < (x.ls.length : Int) then (if gi x.ls c = c then (match closeP x c w with | none => none | some y => runRel c y r) else some x) else none
def runGen (c : Int) (gens : Nat) : Nat → Nat → PS → Option PS
  | 0, _, _ => none
  | k + 1, g, x => if g < gens then (if 0 ≤ c ∧ c < (x.ls.length : Int) then (if gi x.ls c = c then (match nextP x c (g : Int) with | none => none | some (y, _) => runGen c gens k (g + 1) y) else some x) else none) else some x
def runC (gens : Nat) (rel : List (List Int)) : Nat → Nat → PS → Option PS
  | 0, _, _ => none
  | k + 1, c, x => if c < x.ls.length then (match runRel (c : Int) x rel with | none => none | some y => match runGen (c : Int) gens 100 0 y with | none => none | some z => runC gens rel k (c + 1) z) else some x
def runP (gens : Nat) (rel : List (List Int)) : Option PS :=
  match defP ⟨[], []⟩ gens with
  | none => none
  | some x => runC gens rel 3000 0 x

section
variable {P : Program} {N : Nat} {ops : Array Oper} {K : Env → World → Prop} {rest : List Oper} {e : Env} {w0 w w' : World} {ks : List Ck} {d : Nat} {ty : TypeId} {pos : String} {af : Array Edge}
theorem Ops.bld000 {t : TypeId} {f0 f1 f2 : Field} {z0 z1 z2 y0 y1 y2 : Value} {b b0 b1 b2 : Nat} [Und P t (.struct #[f0, f1, f2])] [Inf P t (.agg #[z0, z1, z2]) 3 b] (hI0 : Inf P f0.type y0 1 b0) (hI1 : Inf P f1.type y1 1 b1) (hI2 : Inf P f2.type y2 1 b2) (ho : f0.offset = 0) (ho1 : f1.offset = 1) (ho2 : f2.offset = 2) (hb : Nat.blt d N = true)
    (hK : Ops P N ops K rest (upd e d (.agg #[z0, z1, z2])) w) : Ops P N ops K (⟨some d, .build t #[], ty, pos, af, none⟩ :: rest) e w := by
  obtain ⟨inf, hi, hz0, hs, hby⟩ := Inf.get P t
  obtain ⟨inf0, hi0, _, hs0, _⟩ := hI0.get P f0.type
  obtain ⟨inf1, hi1, _, hs1, _⟩ := hI1.get P f1.type
  obtain ⟨inf2, hi2, _, hs2, _⟩ := hI2.get P f2.type
  have ez : (Value.agg #[z0, z1, z2]).cells = #[z0, z1, z2] := rfl
  refine .val (w' := w) ?_ hb hK
  simp [execOp, Instr.build, run_underlying (Und.out (P := P) (t := t)), sizeOf, typeInfo, zeroValue, hi, hz0, hi0, hs0, hi1, hs1, hi2, hs2, ez, Instr.fill]
end

theorem l11Run_c (gens : Nat) (Ar : Option Addr) (nr cr : Nat) (rsr : List SlV) (rel : List (List Int)) (A0 : Option Addr) (c0 : Nat) (y : PS) (w : World) (hR : RowsI w Ar nr rsr rel) (hrel : ∀ x ∈ rel, x.length ≤ 1000000) (hnr : nr ≤ 1000000) (hp : runP gens rel = some y) :
    Ret Try.prog 62 [.agg #[.int .i64 (gens : Int), .slice Ar nr cr], .slice A0 0 c0] w (fun v w' => ∃ x' : LS, x'.ok ∧ x'.p = y ∧ v = x'.val ∧ St w w' x'.cks) := by
  have hrl := hR.len
  unfold runP at hp
  split at hp
  case h_1 => cases hp
  rename_i x1 hx1
  refine Ret.of_cd Try.func62 rfl Try.ntmps62 rfl (postc rfl rfl) ?_
  refine Cd.seq ?_
  refine Cd.region ?_
  refine Ops.box2 (St.refl w) rfl rfl ?_
  intro A2 w1 hS1
  skip
  refine Ops.new3 hS1 rfl ?_
  intro A4 w2 hS2
  refine Ops.nil ?_
  refine thenQ_n ?_
  refine Cd.seq ?_
  refine Cd.region ?_
  refine Ops.bld000 (by exact inferInstance) (by exact inferInstance) (by exact inferInstance) rfl rfl rfl rfl ?_
  refine Ops.fld (hS2.rd 1 rfl) rfl rfl rfl rfl inferInstance ?_
  refine Ops.ldf_i (hS2.rd 1 rfl) rfl rfl rfl rfl rfl ?_
  skip
  refine Ops.call (l11Define_c ⟨none, 0, 0, [], [], none, 0, 0, []⟩ gens x1 ⟨rfl, rfl, rfl⟩ ((hS2.nil _).nil _) hx1) rfl rfl rfl ?_
  rintro _ w3 ⟨X, hok, hXp, rfl, hT⟩
  have hT := LS.front (pre := [Bx 72 3 A4 [.slice none 0 0, .slice none 0 0, .bool false], Bx 42 2 A2 [.int .i64 (gens : Int), .slice Ar nr cr]]) (ks := []) hT
  refine Ops.mv_tup rfl rfl rfl ?_
  refine Ops.extract rfl rfl rfl ?_
  refine Ops.extract rfl rfl rfl ?_
  refine Ops.new3 hT rfl ?_
  intro A5 w4 hS4
  skip
  refine Ops.st_agg 3 0 hS4 rfl rfl rfl rfl rfl rfl rfl ?_
  intro w5 hS5
  have hS5 : St w w5 ([Bx 72 3 A5 X.cells, Bx 72 3 A4 [.slice none 0 0, .slice none 0 0, .bool false], Bx 42 2 A2 [.int .i64 (gens : Int), .slice Ar nr cr]] ++ (X.cks ++ [])) := hS5
  refine Ops.mv_int rfl rfl rfl ?_
  refine Ops.nil ?_
  refine thenQ_n ?_
  refine Cd.seq ?_
  refine Cd.seq ?_
  refine Cd.region ?_
  refine Ops.mv_int rfl rfl rfl ?_
  refine Ops.nil ?_
  refine thenQ_n ?_
  refine Cd.block ?_
  refine Cd.loop (α := Unit) (fun _ => [(1, .slice A0 0 c0), (2, .pointer A2), (4, .pointer A4), (5, .pointer A5), (7, .int .i64 0)]) (fun _ w' => w' = w5) (fun _ => 0) () ⟨rfl, rfl, rfl, rfl, rfl, trivial⟩ rfl ?_
  rintro ⟨⟩ e w6 rfl
  refine Cd.seq ?_
  refine Cd.seq ?_
  refine Cd.region ?_
  refine Ops.mv_int rfl rfl rfl ?_
  refine Ops.mv_sl rfl rfl rfl ?_
  refine Ops.len rfl rfl ?_
  refine Ops.lss rfl rfl rfl ?_
  refine Ops.mv_bool rfl rfl rfl ?_
  refine Ops.split_p 24 rfl (fun h => absurd h (by decide)) (fun _ => ?_) --f
  refine Ops.skipg rfl rfl rfl rfl rfl ?_
  refine Ops.skipg rfl rfl rfl rfl rfl ?_
  refine Ops.skipg rfl rfl rfl rfl rfl ?_
  refine Ops.pick_f rfl rfl rfl ?_
  refine Ops.nil ?_
  refine thenQ_n ?_
  refine Cd.cond_f rfl ?_
  refine Cd.exit ?_
  refine thenQ_x ?_
  refine thenQ_x ?_
  refine blockQ_x ?_
  refine thenQ_n ?_
  refine Cd.seq ?_
  refine Cd.seq ?_
  refine Cd.region ?_
  refine Ops.mv_int rfl rfl rfl ?_
  refine Ops.nil ?_
  refine thenQ_n ?_
  refine Cd.block ?_
  refine Cd.loop (α := Nat × Nat × LS) (fun s => [(2, .pointer A2), (4, .pointer A4), (5, .pointer A5), (8, .int .i64 (s.2.1 : Int))]) (fun s w' => s.2.2.ok ∧ runC gens rel s.1 s.2.1 s.2.2.p = some y ∧ s.1 + s.2.1 = 3000 ∧ St w w' ([Bx 72 3 A5 s.2.2.cells, Bx 72 3 A4 [.slice none 0 0, .slice none 0 0, .bool false], Bx 42 2 A2 [.int .i64 (gens : Int), .slice Ar nr cr]] ++ (s.2.2.cks ++ []))) (fun s => s.1) (3000, 0, X) ⟨rfl, rfl, rfl, rfl, trivial⟩ ⟨hok, by rw [hXp]; exact hp, rfl, hS5⟩ ?_
  rintro ⟨k, c, X⟩ e w7 ⟨hok, hc, hkc, hS7⟩
  dsimp only at hok hc hkc hS7 ⊢
  obtain ⟨q, rfl⟩ : ∃ q, k = q + 1 := by cases k with | zero => cases hc | succ q => exact ⟨q, rfl⟩
  have hc : (if c < X.ls.length then (match runRel (c : Int) X.p rel with | none => none | some y => match runGen (c : Int) gens 100 0 y with | none => none | some z => runC gens rel q (c + 1) z) else some X.p) = some y := hc
  have hXm : X.ls.length = X.m := hok.2.2
  refine Cd.seq ?_
  refine Cd.seq ?_
  refine Cd.region ?_
  refine Ops.mv_int rfl rfl rfl ?_
  refine Ops.fld (hS7.rd 0 rfl) rfl rfl rfl rfl inferInstance ?_
  refine Ops.ldf_s (hS7.rd 0 rfl) rfl rfl rfl rfl rfl ?_
  refine Ops.len rfl rfl ?_
  refine Ops.lss rfl rfl rfl ?_
  refine Ops.mv_bool rfl rfl rfl ?_
  refine Ops.split_p 42 rfl (fun h1 => ?_) (fun h1 => ?_)
  · rw [if_pos (by omega)] at hc
    split at hc
    case h_1 => cases hc
    rename_i y1 hy1
    split at hc
    case h_1 => cases hc
    rename_i z1 hz1
    refine Ops.rung rfl rfl rfl ?_
    refine Ops.fld (hS7.rd 0 rfl) rfl rfl rfl rfl inferInstance ?_
    refine Ops.rung rfl rfl rfl ?_
    refine Ops.ldf_b (hS7.rd 0 rfl) rfl rfl rfl rfl rfl ?_
    refine Ops.rung rfl rfl rfl ?_
    first | refine Ops.not_p rfl rfl ?_ | refine Ops.not rfl rfl ?_
    refine Ops.pick_t rfl rfl rfl ?_
    refine Ops.nil ?_
    refine thenQ_n ?_
    refine Cd.cond_t rfl ?_
    refine Cd.skip ?_
    refine thenQ_n ?_
    refine Cd.seq ?_
    refine Cd.block ?_
    refine Cd.seq ?_
    refine Cd.seq ?_
    refine Cd.region ?_
    refine Ops.mv_int rfl rfl rfl ?_
    refine Ops.nil ?_
    refine thenQ_n ?_
    refine Cd.block ?_
    refine Cd.loop (α := Nat × LS) (fun s => [(2, .pointer A2), (4, .pointer A4), (5, .pointer A5), (8, .int .i64 (c : Int)), (9, .int .i64 (s.1 : Int))]) (fun s w' => s.2.ok ∧ s.1 ≤ nr ∧ runRel (c : Int) s.2.p (rel.drop s.1) = some y1 ∧ St w w' ([Bx 72 3 A5 s.2.cells, Bx 72 3 A4 [.slice none 0 0, .slice none 0 0, .bool false], Bx 42 2 A2 [.int .i64 (gens : Int), .slice Ar nr cr]] ++ (s.2.cks ++ []))) (fun s => nr - s.1) (0, X) ⟨rfl, rfl, rfl, rfl, rfl, trivial⟩ ⟨hok, Nat.zero_le _, hy1, hS7⟩ ?_
    rintro ⟨i, X⟩ e w8 ⟨hok, hi, hrr, hS8⟩
    dsimp only at hok hi hrr hS8 ⊢
    have hRR := hS8.oldRows hR
    have hXm : X.ls.length = X.m := hok.2.2
    have hRl : RdI w8 X.B X.m X.ls := LS.rdI hS8
    refine Cd.seq ?_
    refine Cd.seq ?_
    refine Cd.region ?_
    refine Ops.mv_int rfl rfl rfl ?_
    refine Ops.fld (hS8.rd 2 rfl) rfl rfl rfl rfl inferInstance ?_
    refine Ops.ldf_s (hS8.rd 2 rfl) rfl rfl rfl rfl rfl ?_
    refine Ops.len rfl rfl ?_
    refine Ops.lss rfl rfl rfl ?_
    refine Ops.mv_bool rfl rfl rfl ?_
    refine Ops.split_p 54 rfl (fun h2 => ?_) (fun h2 => ?_)
    · have hir : i < rel.length := by omega
      have hdr : rel.drop i = gl rel (i : Int) :: rel.drop (i + 1) := by rw [List.drop_eq_getElem_cons hir, gl_mem hir]
      rw [hdr] at hrr
      have hrr : (if 0 ≤ (c : Int) ∧ (c : Int) < (X.ls.length : Int) then (if gi X.ls c = c then (match closeP X.p c (gl rel (i : Int)) with | none => none | some y => runRel c y (rel.drop (i + 1))) else some X.p) else none) = some y1 := hrr
      split at hrr
      case isFalse => cases hrr
      rename_i hcb
      refine Ops.rung rfl rfl rfl ?_
      refine Ops.fld (hS8.rd 0 rfl) rfl rfl rfl rfl inferInstance ?_
      refine Ops.rung rfl rfl rfl ?_
      refine Ops.ldf_s (hS8.rd 0 rfl) rfl rfl rfl rfl rfl ?_
      refine Ops.rung rfl rfl rfl ?_
      refine Ops.mv_int rfl rfl rfl ?_
      refine Ops.rung rfl rfl rfl ?_
      refine Ops.idx hRl.2 rfl rfl rfl (by omega) (by omega) ?_
      refine Ops.rung rfl rfl rfl ?_
      refine Ops.ld_int hRl rfl (by omega) rfl rfl ?_
      refine Ops.rung rfl rfl rfl ?_
      refine Ops.mv_int rfl rfl rfl ?_
      refine Ops.rung rfl rfl rfl ?_
      refine Ops.eql rfl rfl rfl ?_
      refine Ops.pick_t rfl rfl rfl ?_
      refine Ops.mv_bool rfl rfl rfl ?_
      refine Ops.split_p 63 rfl (fun h3 => ?_) (fun h3 => ?_)
      · rw [if_pos h3] at hrr
        split at hrr
        case h_1 => cases hrr
        rename_i y2 hcl
        have hrow := hR.at_ (i := (i : Int)) (by omega) (by omega)
        have hrn : (rg rsr (i : Int)).n ≤ 1000000 := by
          rw [← hrow.1, gl_mem hir]; exact hrel _ (List.getElem_mem hir)
        refine Ops.rung rfl rfl rfl ?_
        refine Ops.fld (hS8.rd 0 rfl) rfl rfl rfl rfl inferInstance ?_
        refine Ops.rung rfl rfl rfl ?_
        refine Ops.ldf_b (hS8.rd 0 rfl) rfl rfl rfl rfl rfl ?_
        refine Ops.rung rfl rfl rfl ?_
        first | refine Ops.not_p rfl rfl ?_ | refine Ops.not rfl rfl ?_
        refine Ops.pick_t rfl rfl rfl ?_
        refine Ops.nil ?_
        refine thenQ_n ?_
        refine Cd.cond_t rfl ?_
        refine Cd.skip ?_
        refine thenQ_n ?_
        refine Cd.seq ?_
        refine Cd.block ?_
        refine Cd.drawN [7, 8] [.ex (.agg #[.slice (X.A) (X.n) (X.c), .slice (X.B) (X.m) (X.cB), .bool (false)]), .ex (.int .i64 ((c : Int))), .ex (.pointer (ptrAt (A2) 1)), .ex (.slice (Ar) (nr) (cr)), .ex (.int .i64 ((i : Int))), .ex (.pointer (ptrAt (Ar) ((i : Int)).toNat)), .ex (.slice ((rg (rsr) ((i : Int))).a) ((rg (rsr) ((i : Int))).n) ((rg (rsr) ((i : Int))).c)), .pr (fun v w' => ∃ x' : LS, v = x'.val ∧ LSt w [Bx 72 3 A5 X.cells, Bx 72 3 A4 [.slice none 0 0, .slice none 0 0, .bool false], Bx 42 2 A2 [.int .i64 (gens : Int), .slice Ar nr cr]] [] y2 x' w'), .pr (fun _ w' => ∃ x' : LS, LSt w [Bx 72 3 A5 x'.cells, Bx 72 3 A4 [.slice none 0 0, .slice none 0 0, .bool false], Bx 42 2 A2 [.int .i64 (gens : Int), .slice Ar nr cr]] [] y2 x' w')] (by kernel_rfl) (by kernel_rfl) (List.forall_mem_cons.2 ⟨Yd.lasts_ex _, (List.forall_mem_cons.2 ⟨Yd.lasts_ex _, (List.forall_mem_cons.2 ⟨Yd.lasts_ex _, (List.forall_mem_cons.2 ⟨Yd.lasts_ex _, (List.forall_mem_cons.2 ⟨Yd.lasts_ex _, (List.forall_mem_cons.2 ⟨Yd.lasts_ex _, (List.forall_mem_cons.2 ⟨Yd.lasts_ex _, (List.forall_mem_cons.2 ⟨Yd.lasts_pr (fun v w w' h hb => by obtain ⟨x', hv, h1, h2, h3⟩ := h; exact ⟨x', hv, h1, h2, h3.later hb⟩), (List.forall_mem_cons.2 ⟨Yd.lasts_pr (fun v w w' h hb => by obtain ⟨x', h1, h2, h3⟩ := h; exact ⟨x', h1, h2, h3.later hb⟩), (fun _ h => by cases h)⟩)⟩)⟩)⟩)⟩)⟩)⟩)⟩)⟩) ⟨?_, ?_, ?_, ?_, ?_, ?_, ?_, ?_, ?_, trivial⟩ ?_
        · intro e1 w1 cc hlo hhi hb0 hp hun hq
          show Ops _ _ _ _ _ _ _
          replace hlo := le_of_lo hlo (b := 0) (by kernel_rfl)
          replace hhi := le_of_hi hhi (b := 0) (by kernel_rfl)
          obtain rfl : cc = 0 := by omega
          have hb := hb0 rfl
          refine Ops.ld_agg 2 ((hS8.rd 0 rfl).below hb) rfl rfl rfl ?_
          refine Ops.nil ?_
          exact AfterN.dn rfl (Below.refl _ _) (by exact rfl)
        · intro e1 w1 cc hlo hhi hb0 hp hun hq
          show Ops _ _ _ _ _ _ _
          refine Ops.mv_int rfl rfl rfl ?_
          refine Ops.nil ?_
          exact AfterN.dn rfl (Below.refl _ _) (by exact rfl)
        · intro e1 w1 cc hlo hhi hb0 hp hun hq
          show Ops _ _ _ _ _ _ _
          replace hlo := le_of_lo hlo (b := 0) (by kernel_rfl)
          replace hhi := le_of_hi hhi (b := 0) (by kernel_rfl)
          obtain rfl : cc = 0 := by omega
          have hb := hb0 rfl
          refine Ops.fld ((hS8.rd 2 rfl).below hb) rfl rfl rfl rfl inferInstance ?_
          refine Ops.nil ?_
          exact AfterN.dn rfl (Below.refl _ _) (by exact rfl)
        · intro e1 w1 cc hlo hhi hb0 hp hun hq
          show Ops _ _ _ _ _ _ _
          replace hlo := le_of_lo hlo (b := 0) (by kernel_rfl)
          replace hhi := le_of_hi hhi (b := 0) (by kernel_rfl)
          obtain rfl : cc = 0 := by omega
          have hb := hb0 rfl
          refine Ops.ldf_s ((hS8.rd 2 rfl).below hb) rfl rfl rfl rfl rfl ?_
          refine Ops.nil ?_
          exact AfterN.dn rfl (Below.refl _ _) (by exact rfl)
        · intro e1 w1 cc hlo hhi hb0 hp hun hq
          show Ops _ _ _ _ _ _ _
          refine Ops.mv_int rfl rfl rfl ?_
          refine Ops.nil ?_
          exact AfterN.dn rfl (Below.refl _ _) (by exact rfl)
        · intro e1 w1 cc hlo hhi hb0 hp hun hq
          show Ops _ _ _ _ _ _ _
          replace hlo := le_of_lo hlo (b := 0) (by kernel_rfl)
          replace hhi := le_of_hi hhi (b := 0) (by kernel_rfl)
          obtain rfl : cc = 0 := by omega
          have hb := hb0 rfl
          refine Ops.idx (hRR.top.later hb).2 rfl rfl rfl (by omega) (by omega) ?_
          refine Ops.nil ?_
          exact AfterN.dn rfl (Below.refl _ _) (by exact rfl)
        · intro e1 w1 cc hlo hhi hb0 hp hun hq
          show Ops _ _ _ _ _ _ _
          replace hlo := le_of_lo hlo (b := 0) (by kernel_rfl)
          replace hhi := le_of_hi hhi (b := 0) (by kernel_rfl)
          obtain rfl : cc = 0 := by omega
          have hb := hb0 rfl
          refine Ops.ld_sl (hRR.top.later hb) rfl (by omega) rfl rfl ?_
          refine Ops.nil ?_
          exact AfterN.dn rfl (Below.refl _ _) (by exact rfl)
        · intro e1 w1 cc hlo hhi hb0 hp hun hq
          show Ops _ _ _ _ _ _ _
          replace hlo := le_of_lo hlo (b := 0) (by kernel_rfl)
          replace hhi := le_of_hi hhi (b := 0) (by kernel_rfl)
          obtain rfl : cc = 0 := by omega
          have hb := hb0 rfl
          refine Ops.call (l11Close_c X (c : Int) _ _ (rg rsr (i : Int)).c (gl rel (i : Int)) y2 hok ((hS8.later (hb0 rfl)).toBack (pre := [_, _, _])) (fun w' h => h.oldI hrow) hrn hcl) rfl rfl rfl ?_
          rintro _ w4 ⟨x', hok', hp', rfl, hT⟩
          refine Ops.nil ?_
          exact AfterT.dn rfl ⟨x', rfl, hok', hp', hT.toBack⟩
        · intro e1 w1 cc hlo hhi hb0 hp hun hq
          show Ops _ _ _ _ _ _ _
          replace hlo := le_of_lo hlo (b := 1) (by kernel_rfl)
          replace hhi := le_of_hi hhi (b := 1) (by kernel_rfl)
          obtain rfl : cc = 1 := by omega
          have hph := hp 7 _ _ (by kernel_rfl) rfl rfl (by kernel_rfl)
          obtain ⟨x', hv, h1, h2, h3⟩ := (hp 7 _ _ (by kernel_rfl) rfl rfl (by kernel_rfl))
          refine Ops.st_agg 3 0 h3 rfl rfl (by exact hv) rfl rfl rfl rfl ?_
          intro w11 hT11
          refine Ops.nil ?_
          exact AfterT.st rfl ⟨x', h1, h2, hT11⟩
        intro u w9 _ hu
        obtain ⟨x', hok', hp', hT⟩ := hu 8 _ rfl (by kernel_rfl)
        refine blockQ_n ?_
        refine thenQ_n ?_
        refine Cd.region ?_
        refine Ops.mv_int rfl rfl rfl ?_
        refine Ops.add rfl rfl rfl (by omega) ?_
        refine Ops.mv_int rfl rfl rfl ?_
        refine Ops.nil ?_
        refine thenQ_n ?_
        exact ⟨(i + 1, x'), by show nr - (i + 1) < nr - i; omega, ⟨rfl, rfl, rfl, rfl, rfl, trivial⟩, hok', by show i + 1 ≤ nr; omega, by rw [hp']; exact hrr, hT⟩
      · rw [if_neg h3] at hrr
        have hrr := Option.some.inj hrr
        refine Ops.skipg rfl rfl rfl rfl rfl ?_
        refine Ops.skipg rfl rfl rfl rfl rfl ?_
        refine Ops.skipg rfl rfl rfl rfl rfl ?_
        refine Ops.pick_f rfl rfl rfl ?_
        refine Ops.nil ?_
        refine thenQ_n ?_
        refine Cd.cond_f rfl ?_
        refine Cd.exit ?_
        refine thenQ_x ?_
        refine thenQ_x ?_
        refine blockQ_x ?_
        refine thenQ_n ?_
        refine Cd.seq ?_
        refine Cd.region ?_
        refine Ops.mv_int rfl rfl rfl ?_
        refine Ops.nil ?_
        refine thenQ_n ?_
        refine Cd.block ?_
        refine Cd.loop (α := Nat × Nat × LS) (fun s => [(2, .pointer A2), (4, .pointer A4), (5, .pointer A5), (8, .int .i64 (c : Int)), (10, .int .i64 (s.2.1 : Int))]) (fun s w' => s.2.2.ok ∧ runGen (c : Int) gens s.1 s.2.1 s.2.2.p = some z1 ∧ s.1 + s.2.1 = 100 ∧ St w w' ([Bx 72 3 A5 s.2.2.cells, Bx 72 3 A4 [.slice none 0 0, .slice none 0 0, .bool false], Bx 42 2 A2 [.int .i64 (gens : Int), .slice Ar nr cr]] ++ (s.2.2.cks ++ []))) (fun s => s.1) (100, 0, X) ⟨rfl, rfl, rfl, rfl, rfl, trivial⟩ ⟨hok, by rw [hrr]; exact hz1, rfl, hS8⟩ ?_
        rintro ⟨k, g, X⟩ e w9 ⟨hok, hgg, hkg, hS9⟩
        dsimp only at hok hgg hkg hS9 ⊢
        obtain ⟨r, rfl⟩ : ∃ q, k = q + 1 := by cases k with | zero => cases hgg | succ q => exact ⟨q, rfl⟩
        have hgg : (if g < gens then (if 0 ≤ (c : Int) ∧ (c : Int) < (X.ls.length : Int) then (if gi X.ls c = c then (match nextP X.p c (g : Int) with | none => none | some (y, _) => runGen c gens r (g + 1) y) else some X.p) else none) else some X.p) = some z1 := hgg
        have hXm : X.ls.length = X.m := hok.2.2
        have hRl : RdI w9 X.B X.m X.ls := LS.rdI hS9
        refine Cd.seq ?_
        refine Cd.seq ?_
        refine Cd.region ?_
        refine Ops.mv_int rfl rfl rfl ?_
        refine Ops.fld (hS9.rd 2 rfl) rfl rfl rfl rfl inferInstance ?_
        refine Ops.ldf_i (hS9.rd 2 rfl) rfl rfl rfl rfl rfl ?_
        refine Ops.lss rfl rfl rfl ?_
        refine Ops.mv_bool rfl rfl rfl ?_
        refine Ops.split_p 82 rfl (fun h4 => ?_) (fun h4 => ?_)
        · rw [if_pos (by omega)] at hgg
          split at hgg
          case isFalse => cases hgg
          rename_i hcb2
          refine Ops.rung rfl rfl rfl ?_
          refine Ops.fld (hS9.rd 0 rfl) rfl rfl rfl rfl inferInstance ?_
          refine Ops.rung rfl rfl rfl ?_
          refine Ops.ldf_s (hS9.rd 0 rfl) rfl rfl rfl rfl rfl ?_
          refine Ops.rung rfl rfl rfl ?_
          refine Ops.mv_int rfl rfl rfl ?_
          refine Ops.rung rfl rfl rfl ?_
          refine Ops.idx hRl.2 rfl rfl rfl (by omega) (by omega) ?_
          refine Ops.rung rfl rfl rfl ?_
          refine Ops.ld_int hRl rfl (by omega) rfl rfl ?_
          refine Ops.rung rfl rfl rfl ?_
          refine Ops.mv_int rfl rfl rfl ?_
          refine Ops.rung rfl rfl rfl ?_
          refine Ops.eql rfl rfl rfl ?_
          refine Ops.pick_t rfl rfl rfl ?_
          refine Ops.mv_bool rfl rfl rfl ?_
          refine Ops.split_p 91 rfl (fun h5 => ?_) (fun h5 => ?_)
          · rw [if_pos h5] at hgg
            split at hgg
            case h_1 => cases hgg
            rename_i y3 d3 hnx
            refine Ops.rung rfl rfl rfl ?_
            refine Ops.fld (hS9.rd 0 rfl) rfl rfl rfl rfl inferInstance ?_
            refine Ops.rung rfl rfl rfl ?_
            refine Ops.ldf_b (hS9.rd 0 rfl) rfl rfl rfl rfl rfl ?_
            refine Ops.rung rfl rfl rfl ?_
            first | refine Ops.not_p rfl rfl ?_ | refine Ops.not rfl rfl ?_
            refine Ops.pick_t rfl rfl rfl ?_
            refine Ops.nil ?_
            refine thenQ_n ?_
            refine Cd.cond_t rfl ?_
            refine Cd.skip ?_
            refine thenQ_n ?_
            refine Cd.seq ?_
            refine Cd.block ?_
            refine Cd.seq ?_
            refine Cd.region ?_
            refine Ops.ld_agg 2 (hS9.rd 0 rfl) rfl rfl rfl ?_
            refine Ops.mv_int rfl rfl rfl ?_
            refine Ops.mv_int rfl rfl rfl ?_
            refine Ops.call (l11Next_c X (c : Int) (g : Int) y3 d3 hok (hS9.toBack (pre := [_, _, _])) hnx) rfl rfl rfl ?_
            rintro _ w10 ⟨x', hok', hp', rfl, hT⟩
            have hT := hT.toBack
            refine Ops.mv_tup rfl rfl rfl ?_
            refine Ops.extract rfl rfl rfl ?_
            refine Ops.extract rfl rfl rfl ?_
            refine Ops.new3 hT rfl ?_
            intro A11 w11 hT11
            skip
            refine Ops.st_agg 3 0 hT11 rfl rfl rfl rfl rfl rfl rfl ?_
            intro w12 hT12
            refine Ops.mv_int rfl rfl rfl ?_
            refine Ops.nil ?_
            refine thenQ_n ?_
            refine Cd.region ?_
            refine Ops.ld_agg 2 (hT12.rd 0 rfl) rfl rfl rfl ?_
            skip
            refine Ops.st_agg 3 1 hT12 rfl rfl rfl rfl rfl rfl rfl ?_
            intro w13 hT13
            refine Ops.nil ?_
            refine blockQ_n ?_
            refine thenQ_n ?_
            refine Cd.region ?_
            refine Ops.mv_int rfl rfl rfl ?_
            refine Ops.add rfl rfl rfl (by omega) ?_
            refine Ops.mv_int rfl rfl rfl ?_
            refine Ops.nil ?_
            refine thenQ_n ?_
            exact ⟨(r, g + 1, x'), Nat.lt_succ_self r, ⟨rfl, rfl, rfl, rfl, rfl, trivial⟩, hok', by rw [hp']; exact hgg, by show r + (g + 1) = 100; omega, hT13.tail⟩
          · rw [if_neg h5] at hgg
            have hgg := Option.some.inj hgg
            refine Ops.skipg rfl rfl rfl rfl rfl ?_
            refine Ops.skipg rfl rfl rfl rfl rfl ?_
            refine Ops.skipg rfl rfl rfl rfl rfl ?_
            refine Ops.pick_f rfl rfl rfl ?_
            refine Ops.nil ?_
            refine thenQ_n ?_
            refine Cd.cond_f rfl ?_
            refine Cd.exit ?_
            refine thenQ_x ?_
            refine thenQ_x ?_
            refine blockQ_x ?_
            refine blockQ_n ?_
            refine thenQ_n ?_
            refine Cd.region ?_
            refine Ops.mv_int rfl rfl rfl ?_
            refine Ops.add rfl rfl rfl (by omega) ?_
            refine Ops.mv_int rfl rfl rfl ?_
            refine Ops.nil ?_
            refine thenQ_n ?_
            exact ⟨(q, c + 1, X), Nat.lt_succ_self q, ⟨rfl, rfl, rfl, rfl, trivial⟩, hok, by rw [hgg]; exact hc, by show q + (c + 1) = 3000; omega, hS9⟩
        · rw [if_neg (by omega)] at hgg
          have hgg := Option.some.inj hgg
          refine Ops.skipg rfl rfl rfl rfl rfl ?_
          refine Ops.skipg rfl rfl rfl rfl rfl ?_
          refine Ops.skipg rfl rfl rfl rfl rfl ?_
          refine Ops.skipg rfl rfl rfl rfl rfl ?_
          refine Ops.skipg rfl rfl rfl rfl rfl ?_
          refine Ops.skipg rfl rfl rfl rfl rfl ?_
          refine Ops.skipg rfl rfl rfl rfl rfl ?_
          refine Ops.pick_f rfl rfl rfl ?_
          refine Ops.mv_bool rfl rfl rfl ?_
          refine Ops.skipg rfl rfl rfl rfl rfl ?_
          refine Ops.skipg rfl rfl rfl rfl rfl ?_
          refine Ops.skipg rfl rfl rfl rfl rfl ?_
          refine Ops.pick_f rfl rfl rfl ?_
          refine Ops.nil ?_
          refine thenQ_n ?_
          refine Cd.cond_f rfl ?_
          refine Cd.exit ?_
          refine thenQ_x ?_
          refine thenQ_x ?_
          refine blockQ_x ?_
          refine blockQ_n ?_
          refine thenQ_n ?_
          refine Cd.region ?_
          refine Ops.mv_int rfl rfl rfl ?_
          refine Ops.add rfl rfl rfl (by omega) ?_
          refine Ops.mv_int rfl rfl rfl ?_
          refine Ops.nil ?_
          refine thenQ_n ?_
          exact ⟨(q, c + 1, X), Nat.lt_succ_self q, ⟨rfl, rfl, rfl, rfl, trivial⟩, hok, by rw [hgg]; exact hc, by show q + (c + 1) = 3000; omega, hS9⟩
    · have hir : rel.drop i = [] := List.drop_eq_nil_of_le (by omega)
      rw [hir] at hrr
      have hrr : some X.p = some y1 := hrr
      have hrr := Option.some.inj hrr
      refine Ops.skipg rfl rfl rfl rfl rfl ?_
      refine Ops.skipg rfl rfl rfl rfl rfl ?_
      refine Ops.skipg rfl rfl rfl rfl rfl ?_
      refine Ops.skipg rfl rfl rfl rfl rfl ?_
      refine Ops.skipg rfl rfl rfl rfl rfl ?_
      refine Ops.skipg rfl rfl rfl rfl rfl ?_
      refine Ops.skipg rfl rfl rfl rfl rfl ?_
      refine Ops.pick_f rfl rfl rfl ?_
      refine Ops.mv_bool rfl rfl rfl ?_
      refine Ops.skipg rfl rfl rfl rfl rfl ?_
      refine Ops.skipg rfl rfl rfl rfl rfl ?_
      refine Ops.skipg rfl rfl rfl rfl rfl ?_
      refine Ops.pick_f rfl rfl rfl ?_
      refine Ops.nil ?_
      refine thenQ_n ?_
      refine Cd.cond_f rfl ?_
      refine Cd.exit ?_
      refine thenQ_x ?_
      refine thenQ_x ?_
      refine blockQ_x ?_
      refine thenQ_n ?_
      refine Cd.seq ?_
      refine Cd.region ?_
      refine Ops.mv_int rfl rfl rfl ?_
      refine Ops.nil ?_
      refine thenQ_n ?_
      refine Cd.block ?_
      refine Cd.loop (α := Nat × Nat × LS) (fun s => [(2, .pointer A2), (4, .pointer A4), (5, .pointer A5), (8, .int .i64 (c : Int)), (10, .int .i64 (s.2.1 : Int))]) (fun s w' => s.2.2.ok ∧ runGen (c : Int) gens s.1 s.2.1 s.2.2.p = some z1 ∧ s.1 + s.2.1 = 100 ∧ St w w' ([Bx 72 3 A5 s.2.2.cells, Bx 72 3 A4 [.slice none 0 0, .slice none 0 0, .bool false], Bx 42 2 A2 [.int .i64 (gens : Int), .slice Ar nr cr]] ++ (s.2.2.cks ++ []))) (fun s => s.1) (100, 0, X) ⟨rfl, rfl, rfl, rfl, rfl, trivial⟩ ⟨hok, by rw [hrr]; exact hz1, rfl, hS8⟩ ?_
      rintro ⟨k, g, X⟩ e w9 ⟨hok, hgg, hkg, hS9⟩
      dsimp only at hok hgg hkg hS9 ⊢
      obtain ⟨r, rfl⟩ : ∃ q, k = q + 1 := by cases k with | zero => cases hgg | succ q => exact ⟨q, rfl⟩
      have hgg : (if g < gens then (if 0 ≤ (c : Int) ∧ (c : Int) < (X.ls.length : Int) then (if gi X.ls c = c then (match nextP X.p c (g : Int) with | none => none | some (y, _) => runGen c gens r (g + 1) y) else some X.p) else none) else some X.p) = some z1 := hgg
      have hXm : X.ls.length = X.m := hok.2.2
      have hRl : RdI w9 X.B X.m X.ls := LS.rdI hS9
      refine Cd.seq ?_
      refine Cd.seq ?_
      refine Cd.region ?_
      refine Ops.mv_int rfl rfl rfl ?_
      refine Ops.fld (hS9.rd 2 rfl) rfl rfl rfl rfl inferInstance ?_
      refine Ops.ldf_i (hS9.rd 2 rfl) rfl rfl rfl rfl rfl ?_
      refine Ops.lss rfl rfl rfl ?_
      refine Ops.mv_bool rfl rfl rfl ?_
      refine Ops.split_p 82 rfl (fun h4 => ?_) (fun h4 => ?_)
      · rw [if_pos (by omega)] at hgg
        split at hgg
        case isFalse => cases hgg
        rename_i hcb2
        refine Ops.rung rfl rfl rfl ?_
        refine Ops.fld (hS9.rd 0 rfl) rfl rfl rfl rfl inferInstance ?_
        refine Ops.rung rfl rfl rfl ?_
        refine Ops.ldf_s (hS9.rd 0 rfl) rfl rfl rfl rfl rfl ?_
        refine Ops.rung rfl rfl rfl ?_
        refine Ops.mv_int rfl rfl rfl ?_
        refine Ops.rung rfl rfl rfl ?_
        refine Ops.idx hRl.2 rfl rfl rfl (by omega) (by omega) ?_
        refine Ops.rung rfl rfl rfl ?_
        refine Ops.ld_int hRl rfl (by omega) rfl rfl ?_
        refine Ops.rung rfl rfl rfl ?_
        refine Ops.mv_int rfl rfl rfl ?_
        refine Ops.rung rfl rfl rfl ?_
        refine Ops.eql rfl rfl rfl ?_
        refine Ops.pick_t rfl rfl rfl ?_
        refine Ops.mv_bool rfl rfl rfl ?_
        refine Ops.split_p 91 rfl (fun h5 => ?_) (fun h5 => ?_)
        · rw [if_pos h5] at hgg
          split at hgg
          case h_1 => cases hgg
          rename_i y3 d3 hnx
          refine Ops.rung rfl rfl rfl ?_
          refine Ops.fld (hS9.rd 0 rfl) rfl rfl rfl rfl inferInstance ?_
          refine Ops.rung rfl rfl rfl ?_
          refine Ops.ldf_b (hS9.rd 0 rfl) rfl rfl rfl rfl rfl ?_
          refine Ops.rung rfl rfl rfl ?_
          first | refine Ops.not_p rfl rfl ?_ | refine Ops.not rfl rfl ?_
          refine Ops.pick_t rfl rfl rfl ?_
          refine Ops.nil ?_
          refine thenQ_n ?_
          refine Cd.cond_t rfl ?_
          refine Cd.skip ?_
          refine thenQ_n ?_
          refine Cd.seq ?_
          refine Cd.block ?_
          refine Cd.seq ?_
          refine Cd.region ?_
          refine Ops.ld_agg 2 (hS9.rd 0 rfl) rfl rfl rfl ?_
          refine Ops.mv_int rfl rfl rfl ?_
          refine Ops.mv_int rfl rfl rfl ?_
          refine Ops.call (l11Next_c X (c : Int) (g : Int) y3 d3 hok (hS9.toBack (pre := [_, _, _])) hnx) rfl rfl rfl ?_
          rintro _ w10 ⟨x', hok', hp', rfl, hT⟩
          have hT := hT.toBack
          refine Ops.mv_tup rfl rfl rfl ?_
          refine Ops.extract rfl rfl rfl ?_
          refine Ops.extract rfl rfl rfl ?_
          refine Ops.new3 hT rfl ?_
          intro A11 w11 hT11
          skip
          refine Ops.st_agg 3 0 hT11 rfl rfl rfl rfl rfl rfl rfl ?_
          intro w12 hT12
          refine Ops.mv_int rfl rfl rfl ?_
          refine Ops.nil ?_
          refine thenQ_n ?_
          refine Cd.region ?_
          refine Ops.ld_agg 2 (hT12.rd 0 rfl) rfl rfl rfl ?_
          skip
          refine Ops.st_agg 3 1 hT12 rfl rfl rfl rfl rfl rfl rfl ?_
          intro w13 hT13
          refine Ops.nil ?_
          refine blockQ_n ?_
          refine thenQ_n ?_
          refine Cd.region ?_
          refine Ops.mv_int rfl rfl rfl ?_
          refine Ops.add rfl rfl rfl (by omega) ?_
          refine Ops.mv_int rfl rfl rfl ?_
          refine Ops.nil ?_
          refine thenQ_n ?_
          exact ⟨(r, g + 1, x'), Nat.lt_succ_self r, ⟨rfl, rfl, rfl, rfl, rfl, trivial⟩, hok', by rw [hp']; exact hgg, by show r + (g + 1) = 100; omega, hT13.tail⟩
        · rw [if_neg h5] at hgg
          have hgg := Option.some.inj hgg
          refine Ops.skipg rfl rfl rfl rfl rfl ?_
          refine Ops.skipg rfl rfl rfl rfl rfl ?_
          refine Ops.skipg rfl rfl rfl rfl rfl ?_
          refine Ops.pick_f rfl rfl rfl ?_
          refine Ops.nil ?_
          refine thenQ_n ?_
          refine Cd.cond_f rfl ?_
          refine Cd.exit ?_
          refine thenQ_x ?_
          refine thenQ_x ?_
          refine blockQ_x ?_
          refine blockQ_n ?_
          refine thenQ_n ?_
          refine Cd.region ?_
          refine Ops.mv_int rfl rfl rfl ?_
          refine Ops.add rfl rfl rfl (by omega) ?_
          refine Ops.mv_int rfl rfl rfl ?_
          refine Ops.nil ?_
          refine thenQ_n ?_
          exact ⟨(q, c + 1, X), Nat.lt_succ_self q, ⟨rfl, rfl, rfl, rfl, trivial⟩, hok, by rw [hgg]; exact hc, by show q + (c + 1) = 3000; omega, hS9⟩
      · rw [if_neg (by omega)] at hgg
        have hgg := Option.some.inj hgg
        refine Ops.skipg rfl rfl rfl rfl rfl ?_
        refine Ops.skipg rfl rfl rfl rfl rfl ?_
        refine Ops.skipg rfl rfl rfl rfl rfl ?_
        refine Ops.skipg rfl rfl rfl rfl rfl ?_
        refine Ops.skipg rfl rfl rfl rfl rfl ?_
        refine Ops.skipg rfl rfl rfl rfl rfl ?_
        refine Ops.skipg rfl rfl rfl rfl rfl ?_
        refine Ops.pick_f rfl rfl rfl ?_
        refine Ops.mv_bool rfl rfl rfl ?_
        refine Ops.skipg rfl rfl rfl rfl rfl ?_
        refine Ops.skipg rfl rfl rfl rfl rfl ?_
        refine Ops.skipg rfl rfl rfl rfl rfl ?_
        refine Ops.pick_f rfl rfl rfl ?_
        refine Ops.nil ?_
        refine thenQ_n ?_
        refine Cd.cond_f rfl ?_
        refine Cd.exit ?_
        refine thenQ_x ?_
        refine thenQ_x ?_
        refine blockQ_x ?_
        refine blockQ_n ?_
        refine thenQ_n ?_
        refine Cd.region ?_
        refine Ops.mv_int rfl rfl rfl ?_
        refine Ops.add rfl rfl rfl (by omega) ?_
        refine Ops.mv_int rfl rfl rfl ?_
        refine Ops.nil ?_
        refine thenQ_n ?_
        exact ⟨(q, c + 1, X), Nat.lt_succ_self q, ⟨rfl, rfl, rfl, rfl, trivial⟩, hok, by rw [hgg]; exact hc, by show q + (c + 1) = 3000; omega, hS9⟩
  · rw [if_neg (by omega)] at hc
    have hc := Option.some.inj hc
    refine Ops.skipg rfl rfl rfl rfl rfl ?_
    refine Ops.skipg rfl rfl rfl rfl rfl ?_
    refine Ops.skipg rfl rfl rfl rfl rfl ?_
    refine Ops.pick_f rfl rfl rfl ?_
    refine Ops.nil ?_
    refine thenQ_n ?_
    refine Cd.cond_f rfl ?_
    refine Cd.exit ?_
    refine thenQ_x ?_
    refine thenQ_x ?_
    refine blockQ_x ?_
    refine thenQ_n ?_
    refine Cd.seq ?_
    refine Cd.region ?_
    refine Ops.ld_agg 2 (hS7.rd 0 rfl) rfl rfl rfl ?_
    skip
    refine Ops.st_agg 3 1 hS7 rfl rfl rfl rfl rfl rfl rfl ?_
    intro w8 hS8
    refine Ops.nil ?_
    refine thenQ_n ?_
    refine Cd.ret ?_
    skip
    refine retc_r rfl (hS8.rd 1 rfl) ?_
    refine ⟨X, hok, hc, rfl, ?_⟩
    have h5 := ((hS8.sub ((List.Sublist.refl _).cons _)).sub ((List.Sublist.refl _).cons _)).sub ((List.Sublist.refl _).cons _)
    rwa [List.append_nil] at h5
end Go.Proofs.Ytjpkmpihmilgoaa.Vc
/-
  The reference's coset enumeration, walked: the table. Conditions: as each states them.
-/
namespace Go.Proofs.Ytjpkmpihmilgoaa.Vc
open Go.RowKit

def initL (n i : Nat) : List Int := (List.range n).map fun j => if 0 < j ∧ j < i then -1 else 0
theorem initL_one (n : Nat) : initL n 1 = List.replicate n 0 := by
  apply List.ext_getElem
  · simp [initL]
  · intro j h1 h2
    simp only [initL, List.getElem_map, List.getElem_range, List.getElem_replicate]
    rw [if_neg (by omega)]
theorem initL_set {n i : Nat} (h0 : 0 < i) : (initL n i).set i (-1) = initL n (i + 1) := by
  apply List.ext_getElem
  · simp [initL]
  · intro j h1 h2
    rw [List.getElem_set]
    simp only [initL, List.getElem_map, List.getElem_range]
    split
    · rename_i e; subst e; rw [if_pos (by omega)]
    · rename_i e
      by_cases hj : 0 < j ∧ j < i
      · rw [if_pos hj, if_pos (by omega)]
      · rw [if_neg hj, if_neg (by omega)]
def srchG (y : PS) (c : Int) (gens : Nat) : Nat → Nat → List Int → List Int → Option (List Int × List Int)
  | 0, _, _, _ => none
  | k + 1, g, ord, num => if g < gens then (match imageP y c (g : Int) with
    | none => none
    | some d => if 0 ≤ d ∧ d < (num.length : Int) ∧ ord.length < 1000000 then (if gi num d < 0 then srchG y c gens k (g + 1) (ord ++ [d]) (num.set d.toNat (ord.length : Int)) else srchG y c gens k (g + 1) ord num) else none) else some (ord, num)
def srchI (y : PS) (gens : Nat) : Nat → Nat → List Int → List Int → Option (List Int × List Int)
  | 0, _, _, _ => none
  | k + 1, i, ord, num => if i < ord.length then (match srchG y (gi ord (i : Int)) gens 100 0 ord num with
    | none => none
    | some (o, n) => srchI y gens k (i + 1) o n) else some (ord, num)
def rowP (y : PS) (num : List Int) (g : Nat) : List Int → Option (List Int)
  | [] => some []
  | c :: r => match imageP y c (g : Int) with
    | none => none
    | some d => if 0 ≤ d ∧ d < (num.length : Int) then (match rowP y num g r with | none => none | some l => some (gi num d :: l)) else none
def outP (y : PS) (num ord : List Int) (gens : Nat) : Nat → Nat → Option (List (List Int))
  | 0, _ => none
  | k + 1, g => if g < gens then (match rowP y num g ord with | none => none | some r => match outP y num ord gens k (g + 1) with | none => none | some l => some (r :: l)) else some []
def tableP (gens : Nat) (rel : List (List Int)) : Option (List (List Int)) :=
  match runP gens rel with
  | none => none
  | some y => if y.ls.length ≤ 100000 then (match srchI y gens 100000 0 [0] (initL y.ls.length y.ls.length) with
    | none => none
    | some (ord, num) => if ord.length ≤ 1000000 then outP y num ord gens 100 0 else none) else none

theorem l11Table_c (gens : Nat) (Ar : Option Addr) (nr cr : Nat) (rsr : List SlV) (rel : List (List Int)) (T : List (List Int)) (w : World) (hR : RowsI w Ar nr rsr rel) (hrel : ∀ x ∈ rel, x.length ≤ 1000000) (hnr : nr ≤ 1000000) (hp : tableP gens rel = some T) :
    Ret Try.prog 40 [.agg #[.int .i64 (gens : Int), .slice Ar nr cr], .slice none 0 0] w (fun v w' => ∃ A c rs, v = .tuple #[.slice A T.length c, .bool true] ∧ rs.length = T.length ∧ St w w' (mat 36 2 A T.length c rs T)) := by
  unfold tableP at hp
  split at hp
  case h_1 => cases hp
  rename_i y hy
  split at hp
  case isFalse => cases hp
  rename_i hyl
  split at hp
  case h_1 => cases hp
  rename_i ord1 num1 hsr
  split at hp
  case isFalse => cases hp
  rename_i hol
  refine Ret.of_cd Try.func40 rfl Try.ntmps40 rfl (post2 rfl) ?_
  refine Cd.seq ?_
  refine Cd.region ?_
  refine Ops.box2 (St.refl w) rfl rfl ?_
  intro A2 w1 hS1
  refine Ops.mv_sl rfl rfl rfl ?_
  refine Ops.mv_bool rfl rfl rfl ?_
  refine Ops.nil ?_
  refine thenQ_n ?_
  refine Cd.seq ?_
  refine Cd.region ?_
  refine Ops.ld_agg 1 (hS1.rd 0 rfl) rfl rfl rfl ?_
  refine Ops.mv_sl rfl rfl rfl ?_
  refine Ops.call (l11Run_c gens Ar nr cr rsr rel none 0 y _ (hS1.oldRows hR) hrel hnr hy) rfl rfl rfl ?_
  rintro _ w2 ⟨x, hok, hxp, rfl, hst⟩
  have hS2 := hS1.call hst
  skip
  refine Ops.new3 hS2 rfl ?_
  intro A6 w3 hS3
  skip
  refine Ops.st_agg 3 0 hS3 rfl rfl rfl rfl rfl rfl rfl ?_
  intro w4 hS4
  have hS4 : St w w4 ([Bx 72 3 A6 x.cells] ++ (x.cks ++ [Bx 42 2 A2 [.int .i64 (gens : Int), .slice Ar nr cr]])) := hS4
  have hI : RowsI w4 x.A x.n x.rs x.im := LS.rowsI hok hS4
  have hL : RdI w4 x.B x.m x.ls := LS.rdI hS4
  have hB6 := hS4.rd 0 rfl
  have hB2 : Rd w4 A2 2 (fun j => [Value.int .i64 (gens : Int), .slice Ar nr cr].getD j undef) := (hS4.sub (List.singleton_sublist.2 (by simp : Bx 42 2 A2 [.int .i64 (gens : Int), .slice Ar nr cr] ∈ _))).rd 0 rfl
  subst hxp
  have hxm : x.ls.length = x.m := hok.2.2
  have hyl : x.ls.length ≤ 100000 := hyl
  have hsr : srchI x.p gens 100000 0 [0] (initL x.ls.length x.ls.length) = some (ord1, num1) := hsr
  rw [hxm] at hsr hyl
  refine Ops.nil ?_
  refine thenQ_n ?_
  refine Cd.seq ?_
  refine Cd.seq ?_
  refine Cd.region ?_
  refine Ops.fld hB6 rfl rfl rfl rfl inferInstance ?_
  refine Ops.ldf_b hB6 rfl rfl rfl rfl rfl ?_
  refine Ops.nil ?_
  refine thenQ_n ?_
  refine Cd.cond_f rfl ?_
  refine Cd.skip ?_
  refine thenQ_n ?_
  refine Cd.seq ?_
  refine Cd.region ?_
  refine Ops.bs1I (St.refl w4) rfl rfl rfl ?_
  intro A7 w5 hT5
  have hB65 := Rd.below hB6 hT5.below
  refine Ops.mv_sl rfl rfl rfl ?_
  refine Ops.nil ?_
  refine thenQ_n ?_
  refine Cd.seq ?_
  refine Cd.region ?_
  refine Ops.fld hB65 rfl rfl rfl rfl inferInstance ?_
  refine Ops.ldf_s hB65 rfl rfl rfl rfl rfl ?_
  refine Ops.len rfl rfl ?_
  refine Ops.mkI x.m hT5 rfl rfl (by omega) ?_
  intro A8 w6 hT6
  rw [← initL_one] at hT6
  refine Ops.mv_sl rfl rfl rfl ?_
  refine Ops.nil ?_
  refine thenQ_n ?_
  refine Cd.seq ?_
  refine Cd.seq ?_
  refine Cd.region ?_
  refine Ops.mv_int rfl rfl rfl ?_
  refine Ops.nil ?_
  refine thenQ_n ?_
  refine Cd.block ?_
  refine Cd.loop (α := Nat) (fun i => [(2, .pointer A2), (6, .pointer A6), (7, .slice A7 1 1), (8, .slice A8 x.m x.m), (9, .int .i64 (i : Int))]) (fun i w' => St w4 w' [CkI 2 A8 x.m x.m (initL x.m i), CkI 2 A7 1 1 [0]] ∧ 1 ≤ i ∧ (i ≤ x.m ∨ i = 1)) (fun i => x.m - i) 1 ⟨rfl, rfl, rfl, rfl, rfl, trivial⟩ ⟨hT6, Nat.le_refl _, .inr rfl⟩ ?_
  rintro i e w7 ⟨hT7, hi1, hi2⟩
  refine Cd.seq ?_
  refine Cd.seq ?_
  refine Cd.region ?_
  refine Ops.mv_int rfl rfl rfl ?_
  refine Ops.mv_sl rfl rfl rfl ?_
  refine Ops.len rfl rfl ?_
  refine Ops.lss rfl rfl rfl ?_
  refine Ops.nil ?_
  refine thenQ_n ?_
  refine Cd.cond_p _ rfl (fun h1 => ?_) (fun h1 => ?_)
  · have hR7 := hT7.rdI 0 rfl
    refine Cd.skip ?_
    refine thenQ_n ?_
    refine Cd.seq ?_
    refine Cd.block ?_
    refine Cd.region ?_
    refine Ops.mv_sl rfl rfl rfl ?_
    refine Ops.mv_int rfl rfl rfl ?_
    refine Ops.idx hR7.2 rfl rfl rfl (by omega) (by omega) ?_
    refine Ops.st_int 0 hT7 rfl rfl rfl (by omega) ?_
    intro w8 hT8
    rw [Int.toNat_natCast, initL_set (by omega)] at hT8
    refine Ops.nil ?_
    refine blockQ_n ?_
    refine thenQ_n ?_
    refine Cd.region ?_
    refine Ops.mv_int rfl rfl rfl ?_
    refine Ops.add rfl rfl rfl (by omega) ?_
    refine Ops.mv_int rfl rfl rfl ?_
    refine Ops.nil ?_
    refine thenQ_n ?_
    exact ⟨i + 1, by omega, ⟨rfl, rfl, rfl, rfl, rfl, trivial⟩, hT8, by omega, by omega⟩
  have hin : initL x.m i = initL x.m x.m := by
    unfold initL
    apply List.map_congr_left
    intro j hj
    have hj := List.mem_range.1 hj
    by_cases h : 0 < j
    · rw [if_pos (by omega), if_pos (by omega)]
    · rw [if_neg (by omega), if_neg (by omega)]
  rw [hin] at hT7
  refine Cd.exit ?_
  refine thenQ_x ?_
  refine thenQ_x ?_
  refine blockQ_x ?_
  refine thenQ_n ?_
  refine Cd.seq ?_
  refine Cd.seq ?_
  refine Cd.region ?_
  refine Ops.mv_int rfl rfl rfl ?_
  refine Ops.nil ?_
  refine thenQ_n ?_
  refine Cd.block ?_
  refine Cd.loop (α := Nat × Nat × Option Addr × Nat × List Int × List Int) (fun s => [(2, .pointer A2), (6, .pointer A6), (7, .slice s.2.2.1 s.2.2.2.2.1.length s.2.2.2.1), (8, .slice A8 x.m x.m), (10, .int .i64 (s.2.1 : Int))]) (fun s w' => St w4 w' [CkI 2 A8 x.m x.m s.2.2.2.2.2, CkI 2 s.2.2.1 s.2.2.2.2.1.length s.2.2.2.1 s.2.2.2.2.1] ∧ s.1 + s.2.1 = 100000 ∧ srchI x.p gens s.1 s.2.1 s.2.2.2.2.1 s.2.2.2.2.2 = some (ord1, num1)) (fun s => s.1) (100000, 0, A7, 1, [0], initL x.m x.m) ⟨rfl, rfl, rfl, rfl, rfl, trivial⟩ ⟨hT7, rfl, hsr⟩ ?_
  rintro ⟨k, i, A7, c7, ord, num⟩ e w8 ⟨hT8, hki, hsr⟩
  dsimp only at hT8 hki hsr ⊢
  obtain ⟨q, rfl⟩ : ∃ q, k = q + 1 := by cases k with | zero => cases hsr | succ q => exact ⟨q, rfl⟩
  rw [srchI] at hsr
  refine Cd.seq ?_
  refine Cd.seq ?_
  refine Cd.region ?_
  refine Ops.mv_int rfl rfl rfl ?_
  refine Ops.mv_sl rfl rfl rfl ?_
  refine Ops.len rfl rfl ?_
  refine Ops.lss rfl rfl rfl ?_
  refine Ops.nil ?_
  refine thenQ_n ?_
  refine Cd.cond_p _ rfl (fun h2 => ?_) (fun h2 => ?_)
  · rw [if_pos (by omega)] at hsr
    split at hsr
    case h_1 => cases hsr
    rename_i o2 n2 hsg
    refine Cd.skip ?_
    refine thenQ_n ?_
    refine Cd.seq ?_
    refine Cd.block ?_
    refine Cd.seq ?_
    refine Cd.region ?_
    refine Ops.mv_int rfl rfl rfl ?_
    refine Ops.nil ?_
    refine thenQ_n ?_
    refine Cd.block ?_
    refine Cd.loop (α := Nat × Nat × Option Addr × Nat × List Int × List Int) (fun s => [(2, .pointer A2), (6, .pointer A6), (7, .slice s.2.2.1 s.2.2.2.2.1.length s.2.2.2.1), (8, .slice A8 x.m x.m), (10, .int .i64 (i : Int)), (11, .int .i64 (s.2.1 : Int))]) (fun s w' => St w4 w' [CkI 2 A8 x.m x.m s.2.2.2.2.2, CkI 2 s.2.2.1 s.2.2.2.2.1.length s.2.2.2.1 s.2.2.2.2.1] ∧ s.1 + s.2.1 = 100 ∧ i < s.2.2.2.2.1.length ∧ gi s.2.2.2.2.1 (i : Int) = gi ord (i : Int) ∧ srchG x.p (gi ord (i : Int)) gens s.1 s.2.1 s.2.2.2.2.1 s.2.2.2.2.2 = some (o2, n2)) (fun s => s.1) (100, 0, A7, c7, ord, num) ⟨rfl, rfl, rfl, rfl, rfl, rfl, trivial⟩ ⟨hT8, rfl, by show i < ord.length; omega, rfl, hsg⟩ ?_
    rintro ⟨kk, g, A7, c7, ord', num⟩ e w9 ⟨hT9, hkg, hio, hgo, hsg⟩
    dsimp only at hT9 hkg hio hgo hsg ⊢
    obtain ⟨r, rfl⟩ : ∃ q, kk = q + 1 := by cases kk with | zero => cases hsg | succ q => exact ⟨q, rfl⟩
    rw [srchG] at hsg
    have hB29 := Rd.below hB2 hT9.below
    have hB69 := Rd.below hB6 hT9.below
    have hI9 := hT9.oldRows hI
    have hL9 := hT9.oldI hL
    have hO9 := hT9.rdI 1 rfl
    have hN9 := hT9.rdI 0 rfl
    have hnl : num.length = x.m := hN9.1
    refine Cd.seq ?_
    refine Cd.seq ?_
    refine Cd.region ?_
    refine Ops.mv_int rfl rfl rfl ?_
    refine Ops.fld hB29 rfl rfl rfl rfl inferInstance ?_
    refine Ops.ldf_i hB29 rfl rfl rfl rfl rfl ?_
    refine Ops.lss rfl rfl rfl ?_
    refine Ops.nil ?_
    refine thenQ_n ?_
    refine Cd.cond_p _ rfl (fun h3 => ?_) (fun h3 => ?_)
    · rw [if_pos (by omega)] at hsg
      split at hsg
      case h_1 => cases hsg
      rename_i d hd
      split at hsg
      case isFalse => cases hsg
      rename_i hdb
      rw [← hgo] at hd
      refine Cd.skip ?_
      refine thenQ_n ?_
      refine Cd.seq ?_
      refine Cd.block ?_
      refine Cd.seq ?_
      refine Cd.draw [.ex (.agg #[.slice (x.A) (x.n) (x.c), .slice (x.B) (x.m) (x.cB), .bool (false)]), .ex (.slice (A7) (ord'.length) (c7)), .ex (.int .i64 ((i : Int))), .ex (.pointer (ptrAt (A7) ((i : Int)).toNat)), .ex (.int .i64 (gi (ord') ((i : Int)))), .ex (.int .i64 ((g : Int))), .ex (.int .i64 (d)), .ex (.int .i64 (d))] (by kernel_rfl) (by kernel_rfl) rfl (List.forall_mem_cons.2 ⟨Yd.lasts_ex _, (List.forall_mem_cons.2 ⟨Yd.lasts_ex _, (List.forall_mem_cons.2 ⟨Yd.lasts_ex _, (List.forall_mem_cons.2 ⟨Yd.lasts_ex _, (List.forall_mem_cons.2 ⟨Yd.lasts_ex _, (List.forall_mem_cons.2 ⟨Yd.lasts_ex _, (List.forall_mem_cons.2 ⟨Yd.lasts_ex _, (List.forall_mem_cons.2 ⟨Yd.lasts_ex _, (fun _ h => by cases h)⟩)⟩)⟩)⟩)⟩)⟩)⟩)⟩) ⟨?_, ?_, ?_, ?_, ?_, ?_, ?_, ?_, trivial⟩ ?_
      · intro e1 w1 hb hp hun
        refine Ops.ld_agg 2 (hB69.below hb) rfl rfl rfl ?_
        refine Ops.nil ?_
        exact After.dn (Below.refl _ _) (by exact rfl)
      · intro e1 w1 hb hp hun
        refine Ops.mv_sl rfl rfl rfl ?_
        refine Ops.nil ?_
        exact After.dn (Below.refl _ _) (by exact rfl)
      · intro e1 w1 hb hp hun
        refine Ops.mv_int rfl rfl rfl ?_
        refine Ops.nil ?_
        exact After.dn (Below.refl _ _) (by exact rfl)
      · intro e1 w1 hb hp hun
        refine Ops.idx (hO9.later hb).2 rfl rfl rfl (by omega) (by omega) ?_
        refine Ops.nil ?_
        exact After.dn (Below.refl _ _) (by exact rfl)
      · intro e1 w1 hb hp hun
        refine Ops.ld_int (hO9.later hb) rfl (by omega) rfl rfl ?_
        refine Ops.nil ?_
        exact After.dn (Below.refl _ _) (by exact rfl)
      · intro e1 w1 hb hp hun
        refine Ops.mv_int rfl rfl rfl ?_
        refine Ops.nil ?_
        exact After.dn (Below.refl _ _) (by exact rfl)
      · intro e1 w1 hb hp hun
        refine Ops.call (l11Image_c x.rs x.im x.ls _ (g : Int) d _ (hI9.later hb) (hL9.later hb) hd) rfl rfl rfl ?_
        rintro _ w2 ⟨rfl, hst⟩
        refine Ops.nil ?_
        exact After.dn hst.below (by exact rfl)
      · intro e1 w1 hb hp hun
        refine Ops.mv_int rfl rfl rfl ?_
        refine Ops.nil ?_
        exact After.dn (Below.refl _ _) (by exact rfl)
      intro u w10 hb10 _
      have hT10 := hT9.later hb10
      have hN10 := hT10.rdI 0 rfl
      refine thenQ_n ?_
      refine Cd.seq ?_
      refine Cd.region ?_
      refine Ops.mv_sl rfl rfl rfl ?_
      refine Ops.mv_int rfl rfl rfl ?_
      refine Ops.idx hN10.2 rfl rfl rfl (by omega) (by omega) ?_
      refine Ops.ld_int hN10 rfl (by omega) rfl rfl ?_
      refine Ops.lss rfl rfl rfl ?_
      refine Ops.nil ?_
      refine thenQ_n ?_
      refine Cd.cond_p _ rfl (fun h4 => ?_) (fun h4 => ?_)
      · rw [if_pos h4] at hsg
        refine Cd.seq ?_
        refine Cd.region ?_
        refine Ops.mv_sl rfl rfl rfl ?_
        refine Ops.mv_int rfl rfl rfl ?_
        refine Ops.mv_sl rfl rfl rfl ?_
        refine Ops.len rfl rfl ?_
        refine Ops.idx hN10.2 rfl rfl rfl (by omega) (by omega) ?_
        refine Ops.st_int 0 hT10 rfl rfl rfl (by omega) ?_
        intro w11 hT11
        have hT11 : St w4 w11 [CkI 2 A8 x.m x.m (num.set d.toNat (ord'.length : Int)), CkI 2 A7 ord'.length c7 ord'] := hT11
        refine Ops.nil ?_
        refine thenQ_n ?_
        refine Cd.region ?_
        refine Ops.mv_sl rfl rfl rfl ?_
        refine Ops.mv_int rfl rfl rfl ?_
        refine Ops.bs1I hT11 rfl rfl rfl ?_
        intro A12 w12 hT12
        refine Ops.appI 2 hT12 rfl (hT12.rdI 0 rfl) rfl rfl rfl (by omega) (by omega) rfl ?_
        intro A13 c13 w13 hT13
        have hT13 : St w4 w13 [CkI 2 A8 x.m x.m (num.set d.toNat (ord'.length : Int)), CkI 2 A13 (ord'.length + 1) c13 (ord' ++ [d])] := hT13.tail
        refine Ops.mv_sl rfl rfl rfl ?_
        refine Ops.nil ?_
        refine blockQ_n ?_
        refine thenQ_n ?_
        refine Cd.region ?_
        refine Ops.mv_int rfl rfl rfl ?_
        refine Ops.add rfl rfl rfl (by omega) ?_
        refine Ops.mv_int rfl rfl rfl ?_
        refine Ops.nil ?_
        refine thenQ_n ?_
        refine ⟨(r, g + 1, A13, c13, ord' ++ [d], num.set d.toNat (ord'.length : Int)), Nat.lt_succ_self r, ⟨rfl, rfl, by show Value.slice _ _ _ = .slice _ _ _; rw [List.length_append]; rfl, rfl, rfl, rfl, trivial⟩, by dsimp only; rw [List.length_append]; exact hT13, by show r + (g + 1) = 100; omega, by show i < (ord' ++ [d]).length; rw [List.length_append]; omega, ?_, hsg⟩
        show gi (ord' ++ [d]) (i : Int) = _
        rw [← hgo, gi_mem (by rw [List.length_append]; omega), gi_mem hio, List.getElem_append_left hio]
      · rw [if_neg h4] at hsg
        refine Cd.skip ?_
        refine blockQ_n ?_
        refine thenQ_n ?_
        refine Cd.region ?_
        refine Ops.mv_int rfl rfl rfl ?_
        refine Ops.add rfl rfl rfl (by omega) ?_
        refine Ops.mv_int rfl rfl rfl ?_
        refine Ops.nil ?_
        refine thenQ_n ?_
        exact ⟨(r, g + 1, A7, c7, ord', num), Nat.lt_succ_self r, ⟨rfl, rfl, rfl, rfl, rfl, rfl, trivial⟩, hT10, by show r + (g + 1) = 100; omega, hio, hgo, hsg⟩
    · rw [if_neg (by omega)] at hsg
      have hsg := Option.some.inj hsg
      simp only [Prod.mk.injEq] at hsg
      obtain ⟨rfl, rfl⟩ := hsg
      refine Cd.exit ?_
      refine thenQ_x ?_
      refine thenQ_x ?_
      refine blockQ_x ?_
      refine blockQ_n ?_
      refine thenQ_n ?_
      refine Cd.region ?_
      refine Ops.mv_int rfl rfl rfl ?_
      refine Ops.add rfl rfl rfl (by omega) ?_
      refine Ops.mv_int rfl rfl rfl ?_
      refine Ops.nil ?_
      refine thenQ_n ?_
      exact ⟨(q, i + 1, A7, c7, ord', num), Nat.lt_succ_self q, ⟨rfl, rfl, rfl, rfl, rfl, trivial⟩, hT9, by show q + (i + 1) = 100000; omega, hsr⟩
  rw [if_neg (by omega)] at hsr
  have hsr := Option.some.inj hsr
  simp only [Prod.mk.injEq] at hsr
  obtain ⟨rfl, rfl⟩ := hsr
  have hN8 := hT8.rdI 0 rfl
  have hnl : num.length = x.m := hN8.1
  refine Cd.exit ?_
  refine thenQ_x ?_
  refine thenQ_x ?_
  refine blockQ_x ?_
  refine thenQ_n ?_
  refine Cd.seq ?_
  refine Cd.region ?_
  refine Ops.bs0 hT8 rfl ?_
  intro A13 w9 hT9
  have hT9 : St w4 w9 (mat 36 2 A13 0 0 [] [] ++ [CkI 2 A8 x.m x.m num, CkI 2 A7 ord.length c7 ord]) := hT9
  have hol2 : ord.length ≤ 1000000 := hol
  refine Ops.mv_sl rfl rfl rfl ?_
  refine Ops.nil ?_
  refine thenQ_n ?_
  refine Cd.seq ?_
  refine Cd.seq ?_
  refine Cd.region ?_
  refine Ops.mv_int rfl rfl rfl ?_
  refine Ops.nil ?_
  refine thenQ_n ?_
  refine Cd.block ?_
  refine Cd.loop (α := Nat × Nat × Option Addr × Nat × List SlV × List (List Int)) (fun s => [(2, .pointer A2), (6, .pointer A6), (7, .slice A7 ord.length c7), (8, .slice A8 x.m x.m), (13, .slice s.2.2.1 s.2.1 s.2.2.2.1), (14, .int .i64 (s.2.1 : Int))]) (fun s w' => St w4 w' (mat 36 2 s.2.2.1 s.2.1 s.2.2.2.1 s.2.2.2.2.1 s.2.2.2.2.2 ++ [CkI 2 A8 x.m x.m num, CkI 2 A7 ord.length c7 ord]) ∧ s.1 + s.2.1 = 100 ∧ s.2.2.2.2.1.length = s.2.1 ∧ s.2.2.2.2.2.length = s.2.1 ∧ ∃ l, outP x.p num ord gens s.1 s.2.1 = some l ∧ s.2.2.2.2.2 ++ l = T) (fun s => s.1) (100, 0, A13, 0, [], []) ⟨rfl, rfl, rfl, rfl, rfl, rfl, trivial⟩ ⟨hT9, rfl, rfl, rfl, T, hp, rfl⟩ ?_
  rintro ⟨k, g, B, cB, rs, xss⟩ e w10 ⟨hT10, hkg, hrl, hxl, l, hout, happ⟩
  dsimp only at hT10 hkg hrl hxl hout happ ⊢
  obtain ⟨q, rfl⟩ : ∃ q, k = q + 1 := by cases k with | zero => cases hout | succ q => exact ⟨q, rfl⟩
  rw [outP] at hout
  have hB210 := Rd.below hB2 hT10.below
  refine Cd.seq ?_
  refine Cd.seq ?_
  refine Cd.region ?_
  refine Ops.mv_int rfl rfl rfl ?_
  refine Ops.fld hB210 rfl rfl rfl rfl inferInstance ?_
  refine Ops.ldf_i hB210 rfl rfl rfl rfl rfl ?_
  refine Ops.lss rfl rfl rfl ?_
  refine Ops.nil ?_
  refine thenQ_n ?_
  refine Cd.cond_p _ rfl (fun h5 => ?_) (fun h5 => ?_)
  · rw [if_pos (by omega)] at hout
    split at hout
    case h_1 => cases hout
    rename_i row hrow
    split at hout
    case h_1 => cases hout
    rename_i l2 hout2
    obtain rfl := Option.some.inj hout
    refine Cd.skip ?_
    refine thenQ_n ?_
    refine Cd.seq ?_
    refine Cd.block ?_
    refine Cd.seq ?_
    refine Cd.region ?_
    refine Ops.bs0 hT10 rfl ?_
    intro A15 w11 hT11
    refine Ops.mv_sl rfl rfl rfl ?_
    refine Ops.nil ?_
    refine thenQ_n ?_
    refine Cd.seq ?_
    refine Cd.seq ?_
    refine Cd.region ?_
    refine Ops.mv_int rfl rfl rfl ?_
    refine Ops.nil ?_
    refine thenQ_n ?_
    refine Cd.block ?_
    refine Cd.loop (α := Nat × Option Addr × Nat × List Int) (fun s => [(2, .pointer A2), (6, .pointer A6), (7, .slice A7 ord.length c7), (8, .slice A8 x.m x.m), (13, .slice B g cB), (14, .int .i64 (g : Int)), (15, .slice s.2.1 s.1 s.2.2.1), (16, .int .i64 (s.1 : Int))]) (fun s w' => St w4 w' (CkI 2 s.2.1 s.1 s.2.2.1 s.2.2.2 :: (mat 36 2 B g cB rs xss ++ [CkI 2 A8 x.m x.m num, CkI 2 A7 ord.length c7 ord])) ∧ s.1 ≤ ord.length ∧ s.2.2.2.length = s.1 ∧ ∃ l, rowP x.p num g (ord.drop s.1) = some l ∧ s.2.2.2 ++ l = row) (fun s => ord.length - s.1) (0, A15, 0, []) ⟨rfl, rfl, rfl, rfl, rfl, rfl, rfl, rfl, trivial⟩ ⟨hT11, Nat.zero_le _, rfl, row, hrow, rfl⟩ ?_
    rintro ⟨j, A15, c15, acc⟩ e w12 ⟨hT12, hj, hal, l3, hl3, hal3⟩
    dsimp only at hT12 hj hal hl3 hal3 ⊢
    refine Cd.seq ?_
    refine Cd.seq ?_
    refine Cd.region ?_
    refine Ops.mv_int rfl rfl rfl ?_
    refine Ops.mv_sl rfl rfl rfl ?_
    refine Ops.len rfl rfl ?_
    refine Ops.lss rfl rfl rfl ?_
    refine Ops.nil ?_
    refine thenQ_n ?_
    refine Cd.cond_p _ rfl (fun h6 => ?_) (fun h6 => ?_)
    · have hjo : j < ord.length := by omega
      rw [List.drop_eq_getElem_cons hjo, ← gi_mem hjo] at hl3
      simp only [rowP] at hl3
      split at hl3
      case h_1 => cases hl3
      rename_i d hd
      split at hl3
      case isFalse => cases hl3
      rename_i hdb
      split at hl3
      case h_1 => cases hl3
      rename_i l4 hl4
      obtain rfl := Option.some.inj hl3
      have hB612 := Rd.below hB6 hT12.below
      have hI12 := hT12.oldRows hI
      have hL12 := hT12.oldI hL
      have hS12 : St w4 w12 ([CkI 2 A8 x.m x.m num, CkI 2 A7 ord.length c7 ord] ++ (CkI 2 A15 j c15 acc :: mat 36 2 B g cB rs xss)) := hT12.perm (List.perm_append_comm (l₁ := CkI 2 A15 j c15 acc :: mat 36 2 B g cB rs xss))
      have hO12 := hS12.rdI 1 rfl
      have hN12 := hS12.rdI 0 rfl
      refine Cd.skip ?_
      refine thenQ_n ?_
      refine Cd.seq ?_
      refine Cd.block ?_
      refine Cd.drawN [12] [.ex (.slice (A15) (j) (c15)), .ex (.slice (A8) (x.m) (x.m)), .ex (.agg #[.slice (x.A) (x.n) (x.c), .slice (x.B) (x.m) (x.cB), .bool (false)]), .ex (.slice (A7) (ord.length) (c7)), .ex (.int .i64 ((j : Int))), .ex (.pointer (ptrAt (A7) ((j : Int)).toNat)), .ex (.int .i64 (gi (ord) ((j : Int)))), .ex (.int .i64 ((g : Int))), .ex (.int .i64 (d)), .ex (.pointer (ptrAt (A8) (d).toNat)), .ex (.int .i64 (gi (num) (d))), .pr (fun v w' => ∃ A20, v = .slice A20 1 1 ∧ St w4 w' (CkI 2 A20 1 1 [gi num d] :: CkI 2 A15 j c15 acc :: (mat 36 2 B g cB rs xss ++ [CkI 2 A8 x.m x.m num, CkI 2 A7 ord.length c7 ord]))), .pr (fun v w' => ∃ A21 c21, v = .slice A21 (j + 1) c21 ∧ St w4 w' (CkI 2 A21 (j + 1) c21 (acc ++ [gi num d]) :: (mat 36 2 B g cB rs xss ++ [CkI 2 A8 x.m x.m num, CkI 2 A7 ord.length c7 ord]))), .pr (fun v w' => ∃ A21 c21, v = .slice A21 (j + 1) c21 ∧ St w4 w' (CkI 2 A21 (j + 1) c21 (acc ++ [gi num d]) :: (mat 36 2 B g cB rs xss ++ [CkI 2 A8 x.m x.m num, CkI 2 A7 ord.length c7 ord])))] (by kernel_rfl) (by kernel_rfl) (List.forall_mem_cons.2 ⟨Yd.lasts_ex _, (List.forall_mem_cons.2 ⟨Yd.lasts_ex _, (List.forall_mem_cons.2 ⟨Yd.lasts_ex _, (List.forall_mem_cons.2 ⟨Yd.lasts_ex _, (List.forall_mem_cons.2 ⟨Yd.lasts_ex _, (List.forall_mem_cons.2 ⟨Yd.lasts_ex _, (List.forall_mem_cons.2 ⟨Yd.lasts_ex _, (List.forall_mem_cons.2 ⟨Yd.lasts_ex _, (List.forall_mem_cons.2 ⟨Yd.lasts_ex _, (List.forall_mem_cons.2 ⟨Yd.lasts_ex _, (List.forall_mem_cons.2 ⟨Yd.lasts_ex _, (List.forall_mem_cons.2 ⟨Yd.lasts_pr (fun v w w' h hb => by obtain ⟨A20, hv, h1⟩ := h; exact ⟨A20, hv, h1.later hb⟩), (List.forall_mem_cons.2 ⟨Yd.lasts_pr (fun v w w' h hb => by obtain ⟨A21, c21, hv, h1⟩ := h; exact ⟨A21, c21, hv, h1.later hb⟩), (List.forall_mem_cons.2 ⟨Yd.lasts_pr (fun v w w' h hb => by obtain ⟨A21, c21, hv, h1⟩ := h; exact ⟨A21, c21, hv, h1.later hb⟩), (fun _ h => by cases h)⟩)⟩)⟩)⟩)⟩)⟩)⟩)⟩)⟩)⟩)⟩)⟩)⟩)⟩) ⟨?_, ?_, ?_, ?_, ?_, ?_, ?_, ?_, ?_, ?_, ?_, ?_, ?_, ?_, trivial⟩ ?_
      · intro e1 w1 cc hlo hhi hb0 hp hun hq
        show Ops _ _ _ _ _ _ _
        replace hlo := le_of_lo hlo (b := 0) (by kernel_rfl)
        replace hhi := le_of_hi hhi (b := 0) (by kernel_rfl)
        obtain rfl : cc = 0 := by omega
        have hb := hb0 rfl
        refine Ops.mv_sl rfl (by exact hun 13 _ rfl (by kernel_rfl)) rfl ?_
        refine Ops.nil ?_
        exact AfterN.dn rfl (Below.refl _ _) (by exact rfl)
      · intro e1 w1 cc hlo hhi hb0 hp hun hq
        show Ops _ _ _ _ _ _ _
        refine Ops.mv_sl rfl rfl rfl ?_
        refine Ops.nil ?_
        exact AfterN.dn rfl (Below.refl _ _) (by exact rfl)
      · intro e1 w1 cc hlo hhi hb0 hp hun hq
        show Ops _ _ _ _ _ _ _
        replace hlo := le_of_lo hlo (b := 0) (by kernel_rfl)
        replace hhi := le_of_hi hhi (b := 0) (by kernel_rfl)
        obtain rfl : cc = 0 := by omega
        have hb := hb0 rfl
        refine Ops.ld_agg 2 (hB612.below hb) rfl rfl rfl ?_
        refine Ops.nil ?_
        exact AfterN.dn rfl (Below.refl _ _) (by exact rfl)
      · intro e1 w1 cc hlo hhi hb0 hp hun hq
        show Ops _ _ _ _ _ _ _
        refine Ops.mv_sl rfl rfl rfl ?_
        refine Ops.nil ?_
        exact AfterN.dn rfl (Below.refl _ _) (by exact rfl)
      · intro e1 w1 cc hlo hhi hb0 hp hun hq
        show Ops _ _ _ _ _ _ _
        refine Ops.mv_int rfl rfl rfl ?_
        refine Ops.nil ?_
        exact AfterN.dn rfl (Below.refl _ _) (by exact rfl)
      · intro e1 w1 cc hlo hhi hb0 hp hun hq
        show Ops _ _ _ _ _ _ _
        replace hlo := le_of_lo hlo (b := 0) (by kernel_rfl)
        replace hhi := le_of_hi hhi (b := 0) (by kernel_rfl)
        obtain rfl : cc = 0 := by omega
        have hb := hb0 rfl
        refine Ops.idx (hO12.later hb).2 rfl rfl rfl (by omega) (by omega) ?_
        refine Ops.nil ?_
        exact AfterN.dn rfl (Below.refl _ _) (by exact rfl)
      · intro e1 w1 cc hlo hhi hb0 hp hun hq
        show Ops _ _ _ _ _ _ _
        replace hlo := le_of_lo hlo (b := 0) (by kernel_rfl)
        replace hhi := le_of_hi hhi (b := 0) (by kernel_rfl)
        obtain rfl : cc = 0 := by omega
        have hb := hb0 rfl
        refine Ops.ld_int (hO12.later hb) rfl (by omega) rfl rfl ?_
        refine Ops.nil ?_
        exact AfterN.dn rfl (Below.refl _ _) (by exact rfl)
      · intro e1 w1 cc hlo hhi hb0 hp hun hq
        show Ops _ _ _ _ _ _ _
        refine Ops.mv_int rfl rfl rfl ?_
        refine Ops.nil ?_
        exact AfterN.dn rfl (Below.refl _ _) (by exact rfl)
      · intro e1 w1 cc hlo hhi hb0 hp hun hq
        show Ops _ _ _ _ _ _ _
        replace hlo := le_of_lo hlo (b := 0) (by kernel_rfl)
        replace hhi := le_of_hi hhi (b := 0) (by kernel_rfl)
        obtain rfl : cc = 0 := by omega
        have hb := hb0 rfl
        refine Ops.call (l11Image_c x.rs x.im x.ls _ (g : Int) d _ (hI12.later hb) (hL12.later hb) hd) rfl rfl rfl ?_
        rintro _ w2 ⟨rfl, hst⟩
        refine Ops.nil ?_
        exact AfterN.dn rfl hst.below (by exact rfl)
      · intro e1 w1 cc hlo hhi hb0 hp hun hq
        show Ops _ _ _ _ _ _ _
        replace hlo := le_of_lo hlo (b := 0) (by kernel_rfl)
        replace hhi := le_of_hi hhi (b := 0) (by kernel_rfl)
        obtain rfl : cc = 0 := by omega
        have hb := hb0 rfl
        refine Ops.idx (hN12.later hb).2 rfl rfl rfl (by omega) (by omega) ?_
        refine Ops.nil ?_
        exact AfterN.dn rfl (Below.refl _ _) (by exact rfl)
      · intro e1 w1 cc hlo hhi hb0 hp hun hq
        show Ops _ _ _ _ _ _ _
        replace hlo := le_of_lo hlo (b := 0) (by kernel_rfl)
        replace hhi := le_of_hi hhi (b := 0) (by kernel_rfl)
        obtain rfl : cc = 0 := by omega
        have hb := hb0 rfl
        refine Ops.ld_int (hN12.later hb) rfl (by omega) rfl rfl ?_
        refine Ops.nil ?_
        exact AfterN.dn rfl (Below.refl _ _) (by exact rfl)
      · intro e1 w1 cc hlo hhi hb0 hp hun hq
        show Ops _ _ _ _ _ _ _
        replace hlo := le_of_lo hlo (b := 0) (by kernel_rfl)
        replace hhi := le_of_hi hhi (b := 0) (by kernel_rfl)
        obtain rfl : cc = 0 := by omega
        have hb := hb0 rfl
        refine Ops.bs1I (St.refl _) rfl rfl rfl ?_
        intro A20 w20 hst20
        refine Ops.nil ?_
        exact AfterN.dn rfl hst20.below ⟨A20, rfl, (hT12.later hb).call hst20⟩
      · intro e1 w1 cc hlo hhi hb0 hp hun hq
        show Ops _ _ _ _ _ _ _
        replace hlo := le_of_lo hlo (b := 0) (by kernel_rfl)
        replace hhi := le_of_hi hhi (b := 0) (by kernel_rfl)
        obtain rfl : cc = 0 := by omega
        have hb := hb0 rfl
        obtain ⟨A20, hv, h1⟩ := (hp 11 _ _ (by kernel_rfl) rfl rfl (by kernel_rfl))
        refine Ops.appI 1 h1 rfl (h1.rdI 0 rfl) rfl (by exact hv) rfl (by omega) (by omega) rfl ?_
        intro A21 c21 w21 hT21
        refine Ops.nil ?_
        exact AfterT.dn rfl ⟨A21, c21, rfl, hT21.tail⟩
      · intro e1 w1 cc hlo hhi hb0 hp hun hq
        show Ops _ _ _ _ _ _ _
        replace hlo := le_of_lo hlo (b := 1) (by kernel_rfl)
        replace hhi := le_of_hi hhi (b := 1) (by kernel_rfl)
        obtain rfl : cc = 1 := by omega
        have hph := hp 12 _ _ (by kernel_rfl) rfl rfl (by kernel_rfl)
        obtain ⟨A21, c21, hv, h1⟩ := (hp 12 _ _ (by kernel_rfl) rfl rfl (by kernel_rfl))
        refine Ops.mv_sl rfl (by exact hv) rfl ?_
        refine Ops.nil ?_
        exact AfterN.dn rfl (Below.refl _ _) ⟨A21, c21, rfl, h1⟩
      intro u w13 _ hu
      obtain ⟨A21, c21, hv, hT13⟩ := hu 13 _ rfl (by kernel_rfl)
      refine blockQ_n ?_
      refine thenQ_n ?_
      refine Cd.region ?_
      refine Ops.mv_int rfl rfl rfl ?_
      refine Ops.add rfl rfl rfl (by omega) ?_
      refine Ops.mv_int rfl rfl rfl ?_
      refine Ops.nil ?_
      refine thenQ_n ?_
      exact ⟨(j + 1, A21, c21, acc ++ [gi num d]), by omega, ⟨rfl, rfl, rfl, rfl, rfl, rfl, hv, rfl, trivial⟩, hT13, by show j + 1 ≤ ord.length; omega, by show (acc ++ [gi num d]).length = j + 1; rw [List.length_append, hal]; rfl, l4, hl4, by show (acc ++ [gi num d]) ++ l4 = row; rw [← hal3, List.append_assoc]; rfl⟩
    · have hjl : j = ord.length := by omega
      rw [List.drop_eq_nil_of_le (by omega)] at hl3
      obtain rfl := Option.some.inj hl3
      rw [List.append_nil] at hal3
      subst hal3
      refine Cd.exit ?_
      refine thenQ_x ?_
      refine thenQ_x ?_
      refine blockQ_x ?_
      refine thenQ_n ?_
      refine Cd.region ?_
      refine Ops.mv_sl rfl rfl rfl ?_
      refine Ops.mv_sl rfl rfl rfl ?_
      refine Ops.bs1R hT12 rfl rfl rfl ?_
      intro A22 w13 hT13
      refine Ops.appR 2 hT13 rfl (hT13.rdR 0 rfl) rfl rfl rfl (by omega) (by omega) rfl ?_
      intro A23 c23 w14 hT14
      have hT14 : St w4 w14 (CkI 2 A15 j c15 acc :: CkR 36 A23 (g + 1) c23 (rs ++ [⟨A15, j, c15⟩]) :: (rowsCk 2 rs xss ++ [CkI 2 A8 x.m x.m num, CkI 2 A7 ord.length c7 ord])) := hT14.tail
      refine Ops.mv_sl rfl rfl rfl ?_
      refine Ops.nil ?_
      refine blockQ_n ?_
      refine thenQ_n ?_
      refine Cd.region ?_
      refine Ops.mv_int rfl rfl rfl ?_
      refine Ops.add rfl rfl rfl (by omega) ?_
      refine Ops.mv_int rfl rfl rfl ?_
      refine Ops.nil ?_
      refine thenQ_n ?_
      refine ⟨(q, g + 1, A23, c23, rs ++ [⟨A15, j, c15⟩], xss ++ [acc]), Nat.lt_succ_self q, ⟨rfl, rfl, rfl, rfl, rfl, rfl, trivial⟩, ?_, by show q + (g + 1) = 100; omega, by simp [hrl], by simp [hxl], l2, hout2, by show (xss ++ [acc]) ++ l2 = T; rw [← happ, List.append_assoc]; rfl⟩
      show St w4 w14 (CkR 36 A23 (g + 1) c23 (rs ++ [⟨A15, j, c15⟩]) :: (rowsCk 2 (rs ++ [⟨A15, j, c15⟩]) (xss ++ [acc]) ++ [CkI 2 A8 x.m x.m num, CkI 2 A7 ord.length c7 ord]))
      rw [rowsCk_append (by omega), List.append_assoc]
      refine hT14.perm ?_
      refine (List.Perm.swap _ _ _).trans (List.Perm.cons _ ?_)
      exact List.perm_middle.symm
  · rw [if_neg (by omega)] at hout
    obtain rfl := Option.some.inj hout
    rw [List.append_nil] at happ
    subst happ
    refine Cd.exit ?_
    refine thenQ_x ?_
    refine thenQ_x ?_
    refine blockQ_x ?_
    refine thenQ_n ?_
    refine Cd.seq ?_
    refine Cd.region ?_
    refine Ops.mv_sl rfl rfl rfl ?_
    refine Ops.mv_sl rfl rfl rfl ?_
    refine Ops.mv_bool rfl rfl rfl ?_
    refine Ops.nil ?_
    refine thenQ_n ?_
    refine Cd.ret ?_
    refine ret2_sb rfl rfl ?_
    refine ⟨B, cB, rs, by rw [hxl], by omega, ?_⟩
    have h9 : St w4 w10 (mat 36 2 B g cB rs xss) := hT10.sub (List.sublist_append_left _ _)
    have h10 := hS4.call h9
    rw [hxl]
    exact h10.sub (List.sublist_append_left _ _)
end Go.Proofs.Ytjpkmpihmilgoaa.Vc
/-
  What the draws rest on: slices of bytes, numbers that wrap, a source of numbers. Conditions: as each states them.
-/
namespace Go.Proofs.Ytjpkmpihmilgoaa.Vc
open Go.RowKit

section
variable {P : Program} {N : Nat} {ops : Array Oper} {K : Env → World → Prop} {rest : List Oper} {e : Env} {w0 w w' : World} {ks : List Ck} {d : Nat} {ty : TypeId} {pos : String} {af : Array Edge}
/-! numbers that wrap -/
variable {x y : Operand} {xt yt : TypeId} {i j : Int}
/-! bytes -/
def RdY (w : World) (A : Option Addr) (n : Nat) (bs : List Int) : Prop := bs.length = n ∧ (∀ b ∈ bs, 0 ≤ b ∧ b ≤ 255) ∧ Rd w A n (fun j => .int .u8 (bs.getD j 0))
/-! literals of numbers -/
def idxI : Nat → List Int → List (Nat × Value)
  | _, [] => []
  | k, v :: r => (k, .int .i64 v) :: idxI (k + 1) r
theorem fill_ints : ∀ (vs : List Int) (k : Nat) (cells : Array Value), k + vs.length ≤ cells.size → ∃ out, Instr.fill (fun i => some (i * 1, 1)) cells (idxI k vs) = some out ∧ out.size = cells.size ∧ (∀ j, j < k → out[j]? = cells[j]?) ∧ (∀ j, j < vs.length → out[k + j]? = vs[j]?.map (Value.int .i64)) ∧ (∀ j, k + vs.length ≤ j → out[j]? = cells[j]?)
  | [], k, cells, _ => ⟨cells, rfl, rfl, fun _ _ => rfl, fun j hj => absurd hj (Nat.not_lt_zero _), fun _ _ => rfl⟩
  | v :: r, k, cells, h => by
    have hk : k < cells.size := by simp at h; omega
    obtain ⟨out, h1, h2, h3, h4, h5⟩ := fill_ints r (k + 1) (cells.setIfInBounds k (.int .i64 v)) (by simp at h ⊢; omega)
    refine ⟨out, ?_, by rw [h2]; simp, fun j hj => ?_, fun j hj => ?_, fun j hj => ?_⟩
    · show Instr.fill _ cells ((k, .int .i64 v) :: idxI (k + 1) r) = some out
      rw [← h1]
      simp [Instr.fill, Value.cells, show ¬ cells.size < k + 1 by omega]
    · rw [h3 j (by omega), Array.getElem?_setIfInBounds, if_neg (by omega)]
    · cases j with
      | zero => rw [Nat.add_zero, h3 k (by omega), Array.getElem?_setIfInBounds, if_pos rfl, if_pos hk]; rfl
      | succ q =>
        have := h4 q (by simpa using hj)
        rw [show k + (q + 1) = k + 1 + q by omega, this]
        rfl
    · rw [h5 j (by simp at hj ⊢; omega), Array.getElem?_setIfInBounds, if_neg (by simp at hj; omega)]
theorem fill_lit (vs : List Int) (cells : Array Value) (h : cells.size = vs.length) : Instr.fill (fun i => some (i * 1, 1)) cells (idxI 0 vs) = some (vs.map (Value.int .i64)).toArray := by
  obtain ⟨out, h1, h2, _, h4, _⟩ := fill_ints vs 0 cells (by omega)
  rw [h1]
  congr 1
  apply Array.ext'
  apply List.ext_getElem?
  intro j
  by_cases hj : j < vs.length
  · have := h4 j hj
    rw [Nat.zero_add] at this
    simpa using this
  · rw [List.getElem?_eq_none (by simpa [h2, h] using hj), List.getElem?_eq_none (by simpa using hj)]
theorem Ops.bsL {t el : TypeId} {z : Value} {b n : Nat} [Und P t (.slice el)] [Inf P el z 1 b] {ps : Array (Nat × Operand)} (vs : List Int) (hS : St w0 w ks) (hv : (ps.toList.map fun p => (p.1, ev e p.2)) = idxI 0 vs) (hn : vs.length = n) (hn0 : n ≠ 0) (hn1 : n ≤ 1000) (hz : z.cells = #[z]) (hb : Nat.blt d N = true)
    (hK : ∀ A w', St w0 w' (CkI el A n n vs :: ks) → Ops P N ops K rest (upd e d (.slice A n n)) w') : Ops P N ops K (⟨some d, .buildSlice t n ps, ty, pos, af, none⟩ :: rest) e w := by
  subst hn
  obtain ⟨inf, hi, hz0, hs, hby⟩ := Inf.get P el
  have hA := hS.alloc (vs.map (Value.int .i64)) el (by simp [maxLen]; omega) (isM_I _)
  refine .val (w' := w.alloc (.cells (vs.map (Value.int .i64)).toArray el)) ?_ hb (hK _ _ (by simpa [CkI] using hA))
  have hf := fill_lit vs ((Array.range (vs.length * 1)).map ((#[z] : Array Value)[· % (#[z] : Array Value).size]!)) (by simp)
  have hv' : (ps.map fun p => (p.1, ev e p.2)).toList = idxI 0 vs := by rw [Array.toList_map]; exact hv
  have h24 : ¬ 16777216 < vs.length := by omega
  simp only [Nat.mul_one] at hf
  simp [execOp, Instr.buildSlice, run_underlying (Und.out (P := P) (t := t)), sizeOf, typeInfo, zeroValue, hi, hs, hz0, hz, newRow, hv, h24, hn0]
  simp at hf
  simp [hf]
end
end Go.Proofs.Ytjpkmpihmilgoaa.Vc
