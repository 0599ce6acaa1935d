/-
  The texts Cs5, Cs6, Cs7, Dc, Dd, De, Df, K1, Dg in one. Conditions: as each part states them.
-/
import Derived.Test.YtbhnfehcpnnjcaaGreatDoorZg
import Derived.Test.YtbhnfehcpnnjcaaGreatDoorZe
import Derived.Test.YtbhnfehcpnnjcaaGreatDoorZc
import Derived.Test.YtbhnfehcpnnjcaaGreatDoorZb
/-
 The reference's coset enumeration, walked: the procedure. Conditions: as each states them.
-/
namespace Go.Proofs.YtbhnfehcpnnjcaaGreatDoor.Vc
open Go.RowKit

def runRel (c : Int) : PS → List (List Int) → Option PS
 | x, [] => some x
 | x, w :: r => if 0 ≤ c ∧ c < (x.ls.length : Int) then (if gi x.ls c = c then (match closeP x c w with | none => none | some y => runRel c y r) else some x) else none
def runGen (c : Int) (gens : Nat) : Nat → Nat → PS → Option PS
 | 0, _, _ => none
 | k + 1, g, x => if g < gens then (if 0 ≤ c ∧ c < (x.ls.length : Int) then (if gi x.ls c = c then (match nextP x c (g : Int) with | none => none | some (y, _) => runGen c gens k (g + 1) y) else some x) else none) else some x
def runC (gens : Nat) (rel : List (List Int)) : Nat → Nat → PS → Option PS
 | 0, _, _ => none
 | k + 1, c, x => if c < x.ls.length then (match runRel (c : Int) x rel with | none => none | some y => match runGen (c : Int) gens 100 0 y with | none => none | some z => runC gens rel k (c + 1) z) else some x
def runP (gens : Nat) (rel : List (List Int)) : Option PS :=
 match defP ⟨[], []⟩ gens with
 | none => none
 | some x => runC gens rel 3000 0 x

section
variable {P : Program} {N : Nat} {ops : Array Oper} {K : Env → World → Prop} {rest : List Oper} {e : Env} {w0 w w' : World} {ks : List Ck} {d : Nat} {ty : TypeId} {pos : String} {af : Array Edge}
theorem Ops.bld000 {t : TypeId} {f0 f1 f2 : Field} {z0 z1 z2 y0 y1 y2 : Value} {b b0 b1 b2 : Nat} [Und P t (.struct #[f0, f1, f2])] [Inf P t (.agg #[z0, z1, z2]) 3 b] (hI0 : Inf P f0.type y0 1 b0) (hI1 : Inf P f1.type y1 1 b1) (hI2 : Inf P f2.type y2 1 b2) (ho : f0.offset = 0) (ho1 : f1.offset = 1) (ho2 : f2.offset = 2) (hb : Nat.blt d N = true)
    (hK : Ops P N ops K rest (upd e d (.agg #[z0, z1, z2])) w) : Ops P N ops K (⟨some d, .build t #[], ty, pos, af, none⟩ :: rest) e w := by
  obtain ⟨inf, hi, hz0, hs, hby⟩ := Inf.get P t
  obtain ⟨inf0, hi0, _, hs0, _⟩ := hI0.get P f0.type
  obtain ⟨inf1, hi1, _, hs1, _⟩ := hI1.get P f1.type
  obtain ⟨inf2, hi2, _, hs2, _⟩ := hI2.get P f2.type
  have ez : (Value.agg #[z0, z1, z2]).cells = #[z0, z1, z2] := rfl
  refine .val (w' := w) ?_ hb hK
  simp [execOp, Instr.build, run_underlying (Und.out (P := P) (t := t)), sizeOf, typeInfo, zeroValue, hi, hz0, hi0, hs0, hi1, hs1, hi2, hs2, ez, Instr.fill]
end

theorem l11Run_c (gens : Nat) (Ar : Option Addr) (nr cr : Nat) (rsr : List SlV) (rel : List (List Int)) (A0 : Option Addr) (c0 : Nat) (y : PS) (w : World) (hR : RowsI w Ar nr rsr rel) (hrel : ∀ x ∈ rel, x.length ≤ 1000000) (hnr : nr ≤ 1000000) (hp : runP gens rel = some y) :
  Ret Tryz.prog 144 [.agg #[.int .i64 (gens : Int), .slice Ar nr cr], .slice A0 0 c0] w (fun v w' => ∃ x' : LS, x'.ok ∧ x'.p = y ∧ v = x'.val ∧ St w w' x'.cks) := by
 have hrl := hR.len
 unfold runP at hp
 split at hp
 case h_1 => cases hp
 rename_i x1 hx1
 refine Ret.of_cd Tryz.func144 rfl Tryz.ntmps144 rfl (postc rfl rfl) (Cd.seq (Cd.region (Ops.box2 (St.refl w) rfl rfl ?_)))
 intro A2 w1 hS1
 skip
 refine Ops.new3 hS1 rfl ?_
 intro A4 w2 hS2
 refine Ops.n (tQ (Cd.seq (Cd.region (Ops.bld000 (by exact inferInstance) (by exact inferInstance) (by exact inferInstance) rfl rfl rfl rfl (Ops.fld (hS2.rd 1 rfl) rfl rfl rfl rfl inferInstance (Ops.ldf_i (hS2.rd 1 rfl) rfl rfl rfl rfl rfl ?_))))))
 skip
 refine Ops.call (l11Define_c ⟨none, 0, 0, [], [], none, 0, 0, []⟩ gens x1 ⟨rfl, rfl, rfl⟩ ((hS2.nil _).nil _) hx1) rfl rfl rfl ?_
 rintro _ w3 ⟨X, hok, hXp, rfl, hT⟩
 have hT := LS.front (pre := [Bx 145 3 A4 [.slice none 0 0, .slice none 0 0, .bool false], Bx 118 2 A2 [.int .i64 (gens : Int), .slice Ar nr cr]]) (ks := []) hT
 refine Ops.mv_tup rfl rfl rfl (Ops.extract rfl rfl rfl (Ops.extract rfl rfl rfl (Ops.new3 hT rfl ?_)))
 intro A5 w4 hS4
 skip
 refine Ops.st_agg 3 0 hS4 rfl rfl rfl rfl rfl rfl rfl ?_
 intro w5 hS5
 have hS5 : St w w5 ([Bx 145 3 A5 X.cells, Bx 145 3 A4 [.slice none 0 0, .slice none 0 0, .bool false], Bx 118 2 A2 [.int .i64 (gens : Int), .slice Ar nr cr]] ++ (X.cks ++ [])) := hS5
 refine Ops.mi rfl rfl rfl (Ops.n (tQ (Cd.seq (Cd.seq (Cd.region (Ops.mi rfl rfl rfl (Ops.n (tQ (Cd.block ?_)))))))))
 refine Cd.loop (α := Unit) (fun _ => [(1, .slice A0 0 c0), (2, .pointer A2), (4, .pointer A4), (5, .pointer A5), (7, .int .i64 0)]) (fun _ w' => w' = w5) (fun _ => 0) () ⟨rfl, rfl, rfl, rfl, rfl, trivial⟩ rfl ?_
 rintro ⟨⟩ e w6 rfl
 refine Cd.seq (Cd.seq (Cd.region (Ops.mi rfl rfl rfl (Ops.ms rfl rfl rfl (Ops.len rfl rfl (Ops.lss rfl rfl rfl (Ops.mb rfl rfl rfl ?_)))))))
 refine Ops.split_p 24 rfl (fun h => absurd h (by decide)) (fun _ => ?_) --f
 refine Ops.k rfl rfl rfl rfl rfl (Ops.k rfl rfl rfl rfl rfl (Ops.k rfl rfl rfl rfl rfl (Ops.pick_f rfl rfl rfl (Ops.n (tQ (Cd.cond_f rfl (Cd.exit (thenQ_x (thenQ_x ?_)))))))))
 refine blockQ_x (tQ (Cd.seq (Cd.seq (Cd.region (Ops.mi rfl rfl rfl (Ops.n (tQ (Cd.block ?_))))))))
 refine Cd.loop (α := Nat × Nat × LS) (fun s => [(2, .pointer A2), (4, .pointer A4), (5, .pointer A5), (8, .int .i64 (s.2.1 : Int))]) (fun s w' => s.2.2.ok ∧ runC gens rel s.1 s.2.1 s.2.2.p = some y ∧ s.1 + s.2.1 = 3000 ∧ St w w' ([Bx 145 3 A5 s.2.2.cells, Bx 145 3 A4 [.slice none 0 0, .slice none 0 0, .bool false], Bx 118 2 A2 [.int .i64 (gens : Int), .slice Ar nr cr]] ++ (s.2.2.cks ++ []))) (fun s => s.1) (3000, 0, X) ⟨rfl, rfl, rfl, rfl, trivial⟩ ⟨hok, by rw [hXp]; exact hp, rfl, hS5⟩ ?_
 rintro ⟨k, c, X⟩ e w7 ⟨hok, hc, hkc, hS7⟩
 dsimp only at hok hc hkc hS7 ⊢
 obtain ⟨q, rfl⟩ : ∃ q, k = q + 1 := by cases k with | zero => cases hc | succ q => exact ⟨q, rfl⟩
 have hc : (if c < X.ls.length then (match runRel (c : Int) X.p rel with | none => none | some y => match runGen (c : Int) gens 100 0 y with | none => none | some z => runC gens rel q (c + 1) z) else some X.p) = some y := hc
 have hXm : X.ls.length = X.m := hok.2.2
 refine Cd.seq (Cd.seq (Cd.region (Ops.mi rfl rfl rfl (Ops.fld (hS7.rd 0 rfl) rfl rfl rfl rfl inferInstance (Ops.ldf_s (hS7.rd 0 rfl) rfl rfl rfl rfl rfl (Ops.len rfl rfl (Ops.lss rfl rfl rfl (Ops.mb rfl rfl rfl ?_))))))))
 refine Ops.split_p 42 rfl (fun h1 => ?_) (fun h1 => ?_)
 ·rw [if_pos (by omega)] at hc
  split at hc
  case h_1 => cases hc
  rename_i y1 hy1
  split at hc
  case h_1 => cases hc
  rename_i z1 hz1
  refine Ops.g rfl rfl rfl (Ops.fld (hS7.rd 0 rfl) rfl rfl rfl rfl inferInstance (Ops.g rfl rfl rfl (Ops.ldf_b (hS7.rd 0 rfl) rfl rfl rfl rfl rfl (Ops.g rfl rfl rfl ?_))))
  first | refine Ops.not_p rfl rfl ?_ | refine Ops.not rfl rfl ?_
  refine Ops.pick_t rfl rfl rfl (Ops.n (tQ (Cd.cond_t rfl (Cd.skip (tQ (Cd.seq (Cd.block (Cd.seq (Cd.seq ?_)))))))))
  refine Cd.region (Ops.mi rfl rfl rfl (Ops.n (tQ (Cd.block ?_))))
  refine Cd.loop (α := Nat × LS) (fun s => [(2, .pointer A2), (4, .pointer A4), (5, .pointer A5), (8, .int .i64 (c : Int)), (9, .int .i64 (s.1 : Int))]) (fun s w' => s.2.ok ∧ s.1 ≤ nr ∧ runRel (c : Int) s.2.p (rel.drop s.1) = some y1 ∧ St w w' ([Bx 145 3 A5 s.2.cells, Bx 145 3 A4 [.slice none 0 0, .slice none 0 0, .bool false], Bx 118 2 A2 [.int .i64 (gens : Int), .slice Ar nr cr]] ++ (s.2.cks ++ []))) (fun s => nr - s.1) (0, X) ⟨rfl, rfl, rfl, rfl, rfl, trivial⟩ ⟨hok, Nat.zero_le _, hy1, hS7⟩ ?_
  rintro ⟨i, X⟩ e w8 ⟨hok, hi, hrr, hS8⟩
  dsimp only at hok hi hrr hS8 ⊢
  have hRR := hS8.oldRows hR
  have hXm : X.ls.length = X.m := hok.2.2
  have hRl : RdI w8 X.B X.m X.ls := LS.rdI hS8
  refine Cd.seq (Cd.seq (Cd.region (Ops.mi rfl rfl rfl (Ops.fld (hS8.rd 2 rfl) rfl rfl rfl rfl inferInstance (Ops.ldf_s (hS8.rd 2 rfl) rfl rfl rfl rfl rfl (Ops.len rfl rfl (Ops.lss rfl rfl rfl (Ops.mb rfl rfl rfl ?_))))))))
  refine Ops.split_p 54 rfl (fun h2 => ?_) (fun h2 => ?_)
  ·have hir : i < rel.length := by omega
   have hdr : rel.drop i = gl rel (i : Int) :: rel.drop (i + 1) := by rw [List.drop_eq_getElem_cons hir, gl_mem hir]
   rw [hdr] at hrr
   have hrr : (if 0 ≤ (c : Int) ∧ (c : Int) < (X.ls.length : Int) then (if gi X.ls c = c then (match closeP X.p c (gl rel (i : Int)) with | none => none | some y => runRel c y (rel.drop (i + 1))) else some X.p) else none) = some y1 := hrr
   split at hrr
   case isFalse => cases hrr
   rename_i hcb
   refine Ops.g rfl rfl rfl (Ops.fld (hS8.rd 0 rfl) rfl rfl rfl rfl inferInstance (Ops.g rfl rfl rfl (Ops.ldf_s (hS8.rd 0 rfl) rfl rfl rfl rfl rfl (Ops.g rfl rfl rfl (Ops.mi rfl rfl rfl (Ops.g rfl rfl rfl (Ops.idx hRl.2 rfl rfl rfl (by omega) (by omega) (Ops.g rfl rfl rfl (Ops.ld_int hRl rfl (by omega) rfl rfl ?_)))))))))
   refine Ops.g rfl rfl rfl (Ops.mi rfl rfl rfl (Ops.g rfl rfl rfl (Ops.eql rfl rfl rfl (Ops.pick_t rfl rfl rfl (Ops.mb rfl rfl rfl ?_)))))
   refine Ops.split_p 63 rfl (fun h3 => ?_) (fun h3 => ?_)
   ·rw [if_pos h3] at hrr
    split at hrr
    case h_1 => cases hrr
    rename_i y2 hcl
    have hrow := hR.at_ (i := (i : Int)) (by omega) (by omega)
    have hrn : (rg rsr (i : Int)).n ≤ 1000000 := by
     rw [← hrow.1, gl_mem hir]; exact hrel _ (List.getElem_mem hir)
    refine Ops.g rfl rfl rfl (Ops.fld (hS8.rd 0 rfl) rfl rfl rfl rfl inferInstance (Ops.g rfl rfl rfl (Ops.ldf_b (hS8.rd 0 rfl) rfl rfl rfl rfl rfl (Ops.g rfl rfl rfl ?_))))
    first | refine Ops.not_p rfl rfl ?_ | refine Ops.not rfl rfl ?_
    refine Ops.pick_t rfl rfl rfl (Ops.n (tQ (Cd.cond_t rfl (Cd.skip (tQ (Cd.seq (Cd.block ?_)))))))
    refine Cd.drawN [7, 8] [.ex (.agg #[.slice (X.A) (X.n) (X.c), .slice (X.B) (X.m) (X.cB), .bool (false)]), .ex (.int .i64 ((c : Int))), .ex (.pointer (ptrAt (A2) 1)), .ex (.slice (Ar) (nr) (cr)), .ex (.int .i64 ((i : Int))), .ex (.pointer (ptrAt (Ar) ((i : Int)).toNat)), .ex (.slice ((rg (rsr) ((i : Int))).a) ((rg (rsr) ((i : Int))).n) ((rg (rsr) ((i : Int))).c)), .pr (fun v w' => ∃ x' : LS, v = x'.val ∧ LSt w [Bx 145 3 A5 X.cells, Bx 145 3 A4 [.slice none 0 0, .slice none 0 0, .bool false], Bx 118 2 A2 [.int .i64 (gens : Int), .slice Ar nr cr]] [] y2 x' w'), .pr (fun _ w' => ∃ x' : LS, LSt w [Bx 145 3 A5 x'.cells, Bx 145 3 A4 [.slice none 0 0, .slice none 0 0, .bool false], Bx 118 2 A2 [.int .i64 (gens : Int), .slice Ar nr cr]] [] y2 x' w')] (by kernel_rfl) (by kernel_rfl) (lx (lx (lx (lx (lx (lx (lx (List.forall_mem_cons.2 ⟨Yd.lasts_pr (fun v w w' h hb => by obtain ⟨x', hv, h1, h2, h3⟩ := h; exact ⟨x', hv, h1, h2, h3.later hb⟩), (List.forall_mem_cons.2 ⟨Yd.lasts_pr (fun v w w' h hb => by obtain ⟨x', h1, h2, h3⟩ := h; exact ⟨x', h1, h2, h3.later hb⟩), (fun _ h => by cases h)⟩)⟩)))))))) ⟨?_, ?_, ?_, ?_, ?_, ?_, ?_, ?_, ?_, trivial⟩ ?_
    ·intro e1 w1 cc hlo hhi hb0 hp hun hq
     show Ops _ _ _ _ _ _ _
     obtain rfl := cc_of hlo hhi (b := 0) (by kernel_rfl) (by kernel_rfl); clear hlo hhi
     have hb := hb0 rfl
     refine Ops.ld_agg 2 ((hS8.rd 0 rfl).below hb) rfl rfl rfl (Ops.n (n0 rfl (by exact rfl)))
    ·intro e1 w1 cc hlo hhi hb0 hp hun hq
     show Ops _ _ _ _ _ _ _
     refine Ops.mi rfl rfl rfl (Ops.n (n0 rfl (by exact rfl)))
    ·intro e1 w1 cc hlo hhi hb0 hp hun hq
     show Ops _ _ _ _ _ _ _
     obtain rfl := cc_of hlo hhi (b := 0) (by kernel_rfl) (by kernel_rfl); clear hlo hhi
     have hb := hb0 rfl
     refine Ops.fld ((hS8.rd 2 rfl).below hb) rfl rfl rfl rfl inferInstance (Ops.n (n0 rfl (by exact rfl)))
    ·intro e1 w1 cc hlo hhi hb0 hp hun hq
     show Ops _ _ _ _ _ _ _
     obtain rfl := cc_of hlo hhi (b := 0) (by kernel_rfl) (by kernel_rfl); clear hlo hhi
     have hb := hb0 rfl
     refine Ops.ldf_s ((hS8.rd 2 rfl).below hb) rfl rfl rfl rfl rfl (Ops.n (n0 rfl (by exact rfl)))
    ·intro e1 w1 cc hlo hhi hb0 hp hun hq
     show Ops _ _ _ _ _ _ _
     refine Ops.mi rfl rfl rfl (Ops.n (n0 rfl (by exact rfl)))
    ·intro e1 w1 cc hlo hhi hb0 hp hun hq
     show Ops _ _ _ _ _ _ _
     obtain rfl := cc_of hlo hhi (b := 0) (by kernel_rfl) (by kernel_rfl); clear hlo hhi
     have hb := hb0 rfl
     refine Ops.idx (hRR.top.later hb).2 rfl rfl rfl (by omega) (by omega) (Ops.n (n0 rfl (by exact rfl)))
    ·intro e1 w1 cc hlo hhi hb0 hp hun hq
     show Ops _ _ _ _ _ _ _
     obtain rfl := cc_of hlo hhi (b := 0) (by kernel_rfl) (by kernel_rfl); clear hlo hhi
     have hb := hb0 rfl
     refine Ops.ld_sl (hRR.top.later hb) rfl (by omega) rfl rfl (Ops.n (n0 rfl (by exact rfl)))
    ·intro e1 w1 cc hlo hhi hb0 hp hun hq
     show Ops _ _ _ _ _ _ _
     obtain rfl := cc_of hlo hhi (b := 0) (by kernel_rfl) (by kernel_rfl); clear hlo hhi
     have hb := hb0 rfl
     refine Ops.call (l11Close_c X (c : Int) _ _ (rg rsr (i : Int)).c (gl rel (i : Int)) y2 hok ((hS8.later (hb0 rfl)).toBack (pre := [_, _, _])) (fun w' h => h.oldI hrow) hrn hcl) rfl rfl rfl ?_
     rintro _ w4 ⟨x', hok', hp', rfl, hT⟩
     refine Ops.n ?_
     exact AfterT.dn rfl ⟨x', rfl, hok', hp', hT.toBack⟩
    ·intro e1 w1 cc hlo hhi hb0 hp hun hq
     show Ops _ _ _ _ _ _ _
     obtain rfl := cc_of hlo hhi (b := 1) (by kernel_rfl) (by kernel_rfl); clear hlo hhi
     have hph := hp 7 _ _ (by kernel_rfl) rfl rfl (by kernel_rfl)
     obtain ⟨x', hv, h1, h2, h3⟩ := (hp 7 _ _ (by kernel_rfl) rfl rfl (by kernel_rfl))
     refine Ops.st_agg 3 0 h3 rfl rfl (by exact hv) rfl rfl rfl rfl ?_
     intro w11 hT11
     refine Ops.n ?_
     exact AfterT.st rfl ⟨x', h1, h2, hT11⟩
    intro u w9 _ hu
    obtain ⟨x', hok', hp', hT⟩ := hu 8 _ rfl (by kernel_rfl)
    refine blockQ_n (tQ (Cd.region (Ops.mi rfl rfl rfl (Ops.add rfl rfl rfl (by omega) (Ops.mi rfl rfl rfl (Ops.n (tQ ?_)))))))
    exact ⟨(i + 1, x'), by show nr - (i + 1) < nr - i; omega, ⟨rfl, rfl, rfl, rfl, rfl, trivial⟩, hok', by show i + 1 ≤ nr; omega, by rw [hp']; exact hrr, hT⟩
   ·rw [if_neg h3] at hrr
    have hrr := Option.some.inj hrr
    refine Ops.k rfl rfl rfl rfl rfl (Ops.k rfl rfl rfl rfl rfl (Ops.k rfl rfl rfl rfl rfl (Ops.pick_f rfl rfl rfl (Ops.n (tQ (Cd.cond_f rfl (Cd.exit (thenQ_x (thenQ_x ?_)))))))))
    refine blockQ_x (tQ (Cd.seq (Cd.region (Ops.mi rfl rfl rfl (Ops.n (tQ (Cd.block ?_)))))))
    refine Cd.loop (α := Nat × Nat × LS) (fun s => [(2, .pointer A2), (4, .pointer A4), (5, .pointer A5), (8, .int .i64 (c : Int)), (10, .int .i64 (s.2.1 : Int))]) (fun s w' => s.2.2.ok ∧ runGen (c : Int) gens s.1 s.2.1 s.2.2.p = some z1 ∧ s.1 + s.2.1 = 100 ∧ St w w' ([Bx 145 3 A5 s.2.2.cells, Bx 145 3 A4 [.slice none 0 0, .slice none 0 0, .bool false], Bx 118 2 A2 [.int .i64 (gens : Int), .slice Ar nr cr]] ++ (s.2.2.cks ++ []))) (fun s => s.1) (100, 0, X) ⟨rfl, rfl, rfl, rfl, rfl, trivial⟩ ⟨hok, by rw [hrr]; exact hz1, rfl, hS8⟩ ?_
    rintro ⟨k, g, X⟩ e w9 ⟨hok, hgg, hkg, hS9⟩
    dsimp only at hok hgg hkg hS9 ⊢
    obtain ⟨r, rfl⟩ : ∃ q, k = q + 1 := by cases k with | zero => cases hgg | succ q => exact ⟨q, rfl⟩
    have hgg : (if g < gens then (if 0 ≤ (c : Int) ∧ (c : Int) < (X.ls.length : Int) then (if gi X.ls c = c then (match nextP X.p c (g : Int) with | none => none | some (y, _) => runGen c gens r (g + 1) y) else some X.p) else none) else some X.p) = some z1 := hgg
    have hXm : X.ls.length = X.m := hok.2.2
    have hRl : RdI w9 X.B X.m X.ls := LS.rdI hS9
    refine Cd.seq (Cd.seq (Cd.region (Ops.mi rfl rfl rfl (Ops.fld (hS9.rd 2 rfl) rfl rfl rfl rfl inferInstance (Ops.ldf_i (hS9.rd 2 rfl) rfl rfl rfl rfl rfl (Ops.lss rfl rfl rfl (Ops.mb rfl rfl rfl ?_)))))))
    refine Ops.split_p 82 rfl (fun h4 => ?_) (fun h4 => ?_)
    ·rw [if_pos (by omega)] at hgg
     split at hgg
     case isFalse => cases hgg
     rename_i hcb2
     refine Ops.g rfl rfl rfl (Ops.fld (hS9.rd 0 rfl) rfl rfl rfl rfl inferInstance (Ops.g rfl rfl rfl (Ops.ldf_s (hS9.rd 0 rfl) rfl rfl rfl rfl rfl (Ops.g rfl rfl rfl (Ops.mi rfl rfl rfl (Ops.g rfl rfl rfl (Ops.idx hRl.2 rfl rfl rfl (by omega) (by omega) (Ops.g rfl rfl rfl (Ops.ld_int hRl rfl (by omega) rfl rfl ?_)))))))))
     refine Ops.g rfl rfl rfl (Ops.mi rfl rfl rfl (Ops.g rfl rfl rfl (Ops.eql rfl rfl rfl (Ops.pick_t rfl rfl rfl (Ops.mb rfl rfl rfl ?_)))))
     refine Ops.split_p 91 rfl (fun h5 => ?_) (fun h5 => ?_)
     ·rw [if_pos h5] at hgg
      split at hgg
      case h_1 => cases hgg
      rename_i y3 d3 hnx
      refine Ops.g rfl rfl rfl (Ops.fld (hS9.rd 0 rfl) rfl rfl rfl rfl inferInstance (Ops.g rfl rfl rfl (Ops.ldf_b (hS9.rd 0 rfl) rfl rfl rfl rfl rfl (Ops.g rfl rfl rfl ?_))))
      first | refine Ops.not_p rfl rfl ?_ | refine Ops.not rfl rfl ?_
      refine Ops.pick_t rfl rfl rfl (Ops.n (tQ (Cd.cond_t rfl (Cd.skip (tQ (Cd.seq (Cd.block (Cd.seq (Cd.region ?_)))))))))
      refine Ops.ld_agg 2 (hS9.rd 0 rfl) rfl rfl rfl (Ops.mi rfl rfl rfl (Ops.mi rfl rfl rfl (Ops.call (l11Next_c X (c : Int) (g : Int) y3 d3 hok (hS9.toBack (pre := [_, _, _])) hnx) rfl rfl rfl ?_)))
      rintro _ w10 ⟨x', hok', hp', rfl, hT⟩
      have hT := hT.toBack
      refine Ops.mv_tup rfl rfl rfl (Ops.extract rfl rfl rfl (Ops.extract rfl rfl rfl (Ops.new3 hT rfl ?_)))
      intro A11 w11 hT11
      skip
      refine Ops.st_agg 3 0 hT11 rfl rfl rfl rfl rfl rfl rfl ?_
      intro w12 hT12
      refine Ops.mi rfl rfl rfl (Ops.n (tQ (Cd.region (Ops.ld_agg 2 (hT12.rd 0 rfl) rfl rfl rfl ?_))))
      skip
      refine Ops.st_agg 3 1 hT12 rfl rfl rfl rfl rfl rfl rfl ?_
      intro w13 hT13
      refine Ops.n (blockQ_n (tQ (Cd.region (Ops.mi rfl rfl rfl (Ops.add rfl rfl rfl (by omega) (Ops.mi rfl rfl rfl (Ops.n (tQ ?_))))))))
      exact ⟨(r, g + 1, x'), Nat.lt_succ_self r, ⟨rfl, rfl, rfl, rfl, rfl, trivial⟩, hok', by rw [hp']; exact hgg, by show r + (g + 1) = 100; omega, hT13.tail⟩
     ·rw [if_neg h5] at hgg
      have hgg := Option.some.inj hgg
      refine Ops.k rfl rfl rfl rfl rfl (Ops.k rfl rfl rfl rfl rfl (Ops.k rfl rfl rfl rfl rfl (Ops.pick_f rfl rfl rfl (Ops.n (tQ (Cd.cond_f rfl (Cd.exit (thenQ_x (thenQ_x ?_)))))))))
      refine blockQ_x (blockQ_n (tQ (Cd.region (Ops.mi rfl rfl rfl (Ops.add rfl rfl rfl (by omega) (Ops.mi rfl rfl rfl (Ops.n (tQ ?_))))))))
      exact ⟨(q, c + 1, X), Nat.lt_succ_self q, ⟨rfl, rfl, rfl, rfl, trivial⟩, hok, by rw [hgg]; exact hc, by show q + (c + 1) = 3000; omega, hS9⟩
    ·rw [if_neg (by omega)] at hgg
     have hgg := Option.some.inj hgg
     refine Ops.k rfl rfl rfl rfl rfl (Ops.k rfl rfl rfl rfl rfl (Ops.k rfl rfl rfl rfl rfl (Ops.k rfl rfl rfl rfl rfl (Ops.k rfl rfl rfl rfl rfl (Ops.k rfl rfl rfl rfl rfl (Ops.k rfl rfl rfl rfl rfl (Ops.pick_f rfl rfl rfl (Ops.mb rfl rfl rfl (Ops.k rfl rfl rfl rfl rfl ?_)))))))))
     refine Ops.k rfl rfl rfl rfl rfl (Ops.k rfl rfl rfl rfl rfl (Ops.pick_f rfl rfl rfl (Ops.n (tQ (Cd.cond_f rfl (Cd.exit (thenQ_x (thenQ_x (blockQ_x ?_)))))))))
     refine blockQ_n (tQ (Cd.region (Ops.mi rfl rfl rfl (Ops.add rfl rfl rfl (by omega) (Ops.mi rfl rfl rfl (Ops.n (tQ ?_)))))))
     exact ⟨(q, c + 1, X), Nat.lt_succ_self q, ⟨rfl, rfl, rfl, rfl, trivial⟩, hok, by rw [hgg]; exact hc, by show q + (c + 1) = 3000; omega, hS9⟩
  ·have hir : rel.drop i = [] := List.drop_eq_nil_of_le (by omega)
   rw [hir] at hrr
   have hrr : some X.p = some y1 := hrr
   have hrr := Option.some.inj hrr
   refine Ops.k rfl rfl rfl rfl rfl (Ops.k rfl rfl rfl rfl rfl (Ops.k rfl rfl rfl rfl rfl (Ops.k rfl rfl rfl rfl rfl (Ops.k rfl rfl rfl rfl rfl (Ops.k rfl rfl rfl rfl rfl (Ops.k rfl rfl rfl rfl rfl (Ops.pick_f rfl rfl rfl (Ops.mb rfl rfl rfl (Ops.k rfl rfl rfl rfl rfl ?_)))))))))
   refine Ops.k rfl rfl rfl rfl rfl (Ops.k rfl rfl rfl rfl rfl (Ops.pick_f rfl rfl rfl (Ops.n (tQ (Cd.cond_f rfl (Cd.exit (thenQ_x (thenQ_x (blockQ_x ?_)))))))))
   refine tQ (Cd.seq (Cd.region (Ops.mi rfl rfl rfl (Ops.n (tQ (Cd.block ?_))))))
   refine Cd.loop (α := Nat × Nat × LS) (fun s => [(2, .pointer A2), (4, .pointer A4), (5, .pointer A5), (8, .int .i64 (c : Int)), (10, .int .i64 (s.2.1 : Int))]) (fun s w' => s.2.2.ok ∧ runGen (c : Int) gens s.1 s.2.1 s.2.2.p = some z1 ∧ s.1 + s.2.1 = 100 ∧ St w w' ([Bx 145 3 A5 s.2.2.cells, Bx 145 3 A4 [.slice none 0 0, .slice none 0 0, .bool false], Bx 118 2 A2 [.int .i64 (gens : Int), .slice Ar nr cr]] ++ (s.2.2.cks ++ []))) (fun s => s.1) (100, 0, X) ⟨rfl, rfl, rfl, rfl, rfl, trivial⟩ ⟨hok, by rw [hrr]; exact hz1, rfl, hS8⟩ ?_
   rintro ⟨k, g, X⟩ e w9 ⟨hok, hgg, hkg, hS9⟩
   dsimp only at hok hgg hkg hS9 ⊢
   obtain ⟨r, rfl⟩ : ∃ q, k = q + 1 := by cases k with | zero => cases hgg | succ q => exact ⟨q, rfl⟩
   have hgg : (if g < gens then (if 0 ≤ (c : Int) ∧ (c : Int) < (X.ls.length : Int) then (if gi X.ls c = c then (match nextP X.p c (g : Int) with | none => none | some (y, _) => runGen c gens r (g + 1) y) else some X.p) else none) else some X.p) = some z1 := hgg
   have hXm : X.ls.length = X.m := hok.2.2
   have hRl : RdI w9 X.B X.m X.ls := LS.rdI hS9
   refine Cd.seq (Cd.seq (Cd.region (Ops.mi rfl rfl rfl (Ops.fld (hS9.rd 2 rfl) rfl rfl rfl rfl inferInstance (Ops.ldf_i (hS9.rd 2 rfl) rfl rfl rfl rfl rfl (Ops.lss rfl rfl rfl (Ops.mb rfl rfl rfl ?_)))))))
   refine Ops.split_p 82 rfl (fun h4 => ?_) (fun h4 => ?_)
   ·rw [if_pos (by omega)] at hgg
    split at hgg
    case isFalse => cases hgg
    rename_i hcb2
    refine Ops.g rfl rfl rfl (Ops.fld (hS9.rd 0 rfl) rfl rfl rfl rfl inferInstance (Ops.g rfl rfl rfl (Ops.ldf_s (hS9.rd 0 rfl) rfl rfl rfl rfl rfl (Ops.g rfl rfl rfl (Ops.mi rfl rfl rfl (Ops.g rfl rfl rfl (Ops.idx hRl.2 rfl rfl rfl (by omega) (by omega) (Ops.g rfl rfl rfl (Ops.ld_int hRl rfl (by omega) rfl rfl ?_)))))))))
    refine Ops.g rfl rfl rfl (Ops.mi rfl rfl rfl (Ops.g rfl rfl rfl (Ops.eql rfl rfl rfl (Ops.pick_t rfl rfl rfl (Ops.mb rfl rfl rfl ?_)))))
    refine Ops.split_p 91 rfl (fun h5 => ?_) (fun h5 => ?_)
    ·rw [if_pos h5] at hgg
     split at hgg
     case h_1 => cases hgg
     rename_i y3 d3 hnx
     refine Ops.g rfl rfl rfl (Ops.fld (hS9.rd 0 rfl) rfl rfl rfl rfl inferInstance (Ops.g rfl rfl rfl (Ops.ldf_b (hS9.rd 0 rfl) rfl rfl rfl rfl rfl (Ops.g rfl rfl rfl ?_))))
     first | refine Ops.not_p rfl rfl ?_ | refine Ops.not rfl rfl ?_
     refine Ops.pick_t rfl rfl rfl (Ops.n (tQ (Cd.cond_t rfl (Cd.skip (tQ (Cd.seq (Cd.block (Cd.seq (Cd.region ?_)))))))))
     refine Ops.ld_agg 2 (hS9.rd 0 rfl) rfl rfl rfl (Ops.mi rfl rfl rfl (Ops.mi rfl rfl rfl (Ops.call (l11Next_c X (c : Int) (g : Int) y3 d3 hok (hS9.toBack (pre := [_, _, _])) hnx) rfl rfl rfl ?_)))
     rintro _ w10 ⟨x', hok', hp', rfl, hT⟩
     have hT := hT.toBack
     refine Ops.mv_tup rfl rfl rfl (Ops.extract rfl rfl rfl (Ops.extract rfl rfl rfl (Ops.new3 hT rfl ?_)))
     intro A11 w11 hT11
     skip
     refine Ops.st_agg 3 0 hT11 rfl rfl rfl rfl rfl rfl rfl ?_
     intro w12 hT12
     refine Ops.mi rfl rfl rfl (Ops.n (tQ (Cd.region (Ops.ld_agg 2 (hT12.rd 0 rfl) rfl rfl rfl ?_))))
     skip
     refine Ops.st_agg 3 1 hT12 rfl rfl rfl rfl rfl rfl rfl ?_
     intro w13 hT13
     refine Ops.n (blockQ_n (tQ (Cd.region (Ops.mi rfl rfl rfl (Ops.add rfl rfl rfl (by omega) (Ops.mi rfl rfl rfl (Ops.n (tQ ?_))))))))
     exact ⟨(r, g + 1, x'), Nat.lt_succ_self r, ⟨rfl, rfl, rfl, rfl, rfl, trivial⟩, hok', by rw [hp']; exact hgg, by show r + (g + 1) = 100; omega, hT13.tail⟩
    ·rw [if_neg h5] at hgg
     have hgg := Option.some.inj hgg
     refine Ops.k rfl rfl rfl rfl rfl (Ops.k rfl rfl rfl rfl rfl (Ops.k rfl rfl rfl rfl rfl (Ops.pick_f rfl rfl rfl (Ops.n (tQ (Cd.cond_f rfl (Cd.exit (thenQ_x (thenQ_x ?_)))))))))
     refine blockQ_x (blockQ_n (tQ (Cd.region (Ops.mi rfl rfl rfl (Ops.add rfl rfl rfl (by omega) (Ops.mi rfl rfl rfl (Ops.n (tQ ?_))))))))
     exact ⟨(q, c + 1, X), Nat.lt_succ_self q, ⟨rfl, rfl, rfl, rfl, trivial⟩, hok, by rw [hgg]; exact hc, by show q + (c + 1) = 3000; omega, hS9⟩
   ·rw [if_neg (by omega)] at hgg
    have hgg := Option.some.inj hgg
    refine Ops.k rfl rfl rfl rfl rfl (Ops.k rfl rfl rfl rfl rfl (Ops.k rfl rfl rfl rfl rfl (Ops.k rfl rfl rfl rfl rfl (Ops.k rfl rfl rfl rfl rfl (Ops.k rfl rfl rfl rfl rfl (Ops.k rfl rfl rfl rfl rfl (Ops.pick_f rfl rfl rfl (Ops.mb rfl rfl rfl (Ops.k rfl rfl rfl rfl rfl ?_)))))))))
    refine Ops.k rfl rfl rfl rfl rfl (Ops.k rfl rfl rfl rfl rfl (Ops.pick_f rfl rfl rfl (Ops.n (tQ (Cd.cond_f rfl (Cd.exit (thenQ_x (thenQ_x (blockQ_x ?_)))))))))
    refine blockQ_n (tQ (Cd.region (Ops.mi rfl rfl rfl (Ops.add rfl rfl rfl (by omega) (Ops.mi rfl rfl rfl (Ops.n (tQ ?_)))))))
    exact ⟨(q, c + 1, X), Nat.lt_succ_self q, ⟨rfl, rfl, rfl, rfl, trivial⟩, hok, by rw [hgg]; exact hc, by show q + (c + 1) = 3000; omega, hS9⟩
 ·rw [if_neg (by omega)] at hc
  have hc := Option.some.inj hc
  refine Ops.k rfl rfl rfl rfl rfl (Ops.k rfl rfl rfl rfl rfl (Ops.k rfl rfl rfl rfl rfl (Ops.pick_f rfl rfl rfl (Ops.n (tQ (Cd.cond_f rfl (Cd.exit (thenQ_x (thenQ_x ?_)))))))))
  refine blockQ_x (tQ (Cd.seq (Cd.region (Ops.ld_agg 2 (hS7.rd 0 rfl) rfl rfl rfl ?_))))
  skip
  refine Ops.st_agg 3 1 hS7 rfl rfl rfl rfl rfl rfl rfl ?_
  intro w8 hS8
  refine Ops.n (tQ (Cd.ret ?_))
  skip
  refine retc_r rfl (hS8.rd 1 rfl) ?_
  refine ⟨X, hok, hc, rfl, ?_⟩
  have h5 := ((hS8.sub ((List.Sublist.refl _).cons _)).sub ((List.Sublist.refl _).cons _)).sub ((List.Sublist.refl _).cons _)
  rwa [List.append_nil] at h5
end Go.Proofs.YtbhnfehcpnnjcaaGreatDoor.Vc
/-
 The reference's coset enumeration, walked: the table. Conditions: as each states them.
-/
namespace Go.Proofs.YtbhnfehcpnnjcaaGreatDoor.Vc
open Go.RowKit

def initL (n i : Nat) : List Int := (List.range n).map fun j => if 0 < j ∧ j < i then -1 else 0
theorem initL_one (n : Nat) : initL n 1 = List.replicate n 0 := by
 apply List.ext_getElem
 ·simp [initL]
 ·intro j h1 h2
  simp only [initL, List.getElem_map, List.getElem_range, List.getElem_replicate]
  rw [if_neg (by omega)]
theorem initL_set {n i : Nat} (h0 : 0 < i) : (initL n i).set i (-1) = initL n (i + 1) := by
 apply List.ext_getElem
 ·simp [initL]
 ·intro j h1 h2
  rw [List.getElem_set]
  simp only [initL, List.getElem_map, List.getElem_range]
  split
  ·rename_i e; subst e; rw [if_pos (by omega)]
  ·rename_i e
   by_cases hj : 0 < j ∧ j < i
   ·rw [if_pos hj, if_pos (by omega)]
   ·rw [if_neg hj, if_neg (by omega)]
def srchG (y : PS) (c : Int) (gens : Nat) : Nat → Nat → List Int → List Int → Option (List Int × List Int)
 | 0, _, _, _ => none
 | k + 1, g, ord, num => if g < gens then (match imageP y c (g : Int) with
  | none => none
  | some d => if 0 ≤ d ∧ d < (num.length : Int) ∧ ord.length < 1000000 then (if gi num d < 0 then srchG y c gens k (g + 1) (ord ++ [d]) (num.set d.toNat (ord.length : Int)) else srchG y c gens k (g + 1) ord num) else none) else some (ord, num)
def srchI (y : PS) (gens : Nat) : Nat → Nat → List Int → List Int → Option (List Int × List Int)
 | 0, _, _, _ => none
 | k + 1, i, ord, num => if i < ord.length then (match srchG y (gi ord (i : Int)) gens 100 0 ord num with
  | none => none
  | some (o, n) => srchI y gens k (i + 1) o n) else some (ord, num)
def rowP (y : PS) (num : List Int) (g : Nat) : List Int → Option (List Int)
 | [] => some []
 | c :: r => match imageP y c (g : Int) with
  | none => none
  | some d => if 0 ≤ d ∧ d < (num.length : Int) then (match rowP y num g r with | none => none | some l => some (gi num d :: l)) else none
def outP (y : PS) (num ord : List Int) (gens : Nat) : Nat → Nat → Option (List (List Int))
 | 0, _ => none
 | k + 1, g => if g < gens then (match rowP y num g ord with | none => none | some r => match outP y num ord gens k (g + 1) with | none => none | some l => some (r :: l)) else some []
def tableP (gens : Nat) (rel : List (List Int)) : Option (List (List Int)) :=
 match runP gens rel with
 | none => none
 | some y => if y.ls.length ≤ 100000 then (match srchI y gens 100000 0 [0] (initL y.ls.length y.ls.length) with
  | none => none
  | some (ord, num) => if ord.length ≤ 1000000 then outP y num ord gens 100 0 else none) else none

theorem l11Table_c (gens : Nat) (Ar : Option Addr) (nr cr : Nat) (rsr : List SlV) (rel : List (List Int)) (T : List (List Int)) (w : World) (hR : RowsI w Ar nr rsr rel) (hrel : ∀ x ∈ rel, x.length ≤ 1000000) (hnr : nr ≤ 1000000) (hp : tableP gens rel = some T) :
  Ret Tryz.prog 137 [.agg #[.int .i64 (gens : Int), .slice Ar nr cr], .slice none 0 0] w (fun v w' => ∃ A c rs, v = .tuple #[.slice A T.length c, .bool true] ∧ rs.length = T.length ∧ St w w' (mat 28 2 A T.length c rs T)) := by
 unfold tableP at hp
 split at hp
 case h_1 => cases hp
 rename_i y hy
 split at hp
 case isFalse => cases hp
 rename_i hyl
 split at hp
 case h_1 => cases hp
 rename_i ord1 num1 hsr
 split at hp
 case isFalse => cases hp
 rename_i hol
 refine Ret.of_cd Tryz.func137 rfl Tryz.ntmps137 rfl (post2 rfl) (Cd.seq (Cd.region (Ops.box2 (St.refl w) rfl rfl ?_)))
 intro A2 w1 hS1
 refine Ops.ms rfl rfl rfl (Ops.mb rfl rfl rfl (Ops.n (tQ (Cd.seq (Cd.region (Ops.ld_agg 1 (hS1.rd 0 rfl) rfl rfl rfl (Ops.ms rfl rfl rfl (Ops.call (l11Run_c gens Ar nr cr rsr rel none 0 y _ (hS1.oldRows hR) hrel hnr hy) rfl rfl rfl ?_))))))))
 rintro _ w2 ⟨x, hok, hxp, rfl, hst⟩
 have hS2 := hS1.call hst
 skip
 refine Ops.new3 hS2 rfl ?_
 intro A6 w3 hS3
 skip
 refine Ops.st_agg 3 0 hS3 rfl rfl rfl rfl rfl rfl rfl ?_
 intro w4 hS4
 have hS4 : St w w4 ([Bx 145 3 A6 x.cells] ++ (x.cks ++ [Bx 118 2 A2 [.int .i64 (gens : Int), .slice Ar nr cr]])) := hS4
 have hI : RowsI w4 x.A x.n x.rs x.im := LS.rowsI hok hS4
 have hL : RdI w4 x.B x.m x.ls := LS.rdI hS4
 have hB6 := hS4.rd 0 rfl
 have hB2 : Rd w4 A2 2 (fun j => [Value.int .i64 (gens : Int), .slice Ar nr cr].getD j undef) := (hS4.sub (List.singleton_sublist.2 (by simp : Bx 118 2 A2 [.int .i64 (gens : Int), .slice Ar nr cr] ∈ _))).rd 0 rfl
 subst hxp
 have hxm : x.ls.length = x.m := hok.2.2
 have hyl : x.ls.length ≤ 100000 := hyl
 have hsr : srchI x.p gens 100000 0 [0] (initL x.ls.length x.ls.length) = some (ord1, num1) := hsr
 rw [hxm] at hsr hyl
 refine Ops.n (tQ (Cd.seq (Cd.seq (Cd.region (Ops.fld hB6 rfl rfl rfl rfl inferInstance (Ops.ldf_b hB6 rfl rfl rfl rfl rfl (Ops.n (tQ (Cd.cond_f rfl ?_)))))))))
 refine Cd.skip (tQ (Cd.seq (Cd.region (Ops.bs1I (St.refl w4) rfl rfl rfl ?_))))
 intro A7 w5 hT5
 have hB65 := Rd.below hB6 hT5.below
 refine Ops.ms rfl rfl rfl (Ops.n (tQ (Cd.seq (Cd.region (Ops.fld hB65 rfl rfl rfl rfl inferInstance (Ops.ldf_s hB65 rfl rfl rfl rfl rfl (Ops.len rfl rfl (Ops.mkI x.m hT5 rfl rfl (by omega) ?_))))))))
 intro A8 w6 hT6
 rw [← initL_one] at hT6
 refine Ops.ms rfl rfl rfl (Ops.n (tQ (Cd.seq (Cd.seq (Cd.region (Ops.mi rfl rfl rfl (Ops.n (tQ (Cd.block ?_)))))))))
 refine Cd.loop (α := Nat) (fun i => [(2, .pointer A2), (6, .pointer A6), (7, .slice A7 1 1), (8, .slice A8 x.m x.m), (9, .int .i64 (i : Int))]) (fun i w' => St w4 w' [CkI 2 A8 x.m x.m (initL x.m i), CkI 2 A7 1 1 [0]] ∧ 1 ≤ i ∧ (i ≤ x.m ∨ i = 1)) (fun i => x.m - i) 1 ⟨rfl, rfl, rfl, rfl, rfl, trivial⟩ ⟨hT6, Nat.le_refl _, .inr rfl⟩ ?_
 rintro i e w7 ⟨hT7, hi1, hi2⟩
 refine Cd.seq (Cd.seq (Cd.region (Ops.mi rfl rfl rfl (Ops.ms rfl rfl rfl (Ops.len rfl rfl (Ops.lss rfl rfl rfl (Ops.n (tQ ?_))))))))
 refine Cd.cond_p _ rfl (fun h1 => ?_) (fun h1 => ?_)
 ·have hR7 := hT7.rdI 0 rfl
  refine Cd.skip (tQ (Cd.seq (Cd.block (Cd.region (Ops.ms rfl rfl rfl (Ops.mi rfl rfl rfl (Ops.idx hR7.2 rfl rfl rfl (by omega) (by omega) (Ops.st_int 0 hT7 rfl rfl rfl (by omega) ?_))))))))
  intro w8 hT8
  rw [Int.toNat_natCast, initL_set (by omega)] at hT8
  refine Ops.n (blockQ_n (tQ (Cd.region (Ops.mi rfl rfl rfl (Ops.add rfl rfl rfl (by omega) (Ops.mi rfl rfl rfl (Ops.n (tQ ?_))))))))
  exact ⟨i + 1, by omega, ⟨rfl, rfl, rfl, rfl, rfl, trivial⟩, hT8, by omega, by omega⟩
 have hin : initL x.m i = initL x.m x.m := by
  unfold initL
  apply List.map_congr_left
  intro j hj
  have hj := List.mem_range.1 hj
  by_cases h : 0 < j
  ·rw [if_pos (by omega), if_pos (by omega)]
  ·rw [if_neg (by omega), if_neg (by omega)]
 rw [hin] at hT7
 refine Cd.exit (thenQ_x (thenQ_x (blockQ_x (tQ (Cd.seq (Cd.seq (Cd.region (Ops.mi rfl rfl rfl (Ops.n ?_)))))))))
 refine tQ (Cd.block ?_)
 refine Cd.loop (α := Nat × Nat × Option Addr × Nat × List Int × List Int) (fun s => [(2, .pointer A2), (6, .pointer A6), (7, .slice s.2.2.1 s.2.2.2.2.1.length s.2.2.2.1), (8, .slice A8 x.m x.m), (10, .int .i64 (s.2.1 : Int))]) (fun s w' => St w4 w' [CkI 2 A8 x.m x.m s.2.2.2.2.2, CkI 2 s.2.2.1 s.2.2.2.2.1.length s.2.2.2.1 s.2.2.2.2.1] ∧ s.1 + s.2.1 = 100000 ∧ srchI x.p gens s.1 s.2.1 s.2.2.2.2.1 s.2.2.2.2.2 = some (ord1, num1)) (fun s => s.1) (100000, 0, A7, 1, [0], initL x.m x.m) ⟨rfl, rfl, rfl, rfl, rfl, trivial⟩ ⟨hT7, rfl, hsr⟩ ?_
 rintro ⟨k, i, A7, c7, ord, num⟩ e w8 ⟨hT8, hki, hsr⟩
 dsimp only at hT8 hki hsr ⊢
 obtain ⟨q, rfl⟩ : ∃ q, k = q + 1 := by cases k with | zero => cases hsr | succ q => exact ⟨q, rfl⟩
 rw [srchI] at hsr
 refine Cd.seq (Cd.seq (Cd.region (Ops.mi rfl rfl rfl (Ops.ms rfl rfl rfl (Ops.len rfl rfl (Ops.lss rfl rfl rfl (Ops.n (tQ ?_))))))))
 refine Cd.cond_p _ rfl (fun h2 => ?_) (fun h2 => ?_)
 ·rw [if_pos (by omega)] at hsr
  split at hsr
  case h_1 => cases hsr
  rename_i o2 n2 hsg
  refine Cd.skip (tQ (Cd.seq (Cd.block (Cd.seq (Cd.region (Ops.mi rfl rfl rfl (Ops.n (tQ (Cd.block ?_)))))))))
  refine Cd.loop (α := Nat × Nat × Option Addr × Nat × List Int × List Int) (fun s => [(2, .pointer A2), (6, .pointer A6), (7, .slice s.2.2.1 s.2.2.2.2.1.length s.2.2.2.1), (8, .slice A8 x.m x.m), (10, .int .i64 (i : Int)), (11, .int .i64 (s.2.1 : Int))]) (fun s w' => St w4 w' [CkI 2 A8 x.m x.m s.2.2.2.2.2, CkI 2 s.2.2.1 s.2.2.2.2.1.length s.2.2.2.1 s.2.2.2.2.1] ∧ s.1 + s.2.1 = 100 ∧ i < s.2.2.2.2.1.length ∧ gi s.2.2.2.2.1 (i : Int) = gi ord (i : Int) ∧ srchG x.p (gi ord (i : Int)) gens s.1 s.2.1 s.2.2.2.2.1 s.2.2.2.2.2 = some (o2, n2)) (fun s => s.1) (100, 0, A7, c7, ord, num) ⟨rfl, rfl, rfl, rfl, rfl, rfl, trivial⟩ ⟨hT8, rfl, by show i < ord.length; omega, rfl, hsg⟩ ?_
  rintro ⟨kk, g, A7, c7, ord', num⟩ e w9 ⟨hT9, hkg, hio, hgo, hsg⟩
  dsimp only at hT9 hkg hio hgo hsg ⊢
  obtain ⟨r, rfl⟩ : ∃ q, kk = q + 1 := by cases kk with | zero => cases hsg | succ q => exact ⟨q, rfl⟩
  rw [srchG] at hsg
  have hB29 := Rd.below hB2 hT9.below
  have hB69 := Rd.below hB6 hT9.below
  have hI9 := hT9.oldRows hI
  have hL9 := hT9.oldI hL
  have hO9 := hT9.rdI 1 rfl
  have hN9 := hT9.rdI 0 rfl
  have hnl : num.length = x.m := hN9.1
  refine Cd.seq (Cd.seq (Cd.region (Ops.mi rfl rfl rfl (Ops.fld hB29 rfl rfl rfl rfl inferInstance (Ops.ldf_i hB29 rfl rfl rfl rfl rfl (Ops.lss rfl rfl rfl (Ops.n (tQ ?_))))))))
  refine Cd.cond_p _ rfl (fun h3 => ?_) (fun h3 => ?_)
  ·rw [if_pos (by omega)] at hsg
   split at hsg
   case h_1 => cases hsg
   rename_i d hd
   split at hsg
   case isFalse => cases hsg
   rename_i hdb
   rw [← hgo] at hd
   refine Cd.skip (tQ (Cd.seq (Cd.block (Cd.seq ?_))))
   refine Cd.draw [.ex (.agg #[.slice (x.A) (x.n) (x.c), .slice (x.B) (x.m) (x.cB), .bool (false)]), .ex (.slice (A7) (ord'.length) (c7)), .ex (.int .i64 ((i : Int))), .ex (.pointer (ptrAt (A7) ((i : Int)).toNat)), .ex (.int .i64 (gi (ord') ((i : Int)))), .ex (.int .i64 ((g : Int))), .ex (.int .i64 (d)), .ex (.int .i64 (d))] (by kernel_rfl) (by kernel_rfl) rfl (lx (lx (lx (lx (lx (lx (lx (lx (fun _ h => by cases h))))))))) ⟨?_, ?_, ?_, ?_, ?_, ?_, ?_, ?_, trivial⟩ ?_
   ·intro e1 w1 hb hp hun
    refine Ops.ld_agg 2 (hB69.below hb) rfl rfl rfl (Ops.n (d0 (by exact rfl)))
   ·intro e1 w1 hb hp hun
    refine Ops.ms rfl rfl rfl (Ops.n (d0 (by exact rfl)))
   ·intro e1 w1 hb hp hun
    refine Ops.mi rfl rfl rfl (Ops.n (d0 (by exact rfl)))
   ·intro e1 w1 hb hp hun
    refine Ops.idx (hO9.later hb).2 rfl rfl rfl (by omega) (by omega) (Ops.n (d0 (by exact rfl)))
   ·intro e1 w1 hb hp hun
    refine Ops.ld_int (hO9.later hb) rfl (by omega) rfl rfl (Ops.n (d0 (by exact rfl)))
   ·intro e1 w1 hb hp hun
    refine Ops.mi rfl rfl rfl (Ops.n (d0 (by exact rfl)))
   ·intro e1 w1 hb hp hun
    refine Ops.call (l11Image_c x.rs x.im x.ls _ (g : Int) d _ (hI9.later hb) (hL9.later hb) hd) rfl rfl rfl ?_
    rintro _ w2 ⟨rfl, hst⟩
    refine Ops.n ?_
    exact After.dn hst.below (by exact rfl)
   ·intro e1 w1 hb hp hun
    refine Ops.mi rfl rfl rfl (Ops.n (d0 (by exact rfl)))
   intro u w10 hb10 _
   have hT10 := hT9.later hb10
   have hN10 := hT10.rdI 0 rfl
   refine tQ (Cd.seq (Cd.region (Ops.ms rfl rfl rfl (Ops.mi rfl rfl rfl (Ops.idx hN10.2 rfl rfl rfl (by omega) (by omega) (Ops.ld_int hN10 rfl (by omega) rfl rfl (Ops.lss rfl rfl rfl (Ops.n (tQ ?_)))))))))
   refine Cd.cond_p _ rfl (fun h4 => ?_) (fun h4 => ?_)
   ·rw [if_pos h4] at hsg
    refine Cd.seq (Cd.region (Ops.ms rfl rfl rfl (Ops.mi rfl rfl rfl (Ops.ms rfl rfl rfl (Ops.len rfl rfl (Ops.idx hN10.2 rfl rfl rfl (by omega) (by omega) (Ops.st_int 0 hT10 rfl rfl rfl (by omega) ?_)))))))
    intro w11 hT11
    have hT11 : St w4 w11 [CkI 2 A8 x.m x.m (num.set d.toNat (ord'.length : Int)), CkI 2 A7 ord'.length c7 ord'] := hT11
    refine Ops.n (tQ (Cd.region (Ops.ms rfl rfl rfl (Ops.mi rfl rfl rfl (Ops.bs1I hT11 rfl rfl rfl ?_)))))
    intro A12 w12 hT12
    refine Ops.appI 2 hT12 rfl (hT12.rdI 0 rfl) rfl rfl rfl (by omega) (by omega) rfl ?_
    intro A13 c13 w13 hT13
    have hT13 : St w4 w13 [CkI 2 A8 x.m x.m (num.set d.toNat (ord'.length : Int)), CkI 2 A13 (ord'.length + 1) c13 (ord' ++ [d])] := hT13.tail
    refine Ops.ms rfl rfl rfl (Ops.n (blockQ_n (tQ (Cd.region (Ops.mi rfl rfl rfl (Ops.add rfl rfl rfl (by omega) (Ops.mi rfl rfl rfl (Ops.n (tQ ?_)))))))))
    refine ⟨(r, g + 1, A13, c13, ord' ++ [d], num.set d.toNat (ord'.length : Int)), Nat.lt_succ_self r, ⟨rfl, rfl, by show Value.slice _ _ _ = .slice _ _ _; rw [List.length_append]; rfl, rfl, rfl, rfl, trivial⟩, by dsimp only; rw [List.length_append]; exact hT13, by show r + (g + 1) = 100; omega, by show i < (ord' ++ [d]).length; rw [List.length_append]; omega, ?_, hsg⟩
    show gi (ord' ++ [d]) (i : Int) = _
    rw [← hgo, gi_mem (by rw [List.length_append]; omega), gi_mem hio, List.getElem_append_left hio]
   ·rw [if_neg h4] at hsg
    refine Cd.skip (blockQ_n (tQ (Cd.region (Ops.mi rfl rfl rfl (Ops.add rfl rfl rfl (by omega) (Ops.mi rfl rfl rfl (Ops.n (tQ ?_))))))))
    exact ⟨(r, g + 1, A7, c7, ord', num), Nat.lt_succ_self r, ⟨rfl, rfl, rfl, rfl, rfl, rfl, trivial⟩, hT10, by show r + (g + 1) = 100; omega, hio, hgo, hsg⟩
  ·rw [if_neg (by omega)] at hsg
   have hsg := Option.some.inj hsg
   simp only [Prod.mk.injEq] at hsg
   obtain ⟨rfl, rfl⟩ := hsg
   refine Cd.exit (thenQ_x (thenQ_x (blockQ_x (blockQ_n (tQ (Cd.region (Ops.mi rfl rfl rfl (Ops.add rfl rfl rfl (by omega) (Ops.mi rfl rfl rfl ?_)))))))))
   refine Ops.n (tQ ?_)
   exact ⟨(q, i + 1, A7, c7, ord', num), Nat.lt_succ_self q, ⟨rfl, rfl, rfl, rfl, rfl, trivial⟩, hT9, by show q + (i + 1) = 100000; omega, hsr⟩
 rw [if_neg (by omega)] at hsr
 have hsr := Option.some.inj hsr
 simp only [Prod.mk.injEq] at hsr
 obtain ⟨rfl, rfl⟩ := hsr
 have hN8 := hT8.rdI 0 rfl
 have hnl : num.length = x.m := hN8.1
 refine Cd.exit (thenQ_x (thenQ_x (blockQ_x (tQ (Cd.seq (Cd.region (Ops.bs0 hT8 rfl ?_)))))))
 intro A13 w9 hT9
 have hT9 : St w4 w9 (mat 28 2 A13 0 0 [] [] ++ [CkI 2 A8 x.m x.m num, CkI 2 A7 ord.length c7 ord]) := hT9
 have hol2 : ord.length ≤ 1000000 := hol
 refine Ops.ms rfl rfl rfl (Ops.n (tQ (Cd.seq (Cd.seq (Cd.region (Ops.mi rfl rfl rfl (Ops.n (tQ (Cd.block ?_)))))))))
 refine Cd.loop (α := Nat × Nat × Option Addr × Nat × List SlV × List (List Int)) (fun s => [(2, .pointer A2), (6, .pointer A6), (7, .slice A7 ord.length c7), (8, .slice A8 x.m x.m), (13, .slice s.2.2.1 s.2.1 s.2.2.2.1), (14, .int .i64 (s.2.1 : Int))]) (fun s w' => St w4 w' (mat 28 2 s.2.2.1 s.2.1 s.2.2.2.1 s.2.2.2.2.1 s.2.2.2.2.2 ++ [CkI 2 A8 x.m x.m num, CkI 2 A7 ord.length c7 ord]) ∧ s.1 + s.2.1 = 100 ∧ s.2.2.2.2.1.length = s.2.1 ∧ s.2.2.2.2.2.length = s.2.1 ∧ ∃ l, outP x.p num ord gens s.1 s.2.1 = some l ∧ s.2.2.2.2.2 ++ l = T) (fun s => s.1) (100, 0, A13, 0, [], []) ⟨rfl, rfl, rfl, rfl, rfl, rfl, trivial⟩ ⟨hT9, rfl, rfl, rfl, T, hp, rfl⟩ ?_
 rintro ⟨k, g, B, cB, rs, xss⟩ e w10 ⟨hT10, hkg, hrl, hxl, l, hout, happ⟩
 dsimp only at hT10 hkg hrl hxl hout happ ⊢
 obtain ⟨q, rfl⟩ : ∃ q, k = q + 1 := by cases k with | zero => cases hout | succ q => exact ⟨q, rfl⟩
 rw [outP] at hout
 have hB210 := Rd.below hB2 hT10.below
 refine Cd.seq (Cd.seq (Cd.region (Ops.mi rfl rfl rfl (Ops.fld hB210 rfl rfl rfl rfl inferInstance (Ops.ldf_i hB210 rfl rfl rfl rfl rfl (Ops.lss rfl rfl rfl (Ops.n (tQ ?_))))))))
 refine Cd.cond_p _ rfl (fun h5 => ?_) (fun h5 => ?_)
 ·rw [if_pos (by omega)] at hout
  split at hout
  case h_1 => cases hout
  rename_i row hrow
  split at hout
  case h_1 => cases hout
  rename_i l2 hout2
  obtain rfl := Option.some.inj hout
  refine Cd.skip (tQ (Cd.seq (Cd.block (Cd.seq (Cd.region (Ops.bs0 hT10 rfl ?_))))))
  intro A15 w11 hT11
  refine Ops.ms rfl rfl rfl (Ops.n (tQ (Cd.seq (Cd.seq (Cd.region (Ops.mi rfl rfl rfl (Ops.n (tQ (Cd.block ?_)))))))))
  refine Cd.loop (α := Nat × Option Addr × Nat × List Int) (fun s => [(2, .pointer A2), (6, .pointer A6), (7, .slice A7 ord.length c7), (8, .slice A8 x.m x.m), (13, .slice B g cB), (14, .int .i64 (g : Int)), (15, .slice s.2.1 s.1 s.2.2.1), (16, .int .i64 (s.1 : Int))]) (fun s w' => St w4 w' (CkI 2 s.2.1 s.1 s.2.2.1 s.2.2.2 :: (mat 28 2 B g cB rs xss ++ [CkI 2 A8 x.m x.m num, CkI 2 A7 ord.length c7 ord])) ∧ s.1 ≤ ord.length ∧ s.2.2.2.length = s.1 ∧ ∃ l, rowP x.p num g (ord.drop s.1) = some l ∧ s.2.2.2 ++ l = row) (fun s => ord.length - s.1) (0, A15, 0, []) ⟨rfl, rfl, rfl, rfl, rfl, rfl, rfl, rfl, trivial⟩ ⟨hT11, Nat.zero_le _, rfl, row, hrow, rfl⟩ ?_
  rintro ⟨j, A15, c15, acc⟩ e w12 ⟨hT12, hj, hal, l3, hl3, hal3⟩
  dsimp only at hT12 hj hal hl3 hal3 ⊢
  refine Cd.seq (Cd.seq (Cd.region (Ops.mi rfl rfl rfl (Ops.ms rfl rfl rfl (Ops.len rfl rfl (Ops.lss rfl rfl rfl (Ops.n (tQ ?_))))))))
  refine Cd.cond_p _ rfl (fun h6 => ?_) (fun h6 => ?_)
  ·have hjo : j < ord.length := by omega
   rw [List.drop_eq_getElem_cons hjo, ← gi_mem hjo] at hl3
   simp only [rowP] at hl3
   split at hl3
   case h_1 => cases hl3
   rename_i d hd
   split at hl3
   case isFalse => cases hl3
   rename_i hdb
   split at hl3
   case h_1 => cases hl3
   rename_i l4 hl4
   obtain rfl := Option.some.inj hl3
   have hB612 := Rd.below hB6 hT12.below
   have hI12 := hT12.oldRows hI
   have hL12 := hT12.oldI hL
   have hS12 : St w4 w12 ([CkI 2 A8 x.m x.m num, CkI 2 A7 ord.length c7 ord] ++ (CkI 2 A15 j c15 acc :: mat 28 2 B g cB rs xss)) := hT12.perm (List.perm_append_comm (l₁ := CkI 2 A15 j c15 acc :: mat 28 2 B g cB rs xss))
   have hO12 := hS12.rdI 1 rfl
   have hN12 := hS12.rdI 0 rfl
   refine Cd.skip (tQ (Cd.seq (Cd.block ?_)))
   refine Cd.drawN [12] [.ex (.slice (A15) (j) (c15)), .ex (.slice (A8) (x.m) (x.m)), .ex (.agg #[.slice (x.A) (x.n) (x.c), .slice (x.B) (x.m) (x.cB), .bool (false)]), .ex (.slice (A7) (ord.length) (c7)), .ex (.int .i64 ((j : Int))), .ex (.pointer (ptrAt (A7) ((j : Int)).toNat)), .ex (.int .i64 (gi (ord) ((j : Int)))), .ex (.int .i64 ((g : Int))), .ex (.int .i64 (d)), .ex (.pointer (ptrAt (A8) (d).toNat)), .ex (.int .i64 (gi (num) (d))), .pr (fun v w' => ∃ A20, v = .slice A20 1 1 ∧ St w4 w' (CkI 2 A20 1 1 [gi num d] :: CkI 2 A15 j c15 acc :: (mat 28 2 B g cB rs xss ++ [CkI 2 A8 x.m x.m num, CkI 2 A7 ord.length c7 ord]))), .pr (fun v w' => ∃ A21 c21, v = .slice A21 (j + 1) c21 ∧ St w4 w' (CkI 2 A21 (j + 1) c21 (acc ++ [gi num d]) :: (mat 28 2 B g cB rs xss ++ [CkI 2 A8 x.m x.m num, CkI 2 A7 ord.length c7 ord]))), .pr (fun v w' => ∃ A21 c21, v = .slice A21 (j + 1) c21 ∧ St w4 w' (CkI 2 A21 (j + 1) c21 (acc ++ [gi num d]) :: (mat 28 2 B g cB rs xss ++ [CkI 2 A8 x.m x.m num, CkI 2 A7 ord.length c7 ord])))] (by kernel_rfl) (by kernel_rfl) (lx (lx (lx (lx (lx (lx (lx (lx (lx (lx (lx (List.forall_mem_cons.2 ⟨Yd.lasts_pr (fun v w w' h hb => by obtain ⟨A20, hv, h1⟩ := h; exact ⟨A20, hv, h1.later hb⟩), (List.forall_mem_cons.2 ⟨Yd.lasts_pr (fun v w w' h hb => by obtain ⟨A21, c21, hv, h1⟩ := h; exact ⟨A21, c21, hv, h1.later hb⟩), (List.forall_mem_cons.2 ⟨Yd.lasts_pr (fun v w w' h hb => by obtain ⟨A21, c21, hv, h1⟩ := h; exact ⟨A21, c21, hv, h1.later hb⟩), (fun _ h => by cases h)⟩)⟩)⟩)))))))))))) ⟨?_, ?_, ?_, ?_, ?_, ?_, ?_, ?_, ?_, ?_, ?_, ?_, ?_, ?_, trivial⟩ ?_
   ·intro e1 w1 cc hlo hhi hb0 hp hun hq
    show Ops _ _ _ _ _ _ _
    obtain rfl := cc_of hlo hhi (b := 0) (by kernel_rfl) (by kernel_rfl); clear hlo hhi
    have hb := hb0 rfl
    refine Ops.ms rfl (by exact hun 13 _ rfl (by kernel_rfl)) rfl (Ops.n (n0 rfl (by exact rfl)))
   ·intro e1 w1 cc hlo hhi hb0 hp hun hq
    show Ops _ _ _ _ _ _ _
    refine Ops.ms rfl rfl rfl (Ops.n (n0 rfl (by exact rfl)))
   ·intro e1 w1 cc hlo hhi hb0 hp hun hq
    show Ops _ _ _ _ _ _ _
    obtain rfl := cc_of hlo hhi (b := 0) (by kernel_rfl) (by kernel_rfl); clear hlo hhi
    have hb := hb0 rfl
    refine Ops.ld_agg 2 (hB612.below hb) rfl rfl rfl (Ops.n (n0 rfl (by exact rfl)))
   ·intro e1 w1 cc hlo hhi hb0 hp hun hq
    show Ops _ _ _ _ _ _ _
    refine Ops.ms rfl rfl rfl (Ops.n (n0 rfl (by exact rfl)))
   ·intro e1 w1 cc hlo hhi hb0 hp hun hq
    show Ops _ _ _ _ _ _ _
    refine Ops.mi rfl rfl rfl (Ops.n (n0 rfl (by exact rfl)))
   ·intro e1 w1 cc hlo hhi hb0 hp hun hq
    show Ops _ _ _ _ _ _ _
    obtain rfl := cc_of hlo hhi (b := 0) (by kernel_rfl) (by kernel_rfl); clear hlo hhi
    have hb := hb0 rfl
    refine Ops.idx (hO12.later hb).2 rfl rfl rfl (by omega) (by omega) (Ops.n (n0 rfl (by exact rfl)))
   ·intro e1 w1 cc hlo hhi hb0 hp hun hq
    show Ops _ _ _ _ _ _ _
    obtain rfl := cc_of hlo hhi (b := 0) (by kernel_rfl) (by kernel_rfl); clear hlo hhi
    have hb := hb0 rfl
    refine Ops.ld_int (hO12.later hb) rfl (by omega) rfl rfl (Ops.n (n0 rfl (by exact rfl)))
   ·intro e1 w1 cc hlo hhi hb0 hp hun hq
    show Ops _ _ _ _ _ _ _
    refine Ops.mi rfl rfl rfl (Ops.n (n0 rfl (by exact rfl)))
   ·intro e1 w1 cc hlo hhi hb0 hp hun hq
    show Ops _ _ _ _ _ _ _
    obtain rfl := cc_of hlo hhi (b := 0) (by kernel_rfl) (by kernel_rfl); clear hlo hhi
    have hb := hb0 rfl
    refine Ops.call (l11Image_c x.rs x.im x.ls _ (g : Int) d _ (hI12.later hb) (hL12.later hb) hd) rfl rfl rfl ?_
    rintro _ w2 ⟨rfl, hst⟩
    refine Ops.n ?_
    exact AfterN.dn rfl hst.below (by exact rfl)
   ·intro e1 w1 cc hlo hhi hb0 hp hun hq
    show Ops _ _ _ _ _ _ _
    obtain rfl := cc_of hlo hhi (b := 0) (by kernel_rfl) (by kernel_rfl); clear hlo hhi
    have hb := hb0 rfl
    refine Ops.idx (hN12.later hb).2 rfl rfl rfl (by omega) (by omega) (Ops.n (n0 rfl (by exact rfl)))
   ·intro e1 w1 cc hlo hhi hb0 hp hun hq
    show Ops _ _ _ _ _ _ _
    obtain rfl := cc_of hlo hhi (b := 0) (by kernel_rfl) (by kernel_rfl); clear hlo hhi
    have hb := hb0 rfl
    refine Ops.ld_int (hN12.later hb) rfl (by omega) rfl rfl (Ops.n (n0 rfl (by exact rfl)))
   ·intro e1 w1 cc hlo hhi hb0 hp hun hq
    show Ops _ _ _ _ _ _ _
    obtain rfl := cc_of hlo hhi (b := 0) (by kernel_rfl) (by kernel_rfl); clear hlo hhi
    have hb := hb0 rfl
    refine Ops.bs1I (St.refl _) rfl rfl rfl ?_
    intro A20 w20 hst20
    refine Ops.n ?_
    exact AfterN.dn rfl hst20.below ⟨A20, rfl, (hT12.later hb).call hst20⟩
   ·intro e1 w1 cc hlo hhi hb0 hp hun hq
    show Ops _ _ _ _ _ _ _
    obtain rfl := cc_of hlo hhi (b := 0) (by kernel_rfl) (by kernel_rfl); clear hlo hhi
    have hb := hb0 rfl
    obtain ⟨A20, hv, h1⟩ := (hp 11 _ _ (by kernel_rfl) rfl rfl (by kernel_rfl))
    refine Ops.appI 1 h1 rfl (h1.rdI 0 rfl) rfl (by exact hv) rfl (by omega) (by omega) rfl ?_
    intro A21 c21 w21 hT21
    refine Ops.n ?_
    exact AfterT.dn rfl ⟨A21, c21, rfl, hT21.tail⟩
   ·intro e1 w1 cc hlo hhi hb0 hp hun hq
    show Ops _ _ _ _ _ _ _
    obtain rfl := cc_of hlo hhi (b := 1) (by kernel_rfl) (by kernel_rfl); clear hlo hhi
    have hph := hp 12 _ _ (by kernel_rfl) rfl rfl (by kernel_rfl)
    obtain ⟨A21, c21, hv, h1⟩ := (hp 12 _ _ (by kernel_rfl) rfl rfl (by kernel_rfl))
    refine Ops.ms rfl (by exact hv) rfl (Ops.n ?_)
    exact AfterN.dn rfl (Below.refl _ _) ⟨A21, c21, rfl, h1⟩
   intro u w13 _ hu
   obtain ⟨A21, c21, hv, hT13⟩ := hu 13 _ rfl (by kernel_rfl)
   refine blockQ_n (tQ (Cd.region (Ops.mi rfl rfl rfl (Ops.add rfl rfl rfl (by omega) (Ops.mi rfl rfl rfl (Ops.n (tQ ?_)))))))
   exact ⟨(j + 1, A21, c21, acc ++ [gi num d]), by omega, ⟨rfl, rfl, rfl, rfl, rfl, rfl, hv, rfl, trivial⟩, hT13, by show j + 1 ≤ ord.length; omega, by show (acc ++ [gi num d]).length = j + 1; rw [List.length_append, hal]; rfl, l4, hl4, by show (acc ++ [gi num d]) ++ l4 = row; rw [← hal3, List.append_assoc]; rfl⟩
  ·have hjl : j = ord.length := by omega
   rw [List.drop_eq_nil_of_le (by omega)] at hl3
   obtain rfl := Option.some.inj hl3
   rw [List.append_nil] at hal3
   subst hal3
   refine Cd.exit (thenQ_x (thenQ_x (blockQ_x (tQ (Cd.region (Ops.ms rfl rfl rfl (Ops.ms rfl rfl rfl (Ops.bs1R hT12 rfl rfl rfl ?_))))))))
   intro A22 w13 hT13
   refine Ops.appR 2 hT13 rfl (hT13.rdR 0 rfl) rfl rfl rfl (by omega) (by omega) rfl ?_
   intro A23 c23 w14 hT14
   have hT14 : St w4 w14 (CkI 2 A15 j c15 acc :: CkR 28 A23 (g + 1) c23 (rs ++ [⟨A15, j, c15⟩]) :: (rowsCk 2 rs xss ++ [CkI 2 A8 x.m x.m num, CkI 2 A7 ord.length c7 ord])) := hT14.tail
   refine Ops.ms rfl rfl rfl (Ops.n (blockQ_n (tQ (Cd.region (Ops.mi rfl rfl rfl (Ops.add rfl rfl rfl (by omega) (Ops.mi rfl rfl rfl (Ops.n (tQ ?_)))))))))
   refine ⟨(q, g + 1, A23, c23, rs ++ [⟨A15, j, c15⟩], xss ++ [acc]), Nat.lt_succ_self q, ⟨rfl, rfl, rfl, rfl, rfl, rfl, trivial⟩, ?_, by show q + (g + 1) = 100; omega, by simp [hrl], by simp [hxl], l2, hout2, by show (xss ++ [acc]) ++ l2 = T; rw [← happ, List.append_assoc]; rfl⟩
   show St w4 w14 (CkR 28 A23 (g + 1) c23 (rs ++ [⟨A15, j, c15⟩]) :: (rowsCk 2 (rs ++ [⟨A15, j, c15⟩]) (xss ++ [acc]) ++ [CkI 2 A8 x.m x.m num, CkI 2 A7 ord.length c7 ord]))
   rw [rowsCk_append (by omega), List.append_assoc]
   refine hT14.perm ?_
   refine (List.Perm.swap _ _ _).trans (List.Perm.cons _ ?_)
   exact List.perm_middle.symm
 ·rw [if_neg (by omega)] at hout
  obtain rfl := Option.some.inj hout
  rw [List.append_nil] at happ
  subst happ
  refine Cd.exit (thenQ_x (thenQ_x (blockQ_x (tQ (Cd.seq (Cd.region (Ops.ms rfl rfl rfl (Ops.ms rfl rfl rfl (Ops.mb rfl rfl rfl ?_)))))))))
  refine Ops.n (tQ (Cd.ret (ret2_sb rfl rfl ?_)))
  refine ⟨B, cB, rs, by rw [hxl], by omega, ?_⟩
  have h9 : St w4 w10 (mat 28 2 B g cB rs xss) := hT10.sub (List.sublist_append_left _ _)
  have h10 := hS4.call h9
  rw [hxl]
  exact h10.sub (List.sublist_append_left _ _)
end Go.Proofs.YtbhnfehcpnnjcaaGreatDoor.Vc
/-
 The reference's presentation of a string diagram, walked; tests that hold. Conditions: as each states them.
-/
namespace Go.Proofs.YtbhnfehcpnnjcaaGreatDoor.Vc
open Go.RowKit

def relOf (labels : List Int) (i k : Nat) : List (List Int) :=
 if 0 < (if k = i + 1 then gi labels (i : Int) else 2) then [pow [(i : Int), (k : Int)] (if k = i + 1 then gi labels (i : Int) else 2).toNat] else []
def presK (labels : List Int) (gens i : Nat) : Nat → Nat → List (List Int)
 | 0, _ => []
 | f + 1, k => if k < gens then relOf labels i k ++ presK labels gens i f (k + 1) else []
def presI (labels : List Int) (gens : Nat) : Nat → Nat → List (List Int)
 | 0, _ => []
 | f + 1, i => if i < gens then presK labels gens i f (i + 1) ++ presI labels gens f (i + 1) else []
def presP (labels : List Int) : List (List Int) := presI labels (labels.length + 1) 20 0

theorem l12Rank_c (A : Option Addr) (n c : Nat) (w : World) (hn : n ≤ 1000) : Ret Tryz.prog 135 [.slice A n c] w (fun v w' => v = .int .i64 ((n : Int) + 1) ∧ w' = w) := by
 refine Ret.of_cd Tryz.func135 rfl Tryz.ntmps135 rfl (post1 rfl) (Cd.seq (Cd.region (Ops.mi rfl rfl rfl (Ops.n (tQ (Cd.seq (Cd.region (Ops.ms rfl rfl rfl (Ops.len rfl rfl ?_)))))))))
 refine Ops.add rfl rfl rfl (by omega) (Ops.mi rfl rfl rfl (Ops.n (tQ (Cd.ret (ret1_i rfl ?_)))))
 exact ⟨rfl, rfl⟩

section
variable {P : Program} {N : Nat} {ops : Array Oper} {K : Env → World → Prop} {rest : List Oper} {e : Env} {w0 w w' : World} {ks : List Ck} {d : Nat} {ty : TypeId} {pos : String} {af : Array Edge}
theorem Ops.bld0of2 {t : TypeId} {f0 f1 : Field} {z0 z1 y0 y1 : Value} {b b0 b1 : Nat} [Und P t (.struct #[f0, f1])] [Inf P t (.agg #[z0, z1]) 2 b] {x0 : Operand} {v0 : Value} (hI0 : Inf P f0.type y0 1 b0) (hI1 : Inf P f1.type y1 1 b1) (ho : f0.offset = 0) (ho1 : f1.offset = 1) (h0 : ev e x0 = v0) (c0 : v0.oneCell' = true) (hb : Nat.blt d N = true)
    (hK : Ops P N ops K rest (upd e d (.agg #[v0, z1])) w) : Ops P N ops K (⟨some d, .build t #[(0, x0)], ty, pos, af, none⟩ :: rest) e w := by
  obtain ⟨inf, hi, hz0, hs, hby⟩ := Inf.get P t
  obtain ⟨inf0, hi0, _, hs0, _⟩ := hI0.get P f0.type
  obtain ⟨inf1, hi1, _, hs1, _⟩ := hI1.get P f1.type
  have e0 : v0.cells = #[v0] := by cases v0 <;> simp [Value.oneCell'] at c0 <;> rfl
  have ez : (Value.agg #[z0, z1]).cells = #[z0, z1] := rfl
  refine .val (w' := w) ?_ hb hK
  simp [execOp, Instr.build, run_underlying (Und.out (P := P) (t := t)), sizeOf, typeInfo, zeroValue, hi, hz0, hi0, hs0, hi1, hs1, ho, ho1, h0, e0, ez, Instr.fill]
end

structure PrS where
 f : Nat
 k : Nat
 B : Option Addr
 n : Nat
 c : Nat
 rs : List SlV
 xss : List (List Int)
theorem l12Presentation_c (Al : Option Addr) (nl cl : Nat) (labels : List Int) (w : World) (hR : RdI w Al nl labels) (hnl : nl ≤ 10) (hl : ∀ x ∈ labels, 0 ≤ x ∧ x ≤ 32) :
  Ret Tryz.prog 122 [.slice Al nl cl] w (fun v w' => ∃ B c rs, v = .agg #[.int .i64 ((nl : Int) + 1), .slice B (presP labels).length c] ∧ rs.length = (presP labels).length ∧ St w w' (mat 28 2 B (presP labels).length c rs (presP labels))) := by
 have hll := hR.1
 refine Ret.of_cd Tryz.func122 rfl Tryz.ntmps122 rfl (postc rfl rfl) (Cd.seq (Cd.region (Ops.new2 (St.refl w) rfl ?_)))
 intro A2 w1 hS1
 refine Ops.n (tQ (Cd.seq (Cd.region (Ops.ms rfl rfl rfl (Ops.call (l12Rank_c Al nl cl _ (by omega)) rfl rfl rfl ?_)))))
 rintro _ w2 ⟨rfl, rfl⟩
 skip
 refine Ops.bld0of2 (by exact inferInstance) (by exact inferInstance) rfl rfl rfl rfl rfl (Ops.new2 hS1 rfl ?_)
 intro A3 w2 hS2
 skip
 refine Ops.st_agg 2 0 hS2 rfl rfl rfl rfl rfl rfl rfl ?_
 intro w3 hS3
 have hS3 : St w w3 ([Bx 118 2 A3 [.int .i64 ((nl : Int) + 1), .slice none 0 0], Bx 118 2 A2 [.int .i64 0, .slice none 0 0]]) := hS3
 have hS4 : St w w3 (CkR 28 none 0 0 [] :: [Bx 118 2 A3 [.int .i64 ((nl : Int) + 1), .slice none 0 0], Bx 118 2 A2 [.int .i64 0, .slice none 0 0]]) := hS3.nil _
 have hS5 : St w w3 ([Bx 118 2 A3 [.int .i64 ((nl : Int) + 1), .slice none 0 0], Bx 118 2 A2 [.int .i64 0, .slice none 0 0]] ++ mat 28 2 none 0 0 [] []) := hS4.perm (List.perm_append_comm (l₁ := [_]) (l₂ := [_, _]))
 refine Ops.n (tQ (Cd.seq (Cd.seq (Cd.region (Ops.mi rfl rfl rfl (Ops.n (tQ (Cd.block ?_))))))))
 refine Cd.loop (α := PrS) (fun s => [(0, .slice Al nl cl), (2, .pointer A2), (3, .pointer A3), (4, .int .i64 (s.k : Int))]) (fun s w' => St w w' ([Bx 118 2 A3 [.int .i64 ((nl : Int) + 1), .slice s.B s.n s.c], Bx 118 2 A2 [.int .i64 0, .slice none 0 0]] ++ mat 28 2 s.B s.n s.c s.rs s.xss) ∧ s.rs.length = s.n ∧ s.xss.length = s.n ∧ s.n ≤ 20 * s.k ∧ s.k + s.f = 20 ∧ s.xss ++ presI labels (nl + 1) s.f s.k = presP labels) (fun s => s.f) ⟨20, 0, none, 0, 0, [], []⟩ ⟨rfl, rfl, rfl, rfl, trivial⟩ ⟨hS5, rfl, rfl, Nat.zero_le _, rfl, by unfold presP; rw [hll]; rfl⟩ ?_
 rintro ⟨f, i, B, n, cB, rs, xss⟩ e w4 ⟨hS4, hrl, hxl, hnk, hkf, hpre⟩
 dsimp only at hS4 hrl hxl hnk hkf hpre ⊢
 refine Cd.seq (Cd.seq (Cd.region (Ops.mi rfl rfl rfl (Ops.fld (hS4.rd 0 rfl) rfl rfl rfl rfl inferInstance (Ops.ldf_i (hS4.rd 0 rfl) rfl rfl rfl rfl rfl (Ops.lss rfl rfl rfl (Ops.n (tQ ?_))))))))
 refine Cd.cond_p _ rfl (fun h1 => ?_) (fun h1 => ?_)
 ·obtain ⟨f, rfl⟩ : ∃ q, f = q + 1 := ⟨f - 1, by omega⟩
  rw [presI, if_pos (by omega)] at hpre
  refine Cd.skip (tQ (Cd.seq (Cd.block (Cd.seq (Cd.region (Ops.mi rfl rfl rfl (Ops.add rfl rfl rfl (by omega) (Ops.mi rfl rfl rfl (Ops.n ?_)))))))))
  refine tQ (Cd.block ?_)
  refine Cd.loop (α := PrS) (fun s => [(0, .slice Al nl cl), (2, .pointer A2), (3, .pointer A3), (4, .int .i64 (i : Int)), (5, .int .i64 (s.k : Int))]) (fun s w' => St w w' ([Bx 118 2 A3 [.int .i64 ((nl : Int) + 1), .slice s.B s.n s.c], Bx 118 2 A2 [.int .i64 0, .slice none 0 0]] ++ mat 28 2 s.B s.n s.c s.rs s.xss) ∧ s.rs.length = s.n ∧ s.xss.length = s.n ∧ i + 1 ≤ s.k ∧ s.n + i + 1 ≤ 20 * i + s.k ∧ s.k + s.f = 20 ∧ s.xss ++ (presK labels (nl + 1) i s.f s.k ++ presI labels (nl + 1) f (i + 1)) = presP labels) (fun s => s.f) ⟨f, i + 1, B, n, cB, rs, xss⟩ ⟨rfl, rfl, rfl, rfl, rfl, trivial⟩ ⟨hS4, hrl, hxl, Nat.le_refl _, by show n + i + 1 ≤ 20 * i + (i + 1); omega, by show i + 1 + f = 20; omega, hpre⟩ ?_
  rintro ⟨g, k, B, n, cB, rs, xss⟩ e w5 ⟨hS5, hrl, hxl, hik, hnk2, hkg, hpre⟩
  dsimp only at hS5 hrl hxl hik hnk2 hkg hpre ⊢
  refine Cd.seq (Cd.seq (Cd.region (Ops.mi rfl rfl rfl (Ops.fld (hS5.rd 0 rfl) rfl rfl rfl rfl inferInstance (Ops.ldf_i (hS5.rd 0 rfl) rfl rfl rfl rfl rfl (Ops.lss rfl rfl rfl (Ops.n (tQ ?_))))))))
  refine Cd.cond_p _ rfl (fun h2 => ?_) (fun h2 => ?_)
  ·obtain ⟨g, rfl⟩ : ∃ q, g = q + 1 := ⟨g - 1, by omega⟩
   rw [presK, if_pos (by omega)] at hpre
   have hLb : ∃ L : Int, L = (if k = i + 1 then gi labels (i : Int) else 2) ∧ 0 ≤ L ∧ L ≤ 32 := by
    refine ⟨_, rfl, ?_⟩
    split
    ·have := hl (gi labels (i : Int)) (by rw [gi_mem (by omega)]; exact List.getElem_mem _)
     exact this
    ·omega
   obtain ⟨L, hL, hL0, hL32⟩ := hLb
   refine Cd.skip (tQ (Cd.seq (Cd.block (Cd.seq (Cd.region (Ops.mi rfl rfl rfl (Ops.n (tQ ?_))))))))
   refine Cd.join (α := Unit) (fun _ => [(0, .slice Al nl cl), (2, .pointer A2), (3, .pointer A3), (4, .int .i64 (i : Int)), (5, .int .i64 (k : Int)), (6, .int .i64 L)]) (fun _ w' => w' = w5) ?_ ?_
   ·refine Cd.seq (Cd.region (Ops.mi rfl rfl rfl (Ops.mi rfl rfl rfl (Ops.add rfl rfl rfl (by omega) (Ops.eql rfl rfl rfl (Ops.n (tQ ?_)))))))
    refine Cd.cond_p _ rfl (fun h3 => ?_) (fun h3 => ?_)
    ·have hRl := hS5.oldI hR
     refine Cd.region (Ops.ms rfl rfl rfl (Ops.mi rfl rfl rfl (Ops.idx hRl.2 rfl rfl rfl (by omega) (by omega) (Ops.ld_int hRl rfl (by omega) rfl rfl (Ops.mi rfl rfl rfl (Ops.n (tQ ?_)))))))
     exact ⟨(), ⟨rfl, rfl, rfl, rfl, rfl, by rw [hL, if_pos (by omega)]; rfl, trivial⟩, rfl⟩
    ·refine Cd.skip (tQ ?_)
     exact ⟨(), ⟨rfl, rfl, rfl, rfl, rfl, by rw [hL, if_neg (by omega)]; rfl, trivial⟩, rfl⟩
   ·rintro ⟨⟩ e w6 rfl
    refine Cd.seq (Cd.region (Ops.mi rfl rfl rfl (Ops.gtr rfl rfl rfl (Ops.n (tQ ?_)))))
    refine Cd.cond_p _ rfl (fun h4 => ?_) (fun h4 => ?_)
    ·have hrel : relOf labels i k = [pow [(i : Int), (k : Int)] L.toNat] := by
      unfold relOf
      rw [← hL, if_pos h4]
     rw [hrel] at hpre
     skip
     refine Cd.drawN [8, 10] [.ex (.pointer (ptrAt (A3) 1)), .ex (.slice (B) (n) (cB)), .ex (.int .i64 ((i : Int))), .ex (.int .i64 ((k : Int))), .pr (fun v w' => ∃ A38, v = .slice A38 2 2 ∧ St w w' (CkI 2 A38 2 2 [(i : Int), (k : Int)] :: Bx 118 2 A3 [.int .i64 ((nl : Int) + 1), .slice B n cB] :: Bx 118 2 A2 [.int .i64 0, .slice none 0 0] :: mat 28 2 B n cB rs xss)), .ex (.int .i64 (L)), .pr (fun v w' => ∃ A40 c40, v = .slice A40 (2 * L.toNat) c40 ∧ St w w' (CkI 2 A40 (2 * L.toNat) c40 (pow [(i : Int), (k : Int)] L.toNat) :: Bx 118 2 A3 [.int .i64 ((nl : Int) + 1), .slice B n cB] :: Bx 118 2 A2 [.int .i64 0, .slice none 0 0] :: mat 28 2 B n cB rs xss)), .pr (fun v w' => ∃ A40 c40 A41, v = .slice A41 1 1 ∧ St w w' (CkR 28 A41 1 1 [⟨A40, 2 * L.toNat, c40⟩] :: CkI 2 A40 (2 * L.toNat) c40 (pow [(i : Int), (k : Int)] L.toNat) :: Bx 118 2 A3 [.int .i64 ((nl : Int) + 1), .slice B n cB] :: Bx 118 2 A2 [.int .i64 0, .slice none 0 0] :: mat 28 2 B n cB rs xss)), .pr (fun v w' => ∃ A40 c40 A42 c42, v = .slice A42 (n + 1) c42 ∧ St w w' (CkI 2 A40 (2 * L.toNat) c40 (pow [(i : Int), (k : Int)] L.toNat) :: Bx 118 2 A3 [.int .i64 ((nl : Int) + 1), .slice B n cB] :: Bx 118 2 A2 [.int .i64 0, .slice none 0 0] :: CkR 28 A42 (n + 1) c42 (rs ++ [⟨A40, 2 * L.toNat, c40⟩]) :: rowsCk 2 rs xss)), .ex (.pointer (ptrAt (A3) 1)), .pr (fun _ w' => ∃ A40 c40 A42 c42, St w w' (CkI 2 A40 (2 * L.toNat) c40 (pow [(i : Int), (k : Int)] L.toNat) :: Bx 118 2 A3 [.int .i64 ((nl : Int) + 1), .slice A42 (n + 1) c42] :: Bx 118 2 A2 [.int .i64 0, .slice none 0 0] :: CkR 28 A42 (n + 1) c42 (rs ++ [⟨A40, 2 * L.toNat, c40⟩]) :: rowsCk 2 rs xss))] (by kernel_rfl) (by kernel_rfl) (lx (lx (lx (lx (List.forall_mem_cons.2 ⟨Yd.lasts_pr (fun v w w' h hb => by obtain ⟨A38, hv, h1⟩ := h; exact ⟨A38, hv, h1.later hb⟩), (lx (List.forall_mem_cons.2 ⟨Yd.lasts_pr (fun v w w' h hb => by obtain ⟨A40, c40, hv, h1⟩ := h; exact ⟨A40, c40, hv, h1.later hb⟩), (List.forall_mem_cons.2 ⟨Yd.lasts_pr (fun v w w' h hb => by obtain ⟨A40, c40, A41, hv, h1⟩ := h; exact ⟨A40, c40, A41, hv, h1.later hb⟩), (List.forall_mem_cons.2 ⟨Yd.lasts_pr (fun v w w' h hb => by obtain ⟨A40, c40, A42, c42, hv, h1⟩ := h; exact ⟨A40, c40, A42, c42, hv, h1.later hb⟩), (lx (List.forall_mem_cons.2 ⟨Yd.lasts_pr (fun v w w' h hb => by obtain ⟨A40, c40, A42, c42, h1⟩ := h; exact ⟨A40, c40, A42, c42, h1.later hb⟩), (fun _ h => by cases h)⟩))⟩)⟩)⟩))⟩))))) ⟨?_, ?_, ?_, ?_, ?_, ?_, ?_, ?_, ?_, ?_, ?_, trivial⟩ ?_
     ·intro e1 w1 cc hlo hhi hb0 hp hun hq
      show Ops _ _ _ _ _ _ _
      obtain rfl := cc_of hlo hhi (b := 0) (by kernel_rfl) (by kernel_rfl); clear hlo hhi
      have hb := hb0 rfl
      refine Ops.fld ((hS5.rd 0 rfl).below hb) rfl rfl rfl rfl inferInstance (Ops.n (n0 rfl (by exact rfl)))
     ·intro e1 w1 cc hlo hhi hb0 hp hun hq
      show Ops _ _ _ _ _ _ _
      obtain rfl := cc_of hlo hhi (b := 0) (by kernel_rfl) (by kernel_rfl); clear hlo hhi
      have hb := hb0 rfl
      refine Ops.ldf_s ((hS5.rd 0 rfl).below hb) rfl rfl rfl rfl rfl (Ops.n (n0 rfl (by exact rfl)))
     ·intro e1 w1 cc hlo hhi hb0 hp hun hq
      show Ops _ _ _ _ _ _ _
      refine Ops.mi rfl rfl rfl (Ops.n (n0 rfl (by exact rfl)))
     ·intro e1 w1 cc hlo hhi hb0 hp hun hq
      show Ops _ _ _ _ _ _ _
      refine Ops.mi rfl rfl rfl (Ops.n (n0 rfl (by exact rfl)))
     ·intro e1 w1 cc hlo hhi hb0 hp hun hq
      show Ops _ _ _ _ _ _ _
      obtain rfl := cc_of hlo hhi (b := 0) (by kernel_rfl) (by kernel_rfl); clear hlo hhi
      have hb := hb0 rfl
      refine Ops.bsL [(i : Int), (k : Int)] (St.refl _) rfl rfl (by decide) (by decide) rfl rfl ?_
      intro A38 w20 hst20
      refine Ops.n ?_
      exact AfterN.dn rfl hst20.below ⟨A38, rfl, (hS5.later hb).call hst20⟩
     ·intro e1 w1 cc hlo hhi hb0 hp hun hq
      show Ops _ _ _ _ _ _ _
      refine Ops.mi rfl rfl rfl (Ops.n (n0 rfl (by exact rfl)))
     ·intro e1 w1 cc hlo hhi hb0 hp hun hq
      show Ops _ _ _ _ _ _ _
      obtain rfl := cc_of hlo hhi (b := 0) (by kernel_rfl) (by kernel_rfl); clear hlo hhi
      have hb := hb0 rfl
      obtain ⟨A38, hv, h1⟩ := (hp 4 _ _ (by kernel_rfl) rfl rfl (by kernel_rfl))
      have hb := hb0 rfl
      refine Ops.call (l11Power_c A38 2 2 [(i : Int), (k : Int)] L.toNat _ (h1.rdI 0 rfl) (by decide) (by omega)) rfl (by rw [Int.toNat_of_nonneg hL0]; exact congrArg (fun v => [v, Value.int .i64 L]) hv) rfl ?_
      rintro _ w21 ⟨A40, c40, rfl, hst21⟩
      refine Ops.n ?_
      exact AfterN.dn rfl hst21.below ⟨A40, c40, rfl, (h1.tail).call hst21⟩
     ·intro e1 w1 cc hlo hhi hb0 hp hun hq
      show Ops _ _ _ _ _ _ _
      obtain rfl := cc_of hlo hhi (b := 0) (by kernel_rfl) (by kernel_rfl); clear hlo hhi
      have hb := hb0 rfl
      obtain ⟨A40, c40, hv, h1⟩ := (hp 6 _ _ (by kernel_rfl) rfl rfl (by kernel_rfl))
      have hb := hb0 rfl
      refine Ops.bs1R (St.refl _) (by exact hv) rfl rfl ?_
      intro A41 w22 hst22
      refine Ops.n ?_
      exact AfterN.dn rfl hst22.below ⟨A40, c40, A41, rfl, h1.call hst22⟩
     ·intro e1 w1 cc hlo hhi hb0 hp hun hq
      show Ops _ _ _ _ _ _ _
      obtain rfl := cc_of hlo hhi (b := 0) (by kernel_rfl) (by kernel_rfl); clear hlo hhi
      have hb := hb0 rfl
      obtain ⟨A40, c40, A41, hv, h1⟩ := (hp 7 _ _ (by kernel_rfl) rfl rfl (by kernel_rfl))
      refine Ops.appR 4 h1 rfl (h1.rdR 0 rfl) rfl (by exact hv) rfl (by omega) (by omega) rfl ?_
      intro A42 c42 w23 hT23
      refine Ops.n ?_
      exact AfterT.dn rfl ⟨A40, c40, A42, c42, rfl, hT23.tail⟩
     ·intro e1 w1 cc hlo hhi hb0 hp hun hq
      show Ops _ _ _ _ _ _ _
      obtain rfl := cc_of hlo hhi (b := 1) (by kernel_rfl) (by kernel_rfl); clear hlo hhi
      have hph := hp 8 _ _ (by kernel_rfl) rfl rfl (by kernel_rfl)
      obtain ⟨A40, c40, A42, c42, h42, hT⟩ := hph
      refine Ops.fld ((hT.rd 1 rfl)) rfl rfl rfl rfl inferInstance (Ops.n (n0 rfl (by exact rfl)))
     ·intro e1 w1 cc hlo hhi hb0 hp hun hq
      show Ops _ _ _ _ _ _ _
      obtain rfl := cc_of hlo hhi (b := 1) (by kernel_rfl) (by kernel_rfl); clear hlo hhi
      have hph := hp 8 _ _ (by kernel_rfl) rfl rfl (by kernel_rfl)
      obtain ⟨A40, c40, A42, c42, h42, hT⟩ := hph
      refine Ops.stf 1 hT rfl rfl (by exact h42) rfl rfl ?_
      intro w24 hT24
      refine Ops.n ?_
      exact AfterT.st rfl ⟨A40, c40, A42, c42, hT24⟩
     intro u w7 _ hu
     obtain ⟨A40, c40, A42, c42, hT⟩ := hu 10 _ rfl (by kernel_rfl)
     refine blockQ_n (tQ (Cd.region (Ops.mi rfl rfl rfl (Ops.add rfl rfl rfl (by omega) (Ops.mi rfl rfl rfl (Ops.n (tQ ?_)))))))
     refine ⟨⟨g, k + 1, A42, n + 1, c42, rs ++ [⟨A40, 2 * L.toNat, c40⟩], xss ++ [pow [(i : Int), (k : Int)] L.toNat]⟩, Nat.lt_succ_self g, ⟨rfl, rfl, rfl, rfl, rfl, trivial⟩, ?_, by simp [hrl], by simp [hxl], by show i + 1 ≤ k + 1; omega, by show n + 1 + i + 1 ≤ 20 * i + (k + 1); omega, by show k + 1 + g = 20; omega, by rw [← hpre]; simp⟩
     show St w w7 ([Bx 118 2 A3 [.int .i64 ((nl : Int) + 1), .slice A42 (n + 1) c42], Bx 118 2 A2 [.int .i64 0, .slice none 0 0]] ++ CkR 28 A42 (n + 1) c42 (rs ++ [⟨A40, 2 * L.toNat, c40⟩]) :: rowsCk 2 (rs ++ [⟨A40, 2 * L.toNat, c40⟩]) (xss ++ [pow [(i : Int), (k : Int)] L.toNat]))
     rw [rowsCk_append (by omega)]
     refine hT.perm ?_
     exact List.perm_append_comm (l₁ := [_]) (l₂ := Bx 118 2 A3 [.int .i64 ((nl : Int) + 1), .slice A42 (n + 1) c42] :: Bx 118 2 A2 [.int .i64 0, .slice none 0 0] :: CkR 28 A42 (n + 1) c42 (rs ++ [⟨A40, 2 * L.toNat, c40⟩]) :: rowsCk 2 rs xss)
    ·have hrel : relOf labels i k = [] := by
      unfold relOf
      rw [← hL, if_neg h4]
     rw [hrel] at hpre
     refine Cd.skip (blockQ_n (tQ (Cd.region (Ops.mi rfl rfl rfl (Ops.add rfl rfl rfl (by omega) (Ops.mi rfl rfl rfl (Ops.n (tQ ?_))))))))
     exact ⟨⟨g, k + 1, B, n, cB, rs, xss⟩, Nat.lt_succ_self g, ⟨rfl, rfl, rfl, rfl, rfl, trivial⟩, hS5, hrl, hxl, by show i + 1 ≤ k + 1; omega, by show n + i + 1 ≤ 20 * i + (k + 1); omega, by show k + 1 + g = 20; omega, hpre⟩
  ·have hkk : presK labels (nl + 1) i g k = [] := by
    cases g with
    | zero => rfl
    | succ g => rw [presK, if_neg (by omega)]
   rw [hkk] at hpre
   refine Cd.exit (thenQ_x (thenQ_x (blockQ_x (blockQ_n (tQ (Cd.region (Ops.mi rfl rfl rfl (Ops.add rfl rfl rfl (by omega) (Ops.mi rfl rfl rfl ?_)))))))))
   refine Ops.n (tQ ?_)
   exact ⟨⟨f, i + 1, B, n, cB, rs, xss⟩, Nat.lt_succ_self f, ⟨rfl, rfl, rfl, rfl, trivial⟩, hS5, hrl, hxl, by show n ≤ 20 * (i + 1); omega, by show i + 1 + f = 20; omega, hpre⟩
 ·have hii : presI labels (nl + 1) f i = [] := by
   cases f with
   | zero => rfl
   | succ f => rw [presI, if_neg (by omega)]
  rw [hii, List.append_nil] at hpre
  subst hpre
  refine Cd.exit (thenQ_x (thenQ_x (blockQ_x (tQ (Cd.seq (Cd.region (Ops.ld_agg 1 (hS4.rd 0 rfl) rfl rfl rfl ?_)))))))
  skip
  refine Ops.st_agg 2 1 hS4 rfl rfl rfl rfl rfl rfl rfl ?_
  intro w5 hS5
  refine Ops.n (tQ (Cd.ret ?_))
  skip
  refine retc_r rfl (hS5.rd 1 rfl) ?_
  refine ⟨B, cB, rs, by rw [hxl]; rfl, by omega, ?_⟩
  rw [hxl]
  exact (hS5.sub ((List.Sublist.refl _).cons _)).sub ((List.Sublist.refl _).cons _)
end Go.Proofs.YtbhnfehcpnnjcaaGreatDoor.Vc
/-
 The draws of maniplexes, walked: two beside each other. Conditions: as each states them.
-/
namespace Go.Proofs.YtbhnfehcpnnjcaaGreatDoor.Vc
open Go.RowKit

theorem beside_lt {N M v r : Int} (hv : 0 ≤ v ∧ v < N) (hr : 0 ≤ r ∧ r < M) (hb : N * M ≤ 1000000) : 0 ≤ v * M ∧ v * M ≤ 1000000 ∧ 0 ≤ v * M + r ∧ v * M + r < N * M := by
 have h1 : (v + 1) * M ≤ N * M := Int.mul_le_mul_of_nonneg_right (by omega) (by omega)
 have h2 : 0 ≤ v * M := Int.mul_nonneg hv.1 (by omega)
 rw [Int.add_mul, Int.one_mul] at h1
 omega
theorem GM.first {N : Nat} {xss : List (List Int)} (h : GM N xss) (hn : 0 < xss.length) : (gl xss 0).length = N := by
 have e : gl xss (0 : Nat) = xss[0] := gl_mem hn
 have e : gl xss 0 = xss[0] := e
 rw [e]
 exact (h _ (List.getElem_mem hn)).1
theorem GM.at_ {N : Nat} {xss : List (List Int)} (h : GM N xss) {i : Nat} (hi : i < xss.length) : Rg N (gl xss (i : Int)) := by
 rw [gl_mem hi]; exact h _ (List.getElem_mem hi)

theorem l02Beside_c (A : Option Addr) (n c : Nat) (rs : List SlV) (xss : List (List Int)) (N : Nat) (B : Option Addr) (m cB : Nat) (rs' : List SlV) (yss : List (List Int)) (M : Nat) (w : World) (hX : RowsI w A n rs xss) (hY : RowsI w B m rs' yss) (hn : 1 ≤ n ∧ n ≤ 100) (hm : 1 ≤ m ∧ m ≤ 100) (hx : GM N xss) (hy : GM M yss) (hN : 1 ≤ N) (hM : 1 ≤ M) (hNM : N * M ≤ 1000000) :
  Ret Tryz.prog 126 [.agg #[.slice A n c], .agg #[.slice B m cB]] w (AnsG (n + m) (N * M) w) := by
 have hxl := hX.len
 have hyl := hY.len
 have hxN := hx.first (by omega)
 have hyM := hy.first (by omega)
 have hNMi : (N : Int) * (M : Int) ≤ 1000000 := by
  rw [← Int.natCast_mul]
  exact Int.ofNat_le.2 hNM
 refine Ret.of_cd Tryz.func126 rfl Tryz.ntmps126 rfl (postc rfl rfl) (Cd.seq (Cd.region (Ops.box1 (St.refl w) rfl rfl ?_)))
 intro A2 w1 hS1
 skip
 refine Ops.box1 hS1 rfl rfl ?_
 intro A3 w2 hS2
 skip
 refine Ops.new1 hS2 rfl ?_
 intro A4 w3 hS3
 refine Ops.n (tQ (Cd.seq ?_))
 refine Cd.draw [.ex (.agg #[.slice (A) (n) (c)]), .ex (.int .i64 ((gl xss 0).length : Int)), .ex (.agg #[.slice (B) (m) (cB)]), .ex (.int .i64 ((gl yss 0).length : Int)), .ex (.int .i64 ((gl xss 0).length : Int)), .ex (.int .i64 ((gl yss 0).length : Int))] (by kernel_rfl) (by kernel_rfl) rfl (lx (lx (lx (lx (lx (lx (fun _ h => by cases h))))))) ⟨?_, ?_, ?_, ?_, ?_, ?_, trivial⟩ ?_
 ·intro e1 w1 hb hp hun
  refine Ops.ld_agg 0 ((hS3.rd 2 rfl).below hb) rfl rfl rfl (Ops.n (d0 (by exact rfl)))
 ·intro e1 w1 hb hp hun
  refine Ops.call (l02Flags_c A n c rs xss _ ((hS3.later hb).oldRows hX) (by omega)) rfl rfl rfl ?_
  rintro _ w2 ⟨rfl, hst⟩
  refine Ops.n ?_
  exact After.dn hst.below (by exact rfl)
 ·intro e1 w1 hb hp hun
  refine Ops.ld_agg 0 ((hS3.rd 1 rfl).below hb) rfl rfl rfl (Ops.n (d0 (by exact rfl)))
 ·intro e1 w1 hb hp hun
  refine Ops.call (l02Flags_c B m cB rs' yss _ ((hS3.later hb).oldRows hY) (by omega)) rfl rfl rfl ?_
  rintro _ w2 ⟨rfl, hst⟩
  refine Ops.n ?_
  exact After.dn hst.below (by exact rfl)
 ·intro e1 w1 hb hp hun
  refine Ops.mi rfl rfl rfl (Ops.n (d0 (by exact rfl)))
 ·intro e1 w1 hb hp hun
  refine Ops.mi rfl rfl rfl (Ops.n (d0 (by exact rfl)))
 intro u w4 hb4 _
 have hS4 := hS3.later hb4
 rw [hxN, hyM]
 refine tQ (Cd.seq (Cd.region (Ops.bld0 (by exact inferInstance) rfl (Ops.new1 hS4 rfl ?_))))
 intro A7 w5 hS5
 skip
 refine Ops.st_agg 1 0 hS5 rfl rfl rfl rfl rfl rfl rfl ?_
 intro w6 hS6
 have hS6 : St w w6 ([Bx 26 1 A7 [.slice none 0 0], Bx 26 1 A4 [.slice none 0 0], Bx 26 1 A3 [.slice B m cB], Bx 26 1 A2 [.slice A n c]] ++ mat 28 2 none 0 0 [] []) := (hS6.nil _).perm (List.perm_append_comm (l₁ := [_]) (l₂ := [_, _, _, _]))
 refine Ops.n (tQ (Cd.seq (Cd.seq (Cd.region (Ops.mi rfl rfl rfl (Ops.n (tQ (Cd.block ?_))))))))
 refine Cd.loop (α := PrS) (fun s => [(2, .pointer A2), (3, .pointer A3), (4, .pointer A4), (5, .int .i64 (N : Int)), (6, .int .i64 (M : Int)), (7, .pointer A7), (8, .int .i64 (s.n : Int))]) (fun s w' => St w w' ([Bx 26 1 A7 [.slice s.B s.n s.c], Bx 26 1 A4 [.slice none 0 0], Bx 26 1 A3 [.slice B m cB], Bx 26 1 A2 [.slice A n c]] ++ mat 28 2 s.B s.n s.c s.rs s.xss) ∧ s.n ≤ n + m ∧ s.rs.length = s.n ∧ s.xss.length = s.n ∧ GM (N * M) s.xss) (fun s => n + m - s.n) ⟨0, 0, none, 0, 0, [], []⟩ ⟨rfl, rfl, rfl, rfl, rfl, rfl, rfl, trivial⟩ ⟨hS6, Nat.zero_le _, rfl, rfl, fun p hp => (nomatch hp)⟩ ?_
 rintro ⟨_, _, C, i, cC, rsC, zss⟩ e w7 ⟨hS7, hi, hrl, hzl, hz⟩
 dsimp only at hS7 hi hrl hzl hz ⊢
 refine Cd.seq (Cd.seq (Cd.region (Ops.mi rfl rfl rfl (Ops.fld (hS7.rd 3 rfl) rfl rfl rfl rfl inferInstance (Ops.ldf_s (hS7.rd 3 rfl) rfl rfl rfl rfl rfl (Ops.len rfl rfl (Ops.fld (hS7.rd 2 rfl) rfl rfl rfl rfl inferInstance (Ops.ldf_s (hS7.rd 2 rfl) rfl rfl rfl rfl rfl (Ops.len rfl rfl ?_)))))))))
 refine Ops.add rfl rfl rfl (by omega) (Ops.lss rfl rfl rfl (Ops.n (tQ ?_)))
 refine Cd.cond_p _ rfl (fun h1 => ?_) (fun h1 => ?_)
 ·refine Cd.skip (tQ (Cd.seq (Cd.block (Cd.seq (Cd.region (Ops.bs0 hS7 rfl ?_))))))
  intro A9 w8 hS8
  refine Ops.ms rfl rfl rfl (Ops.n (tQ (Cd.seq (Cd.seq (Cd.region (Ops.mi rfl rfl rfl (Ops.n (tQ (Cd.block ?_)))))))))
  refine Cd.loop (α := Nat × Option Addr × Nat × List Int) (fun s => [(2, .pointer A2), (3, .pointer A3), (4, .pointer A4), (5, .int .i64 (N : Int)), (6, .int .i64 (M : Int)), (7, .pointer A7), (8, .int .i64 (i : Int)), (9, .slice s.2.1 s.1 s.2.2.1), (10, .int .i64 (s.1 : Int))]) (fun s w' => St w w' (CkI 2 s.2.1 s.1 s.2.2.1 s.2.2.2 :: ([Bx 26 1 A7 [.slice C i cC], Bx 26 1 A4 [.slice none 0 0], Bx 26 1 A3 [.slice B m cB], Bx 26 1 A2 [.slice A n c]] ++ mat 28 2 C i cC rsC zss)) ∧ s.1 ≤ N * M ∧ s.2.2.2.length = s.1 ∧ ∀ x ∈ s.2.2.2, 0 ≤ x ∧ x < ((N * M : Nat) : Int)) (fun s => N * M - s.1) (0, A9, 0, []) ⟨rfl, rfl, rfl, rfl, rfl, rfl, rfl, rfl, rfl, trivial⟩ ⟨hS8, Nat.zero_le _, rfl, fun x hx => (nomatch hx)⟩ ?_
  rintro ⟨f, A9, c9, acc⟩ e w9 ⟨hS9, hf, hal, hacc⟩
  dsimp only at hS9 hf hal hacc ⊢
  have hNMe : (N : Int) * (M : Int) = ((N * M : Nat) : Int) := (Int.natCast_mul N M).symm
  refine Cd.seq (Cd.seq (Cd.region (Ops.mi rfl rfl rfl (Ops.mi rfl rfl rfl (Ops.mi rfl rfl rfl (Ops.mul rfl rfl rfl (by omega) ?_))))))
  rw [hNMe]
  refine Ops.lss rfl rfl rfl (Ops.n (tQ ?_))
  refine Cd.cond_p _ rfl (fun h2 => ?_) (fun h2 => ?_)
  ·have hq0 : 0 ≤ (f : Int) / (M : Int) := Int.ediv_nonneg (by omega) (by omega)
   have hq1 : (f : Int) / (M : Int) < (N : Int) := Int.ediv_lt_of_lt_mul (by omega) (by omega)
   have hr0 := Int.emod_nonneg (f : Int) (b := (M : Int)) (by omega)
   have hr1 := Int.emod_lt_of_pos (f : Int) (b := (M : Int)) (by omega)
   have hX9 := hS9.oldRows hX
   have hY9 := hS9.oldRows hY
   refine Cd.skip (tQ (Cd.seq (Cd.block (Cd.seq (Cd.region (Ops.mi rfl rfl rfl (Ops.fld (hS9.rd 4 rfl) rfl rfl rfl rfl inferInstance (Ops.ldf_s (hS9.rd 4 rfl) rfl rfl rfl rfl rfl (Ops.len rfl rfl ?_)))))))))
   refine Ops.lss rfl rfl rfl (Ops.n (tQ ?_))
   refine Cd.cond_p _ rfl (fun h3 => ?_) (fun h3 => ?_)
   ·have hrow := hX9.at_ (i := (i : Int)) (by omega) (by omega)
    have hrg := hx.at_ (i := i) (by omega)
    have hrn : (rg rs (i : Int)).n = N := by rw [← hrow.1, hrg.1]
    have hv := hrg.gi hq0 hq1
    have hbd := beside_lt (N := (N : Int)) (M := (M : Int)) hv ⟨hr0, hr1⟩ hNMi
    generalize hV : gi (gl xss (i : Int)) ((f : Int) / (M : Int)) = v at hv hbd
    skip
    refine Cd.drawN [18] [.ex (.slice (A9) (f) (c9)), .ex (.pointer (ptrAt (A2) 0)), .ex (.slice (A) (n) (c)), .ex (.int .i64 ((i : Int))), .ex (.pointer (ptrAt (A) ((i : Int)).toNat)), .ex (.slice ((rg (rs) ((i : Int))).a) ((rg (rs) ((i : Int))).n) ((rg (rs) ((i : Int))).c)), .ex (.int .i64 ((f : Int))), .ex (.int .i64 ((M : Int))), .ex (.int .i64 ((f : Int) / (M : Int))), .ex (.pointer (ptrAt ((rg (rs) ((i : Int))).a) ((f : Int) / (M : Int)).toNat)), .ex (.int .i64 (v)), .ex (.int .i64 ((M : Int))), .ex (.int .i64 (v * (M : Int))), .ex (.int .i64 ((f : Int))), .ex (.int .i64 ((M : Int))), .ex (.int .i64 ((f : Int) % (M : Int))), .ex (.int .i64 ((v * (M : Int)) + ((f : Int) % (M : Int)))), .pr (fun v' w' => ∃ A57, v' = .slice A57 1 1 ∧ St w w' (CkI 2 A57 1 1 [v * (M : Int) + (f : Int) % (M : Int)] :: CkI 2 A9 f c9 acc :: ([Bx 26 1 A7 [.slice C i cC], Bx 26 1 A4 [.slice none 0 0], Bx 26 1 A3 [.slice B m cB], Bx 26 1 A2 [.slice A n c]] ++ mat 28 2 C i cC rsC zss))), .pr (fun v' w' => ∃ A21 c21, v' = .slice A21 (f + 1) c21 ∧ St w w' (CkI 2 A21 (f + 1) c21 (acc ++ [v * (M : Int) + (f : Int) % (M : Int)]) :: ([Bx 26 1 A7 [.slice C i cC], Bx 26 1 A4 [.slice none 0 0], Bx 26 1 A3 [.slice B m cB], Bx 26 1 A2 [.slice A n c]] ++ mat 28 2 C i cC rsC zss))), .pr (fun v' w' => ∃ A21 c21, v' = .slice A21 (f + 1) c21 ∧ St w w' (CkI 2 A21 (f + 1) c21 (acc ++ [v * (M : Int) + (f : Int) % (M : Int)]) :: ([Bx 26 1 A7 [.slice C i cC], Bx 26 1 A4 [.slice none 0 0], Bx 26 1 A3 [.slice B m cB], Bx 26 1 A2 [.slice A n c]] ++ mat 28 2 C i cC rsC zss)))] (by kernel_rfl) (by kernel_rfl) (lx (lx (lx (lx (lx (lx (lx (lx (lx (lx (lx (lx (lx (lx (lx (lx (lx (List.forall_mem_cons.2 ⟨Yd.lasts_pr (fun v w w' h hb => by obtain ⟨A20, hv, h1⟩ := h; exact ⟨A20, hv, h1.later hb⟩), (List.forall_mem_cons.2 ⟨Yd.lasts_pr (fun v w w' h hb => by obtain ⟨A21, c21, hv, h1⟩ := h; exact ⟨A21, c21, hv, h1.later hb⟩), (List.forall_mem_cons.2 ⟨Yd.lasts_pr (fun v w w' h hb => by obtain ⟨A21, c21, hv, h1⟩ := h; exact ⟨A21, c21, hv, h1.later hb⟩), (fun _ h => by cases h)⟩)⟩)⟩)))))))))))))))))) ⟨?_, ?_, ?_, ?_, ?_, ?_, ?_, ?_, ?_, ?_, ?_, ?_, ?_, ?_, ?_, ?_, ?_, ?_, ?_, ?_, trivial⟩ ?_
    ·intro e1 w1 cc hlo hhi hb0 hp hun hq
     show Ops _ _ _ _ _ _ _
     obtain rfl := cc_of hlo hhi (b := 0) (by kernel_rfl) (by kernel_rfl); clear hlo hhi
     have hb := hb0 rfl
     refine Ops.ms rfl (by exact hun 19 _ rfl (by kernel_rfl)) rfl (Ops.n (n0 rfl (by exact rfl)))
    ·intro e1 w1 cc hlo hhi hb0 hp hun hq
     show Ops _ _ _ _ _ _ _
     obtain rfl := cc_of hlo hhi (b := 0) (by kernel_rfl) (by kernel_rfl); clear hlo hhi
     have hb := hb0 rfl
     refine Ops.fld ((hS9.rd 4 rfl).below hb) rfl rfl rfl rfl inferInstance (Ops.n (n0 rfl (by exact rfl)))
    ·intro e1 w1 cc hlo hhi hb0 hp hun hq
     show Ops _ _ _ _ _ _ _
     obtain rfl := cc_of hlo hhi (b := 0) (by kernel_rfl) (by kernel_rfl); clear hlo hhi
     have hb := hb0 rfl
     refine Ops.ldf_s ((hS9.rd 4 rfl).below hb) rfl rfl rfl rfl rfl (Ops.n (n0 rfl (by exact rfl)))
    ·intro e1 w1 cc hlo hhi hb0 hp hun hq
     show Ops _ _ _ _ _ _ _
     refine Ops.mi rfl rfl rfl (Ops.n (n0 rfl (by exact rfl)))
    ·intro e1 w1 cc hlo hhi hb0 hp hun hq
     show Ops _ _ _ _ _ _ _
     obtain rfl := cc_of hlo hhi (b := 0) (by kernel_rfl) (by kernel_rfl); clear hlo hhi
     have hb := hb0 rfl
     refine Ops.idx (hX9.top.later hb).2 rfl rfl rfl (by omega) (by omega) (Ops.n (n0 rfl (by exact rfl)))
    ·intro e1 w1 cc hlo hhi hb0 hp hun hq
     show Ops _ _ _ _ _ _ _
     obtain rfl := cc_of hlo hhi (b := 0) (by kernel_rfl) (by kernel_rfl); clear hlo hhi
     have hb := hb0 rfl
     refine Ops.ld_sl (hX9.top.later hb) rfl (by omega) rfl rfl (Ops.n (n0 rfl (by exact rfl)))
    ·intro e1 w1 cc hlo hhi hb0 hp hun hq
     show Ops _ _ _ _ _ _ _
     refine Ops.mi rfl rfl rfl (Ops.n (n0 rfl (by exact rfl)))
    ·intro e1 w1 cc hlo hhi hb0 hp hun hq
     show Ops _ _ _ _ _ _ _
     refine Ops.mi rfl rfl rfl (Ops.n (n0 rfl (by exact rfl)))
    ·intro e1 w1 cc hlo hhi hb0 hp hun hq
     show Ops _ _ _ _ _ _ _
     refine Ops.quo rfl rfl rfl (by omega) (Ops.n (n0 rfl (by exact rfl)))
    ·intro e1 w1 cc hlo hhi hb0 hp hun hq
     show Ops _ _ _ _ _ _ _
     obtain rfl := cc_of hlo hhi (b := 0) (by kernel_rfl) (by kernel_rfl); clear hlo hhi
     have hb := hb0 rfl
     refine Ops.idx (hrow.later hb).2 rfl rfl rfl (by omega) (by omega) (Ops.n (n0 rfl (by exact rfl)))
    ·intro e1 w1 cc hlo hhi hb0 hp hun hq
     show Ops _ _ _ _ _ _ _
     obtain rfl := cc_of hlo hhi (b := 0) (by kernel_rfl) (by kernel_rfl); clear hlo hhi
     have hb := hb0 rfl
     refine Ops.ld_int (hrow.later (hb0 rfl)) rfl (by omega) rfl rfl (Ops.n ?_)
     exact n0 rfl (by exact congrArg (Value.int .i64) hV)
    ·intro e1 w1 cc hlo hhi hb0 hp hun hq
     show Ops _ _ _ _ _ _ _
     refine Ops.mi rfl rfl rfl (Ops.n (n0 rfl (by exact rfl)))
    ·intro e1 w1 cc hlo hhi hb0 hp hun hq
     show Ops _ _ _ _ _ _ _
     refine Ops.mul rfl rfl rfl (by omega) (Ops.n (n0 rfl (by exact rfl)))
    ·intro e1 w1 cc hlo hhi hb0 hp hun hq
     show Ops _ _ _ _ _ _ _
     refine Ops.mi rfl rfl rfl (Ops.n (n0 rfl (by exact rfl)))
    ·intro e1 w1 cc hlo hhi hb0 hp hun hq
     show Ops _ _ _ _ _ _ _
     refine Ops.mi rfl rfl rfl (Ops.n (n0 rfl (by exact rfl)))
    ·intro e1 w1 cc hlo hhi hb0 hp hun hq
     show Ops _ _ _ _ _ _ _
     refine Ops.rem rfl rfl rfl (by omega) (Ops.n (n0 rfl (by exact rfl)))
    ·intro e1 w1 cc hlo hhi hb0 hp hun hq
     show Ops _ _ _ _ _ _ _
     refine Ops.add rfl rfl rfl (by omega) (Ops.n (n0 rfl (by exact rfl)))
    ·intro e1 w1 cc hlo hhi hb0 hp hun hq
     show Ops _ _ _ _ _ _ _
     obtain rfl := cc_of hlo hhi (b := 0) (by kernel_rfl) (by kernel_rfl); clear hlo hhi
     have hb := hb0 rfl
     refine Ops.bs1I (St.refl _) rfl rfl rfl ?_
     intro A20 w20 hst20
     refine Ops.n ?_
     exact AfterN.dn rfl hst20.below ⟨A20, rfl, (hS9.later hb).call hst20⟩
    ·intro e1 w1 cc hlo hhi hb0 hp hun hq
     show Ops _ _ _ _ _ _ _
     obtain rfl := cc_of hlo hhi (b := 0) (by kernel_rfl) (by kernel_rfl); clear hlo hhi
     have hb := hb0 rfl
     obtain ⟨A20, hv', h1⟩ := (hp 17 _ _ (by kernel_rfl) rfl rfl (by kernel_rfl))
     refine Ops.appI 1 h1 rfl (h1.rdI 0 rfl) rfl (by exact hv') rfl (by omega) (by omega) rfl ?_
     intro A21 c21 w21 hT21
     refine Ops.n ?_
     exact AfterT.dn rfl ⟨A21, c21, rfl, hT21.tail⟩
    ·intro e1 w1 cc hlo hhi hb0 hp hun hq
     show Ops _ _ _ _ _ _ _
     obtain rfl := cc_of hlo hhi (b := 1) (by kernel_rfl) (by kernel_rfl); clear hlo hhi
     have hph := hp 18 _ _ (by kernel_rfl) rfl rfl (by kernel_rfl)
     obtain ⟨A21, c21, hv', h1⟩ := (hp 18 _ _ (by kernel_rfl) rfl rfl (by kernel_rfl))
     refine Ops.ms rfl (by exact hv') rfl (Ops.n ?_)
     exact AfterN.dn rfl (Below.refl _ _) ⟨A21, c21, rfl, h1⟩
    intro u w10 _ hu
    obtain ⟨A21, c21, hv9, hT⟩ := hu 19 _ rfl (by kernel_rfl)
    refine blockQ_n (tQ (Cd.region (Ops.mi rfl rfl rfl (Ops.add rfl rfl rfl (by omega) (Ops.mi rfl rfl rfl (Ops.n (tQ ?_)))))))
    refine ⟨(f + 1, A21, c21, acc ++ [v * (M : Int) + (f : Int) % (M : Int)]), by show N * M - (f + 1) < N * M - f; omega, ⟨rfl, rfl, rfl, rfl, rfl, rfl, rfl, hv9, rfl, trivial⟩, hT, by show f + 1 ≤ N * M; omega, by simp [hal], fun x hx' => ?_⟩
    rcases List.mem_append.1 hx' with h | h
    ·exact hacc x h
    ·rw [List.mem_singleton] at h; subst h; omega
   ·have hrow := hY9.at_ (i := (i : Int) - (n : Int)) (by omega) (by omega)
    obtain ⟨j, hj⟩ : ∃ j : Nat, (i : Int) - (n : Int) = j := ⟨i - n, by omega⟩
    have hrg := hy.at_ (i := j) (by omega)
    rw [← hj] at hrg
    have hrn : (rg rs' ((i : Int) - (n : Int))).n = M := by rw [← hrow.1, hrg.1]
    have hv := hrg.gi hr0 hr1
    have hbd := beside_lt (N := (N : Int)) (M := (M : Int)) (v := (f : Int) / (M : Int)) ⟨hq0, hq1⟩ hv hNMi
    generalize hV : gi (gl yss ((i : Int) - (n : Int))) ((f : Int) % (M : Int)) = v at hv hbd
    skip
    refine Cd.drawN [22] [.ex (.slice (A9) (f) (c9)), .ex (.int .i64 ((f : Int))), .ex (.int .i64 ((M : Int))), .ex (.int .i64 ((f : Int) / (M : Int))), .ex (.int .i64 ((M : Int))), .ex (.int .i64 ((f : Int) / (M : Int) * (M : Int))), .ex (.pointer (ptrAt (A3) 0)), .ex (.slice (B) (m) (cB)), .ex (.int .i64 ((i : Int))), .ex (.pointer (ptrAt (A2) 0)), .ex (.slice (A) (n) (c)), .ex (.int .i64 (((n : Nat) : Int))), .ex (.int .i64 (((i : Int)) - (((n : Nat) : Int)))), .ex (.pointer (ptrAt (B) (((i : Int)) - (((n : Nat) : Int))).toNat)), .ex (.slice ((rg (rs') (((i : Int)) - (((n : Nat) : Int)))).a) ((rg (rs') (((i : Int)) - (((n : Nat) : Int)))).n) ((rg (rs') (((i : Int)) - (((n : Nat) : Int)))).c)), .ex (.int .i64 ((f : Int))), .ex (.int .i64 ((M : Int))), .ex (.int .i64 ((f : Int) % (M : Int))), .ex (.pointer (ptrAt ((rg (rs') (((i : Int)) - (((n : Nat) : Int)))).a) ((f : Int) % (M : Int)).toNat)), .ex (.int .i64 (v)), .ex (.int .i64 (((f : Int) / (M : Int) * (M : Int)) + (v))), .pr (fun v' w' => ∃ A57, v' = .slice A57 1 1 ∧ St w w' (CkI 2 A57 1 1 [(f : Int) / (M : Int) * (M : Int) + v] :: CkI 2 A9 f c9 acc :: ([Bx 26 1 A7 [.slice C i cC], Bx 26 1 A4 [.slice none 0 0], Bx 26 1 A3 [.slice B m cB], Bx 26 1 A2 [.slice A n c]] ++ mat 28 2 C i cC rsC zss))), .pr (fun v' w' => ∃ A21 c21, v' = .slice A21 (f + 1) c21 ∧ St w w' (CkI 2 A21 (f + 1) c21 (acc ++ [(f : Int) / (M : Int) * (M : Int) + v]) :: ([Bx 26 1 A7 [.slice C i cC], Bx 26 1 A4 [.slice none 0 0], Bx 26 1 A3 [.slice B m cB], Bx 26 1 A2 [.slice A n c]] ++ mat 28 2 C i cC rsC zss))), .pr (fun v' w' => ∃ A21 c21, v' = .slice A21 (f + 1) c21 ∧ St w w' (CkI 2 A21 (f + 1) c21 (acc ++ [(f : Int) / (M : Int) * (M : Int) + v]) :: ([Bx 26 1 A7 [.slice C i cC], Bx 26 1 A4 [.slice none 0 0], Bx 26 1 A3 [.slice B m cB], Bx 26 1 A2 [.slice A n c]] ++ mat 28 2 C i cC rsC zss)))] (by kernel_rfl) (by kernel_rfl) (lx (lx (lx (lx (lx (lx (lx (lx (lx (lx (lx (lx (lx (lx (lx (lx (lx (lx (lx (lx (lx (List.forall_mem_cons.2 ⟨Yd.lasts_pr (fun v w w' h hb => by obtain ⟨A20, hv, h1⟩ := h; exact ⟨A20, hv, h1.later hb⟩), (List.forall_mem_cons.2 ⟨Yd.lasts_pr (fun v w w' h hb => by obtain ⟨A21, c21, hv, h1⟩ := h; exact ⟨A21, c21, hv, h1.later hb⟩), (List.forall_mem_cons.2 ⟨Yd.lasts_pr (fun v w w' h hb => by obtain ⟨A21, c21, hv, h1⟩ := h; exact ⟨A21, c21, hv, h1.later hb⟩), (fun _ h => by cases h)⟩)⟩)⟩)))))))))))))))))))))) ⟨?_, ?_, ?_, ?_, ?_, ?_, ?_, ?_, ?_, ?_, ?_, ?_, ?_, ?_, ?_, ?_, ?_, ?_, ?_, ?_, ?_, ?_, ?_, ?_, trivial⟩ ?_
    ·intro e1 w1 cc hlo hhi hb0 hp hun hq
     show Ops _ _ _ _ _ _ _
     obtain rfl := cc_of hlo hhi (b := 0) (by kernel_rfl) (by kernel_rfl); clear hlo hhi
     have hb := hb0 rfl
     refine Ops.ms rfl (by exact hun 23 _ rfl (by kernel_rfl)) rfl (Ops.n (n0 rfl (by exact rfl)))
    ·intro e1 w1 cc hlo hhi hb0 hp hun hq
     show Ops _ _ _ _ _ _ _
     refine Ops.mi rfl rfl rfl (Ops.n (n0 rfl (by exact rfl)))
    ·intro e1 w1 cc hlo hhi hb0 hp hun hq
     show Ops _ _ _ _ _ _ _
     refine Ops.mi rfl rfl rfl (Ops.n (n0 rfl (by exact rfl)))
    ·intro e1 w1 cc hlo hhi hb0 hp hun hq
     show Ops _ _ _ _ _ _ _
     refine Ops.quo rfl rfl rfl (by omega) (Ops.n (n0 rfl (by exact rfl)))
    ·intro e1 w1 cc hlo hhi hb0 hp hun hq
     show Ops _ _ _ _ _ _ _
     refine Ops.mi rfl rfl rfl (Ops.n (n0 rfl (by exact rfl)))
    ·intro e1 w1 cc hlo hhi hb0 hp hun hq
     show Ops _ _ _ _ _ _ _
     refine Ops.mul rfl rfl rfl (by omega) (Ops.n (n0 rfl (by exact rfl)))
    ·intro e1 w1 cc hlo hhi hb0 hp hun hq
     show Ops _ _ _ _ _ _ _
     obtain rfl := cc_of hlo hhi (b := 0) (by kernel_rfl) (by kernel_rfl); clear hlo hhi
     have hb := hb0 rfl
     refine Ops.fld ((hS9.rd 3 rfl).below hb) rfl rfl rfl rfl inferInstance (Ops.n (n0 rfl (by exact rfl)))
    ·intro e1 w1 cc hlo hhi hb0 hp hun hq
     show Ops _ _ _ _ _ _ _
     obtain rfl := cc_of hlo hhi (b := 0) (by kernel_rfl) (by kernel_rfl); clear hlo hhi
     have hb := hb0 rfl
     refine Ops.ldf_s ((hS9.rd 3 rfl).below hb) rfl rfl rfl rfl rfl (Ops.n (n0 rfl (by exact rfl)))
    ·intro e1 w1 cc hlo hhi hb0 hp hun hq
     show Ops _ _ _ _ _ _ _
     refine Ops.mi rfl rfl rfl (Ops.n (n0 rfl (by exact rfl)))
    ·intro e1 w1 cc hlo hhi hb0 hp hun hq
     show Ops _ _ _ _ _ _ _
     obtain rfl := cc_of hlo hhi (b := 0) (by kernel_rfl) (by kernel_rfl); clear hlo hhi
     have hb := hb0 rfl
     refine Ops.fld ((hS9.rd 4 rfl).below hb) rfl rfl rfl rfl inferInstance (Ops.n (n0 rfl (by exact rfl)))
    ·intro e1 w1 cc hlo hhi hb0 hp hun hq
     show Ops _ _ _ _ _ _ _
     obtain rfl := cc_of hlo hhi (b := 0) (by kernel_rfl) (by kernel_rfl); clear hlo hhi
     have hb := hb0 rfl
     refine Ops.ldf_s ((hS9.rd 4 rfl).below hb) rfl rfl rfl rfl rfl (Ops.n (n0 rfl (by exact rfl)))
    ·intro e1 w1 cc hlo hhi hb0 hp hun hq
     show Ops _ _ _ _ _ _ _
     refine Ops.len rfl rfl (Ops.n (n0 rfl (by exact rfl)))
    ·intro e1 w1 cc hlo hhi hb0 hp hun hq
     show Ops _ _ _ _ _ _ _
     refine Ops.sub rfl rfl rfl (by omega) (Ops.n (n0 rfl (by exact rfl)))
    ·intro e1 w1 cc hlo hhi hb0 hp hun hq
     show Ops _ _ _ _ _ _ _
     obtain rfl := cc_of hlo hhi (b := 0) (by kernel_rfl) (by kernel_rfl); clear hlo hhi
     have hb := hb0 rfl
     refine Ops.idx (hY9.top.later hb).2 rfl rfl rfl (by omega) (by omega) (Ops.n (n0 rfl (by exact rfl)))
    ·intro e1 w1 cc hlo hhi hb0 hp hun hq
     show Ops _ _ _ _ _ _ _
     obtain rfl := cc_of hlo hhi (b := 0) (by kernel_rfl) (by kernel_rfl); clear hlo hhi
     have hb := hb0 rfl
     refine Ops.ld_sl (hY9.top.later hb) rfl (by omega) rfl rfl (Ops.n (n0 rfl (by exact rfl)))
    ·intro e1 w1 cc hlo hhi hb0 hp hun hq
     show Ops _ _ _ _ _ _ _
     refine Ops.mi rfl rfl rfl (Ops.n (n0 rfl (by exact rfl)))
    ·intro e1 w1 cc hlo hhi hb0 hp hun hq
     show Ops _ _ _ _ _ _ _
     refine Ops.mi rfl rfl rfl (Ops.n (n0 rfl (by exact rfl)))
    ·intro e1 w1 cc hlo hhi hb0 hp hun hq
     show Ops _ _ _ _ _ _ _
     refine Ops.rem rfl rfl rfl (by omega) (Ops.n (n0 rfl (by exact rfl)))
    ·intro e1 w1 cc hlo hhi hb0 hp hun hq
     show Ops _ _ _ _ _ _ _
     obtain rfl := cc_of hlo hhi (b := 0) (by kernel_rfl) (by kernel_rfl); clear hlo hhi
     have hb := hb0 rfl
     refine Ops.idx (hrow.later hb).2 rfl rfl rfl (by omega) (by omega) (Ops.n (n0 rfl (by exact rfl)))
    ·intro e1 w1 cc hlo hhi hb0 hp hun hq
     show Ops _ _ _ _ _ _ _
     obtain rfl := cc_of hlo hhi (b := 0) (by kernel_rfl) (by kernel_rfl); clear hlo hhi
     have hb := hb0 rfl
     refine Ops.ld_int (hrow.later (hb0 rfl)) rfl (by omega) rfl rfl (Ops.n ?_)
     exact n0 rfl (by exact congrArg (Value.int .i64) hV)
    ·intro e1 w1 cc hlo hhi hb0 hp hun hq
     show Ops _ _ _ _ _ _ _
     refine Ops.add rfl rfl rfl (by omega) (Ops.n (n0 rfl (by exact rfl)))
    ·intro e1 w1 cc hlo hhi hb0 hp hun hq
     show Ops _ _ _ _ _ _ _
     obtain rfl := cc_of hlo hhi (b := 0) (by kernel_rfl) (by kernel_rfl); clear hlo hhi
     have hb := hb0 rfl
     refine Ops.bs1I (St.refl _) rfl rfl rfl ?_
     intro A20 w20 hst20
     refine Ops.n ?_
     exact AfterN.dn rfl hst20.below ⟨A20, rfl, (hS9.later hb).call hst20⟩
    ·intro e1 w1 cc hlo hhi hb0 hp hun hq
     show Ops _ _ _ _ _ _ _
     obtain rfl := cc_of hlo hhi (b := 0) (by kernel_rfl) (by kernel_rfl); clear hlo hhi
     have hb := hb0 rfl
     obtain ⟨A20, hv', h1⟩ := (hp 21 _ _ (by kernel_rfl) rfl rfl (by kernel_rfl))
     refine Ops.appI 1 h1 rfl (h1.rdI 0 rfl) rfl (by exact hv') rfl (by omega) (by omega) rfl ?_
     intro A21 c21 w21 hT21
     refine Ops.n ?_
     exact AfterT.dn rfl ⟨A21, c21, rfl, hT21.tail⟩
    ·intro e1 w1 cc hlo hhi hb0 hp hun hq
     show Ops _ _ _ _ _ _ _
     obtain rfl := cc_of hlo hhi (b := 1) (by kernel_rfl) (by kernel_rfl); clear hlo hhi
     have hph := hp 22 _ _ (by kernel_rfl) rfl rfl (by kernel_rfl)
     obtain ⟨A21, c21, hv', h1⟩ := (hp 22 _ _ (by kernel_rfl) rfl rfl (by kernel_rfl))
     refine Ops.ms rfl (by exact hv') rfl (Ops.n ?_)
     exact AfterN.dn rfl (Below.refl _ _) ⟨A21, c21, rfl, h1⟩
    intro u w10 _ hu
    obtain ⟨A21, c21, hv9, hT⟩ := hu 23 _ rfl (by kernel_rfl)
    refine blockQ_n (tQ (Cd.region (Ops.mi rfl rfl rfl (Ops.add rfl rfl rfl (by omega) (Ops.mi rfl rfl rfl (Ops.n (tQ ?_)))))))
    refine ⟨(f + 1, A21, c21, acc ++ [(f : Int) / (M : Int) * (M : Int) + v]), by show N * M - (f + 1) < N * M - f; omega, ⟨rfl, rfl, rfl, rfl, rfl, rfl, rfl, hv9, rfl, trivial⟩, hT, by show f + 1 ≤ N * M; omega, by simp [hal], fun x hx' => ?_⟩
    rcases List.mem_append.1 hx' with h | h
    ·exact hacc x h
    ·rw [List.mem_singleton] at h; subst h; omega
  ·have hfe : f = N * M := by omega
   refine Cd.exit (thenQ_x (thenQ_x (blockQ_x (tQ (Cd.region (Ops.fld (hS9.rd 1 rfl) rfl rfl rfl rfl inferInstance (Ops.ldf_s (hS9.rd 1 rfl) rfl rfl rfl rfl rfl (Ops.ms rfl rfl rfl (Ops.bs1R hS9 rfl rfl rfl ?_)))))))))
   intro A85 w10 hS10
   refine Ops.appR 6 hS10 rfl (hS10.rdR 0 rfl) rfl rfl rfl (by omega) (by omega) rfl ?_
   intro A86 c86 w11 hS11
   have hS11 : St w w11 (CkI 2 A9 f c9 acc :: Bx 26 1 A7 [.slice C i cC] :: Bx 26 1 A4 [.slice none 0 0] :: Bx 26 1 A3 [.slice B m cB] :: Bx 26 1 A2 [.slice A n c] :: CkR 28 A86 (i + 1) c86 (rsC ++ [⟨A9, f, c9⟩]) :: rowsCk 2 rsC zss) := hS11.tail
   skip
   refine Ops.fld (hS11.rd 1 rfl) rfl rfl rfl rfl inferInstance (Ops.stf 1 hS11 rfl rfl rfl rfl rfl ?_)
   intro w12 hS12
   have hS12 : St w w12 (CkI 2 A9 f c9 acc :: Bx 26 1 A7 [.slice A86 (i + 1) c86] :: Bx 26 1 A4 [.slice none 0 0] :: Bx 26 1 A3 [.slice B m cB] :: Bx 26 1 A2 [.slice A n c] :: CkR 28 A86 (i + 1) c86 (rsC ++ [⟨A9, f, c9⟩]) :: rowsCk 2 rsC zss) := hS12
   refine Ops.n (blockQ_n (tQ (Cd.region (Ops.mi rfl rfl rfl (Ops.add rfl rfl rfl (by omega) (Ops.mi rfl rfl rfl (Ops.n (tQ ?_))))))))
   refine ⟨⟨0, 0, A86, i + 1, c86, rsC ++ [⟨A9, f, c9⟩], zss ++ [acc]⟩, by show n + m - (i + 1) < n + m - i; omega, ⟨rfl, rfl, rfl, rfl, rfl, rfl, rfl, trivial⟩, ?_, by show i + 1 ≤ n + m; omega, by simp [hrl], by simp [hzl], fun p hp => ?_⟩
   ·show St w w12 ([_, _, _, _] ++ CkR 28 A86 (i + 1) c86 (rsC ++ [⟨A9, f, c9⟩]) :: rowsCk 2 (rsC ++ [⟨A9, f, c9⟩]) (zss ++ [acc]))
    rw [rowsCk_append (by omega)]
    refine hS12.perm ?_
    exact List.perm_append_comm (l₁ := [_]) (l₂ := _ :: _ :: _ :: _ :: CkR 28 A86 (i + 1) c86 (rsC ++ [⟨A9, f, c9⟩]) :: rowsCk 2 rsC zss)
   ·rcases List.mem_append.1 hp with h | h
    ·exact hz p h
    ·rw [List.mem_singleton] at h; subst h; exact ⟨by omega, hacc⟩
 ·have hie : i = n + m := by omega
  subst hie
  refine Cd.exit (thenQ_x (thenQ_x (blockQ_x (tQ (Cd.seq (Cd.region (Ops.ld_agg 0 (hS7.rd 0 rfl) rfl rfl rfl (Ops.st_agg 1 1 hS7 rfl rfl rfl rfl rfl rfl rfl ?_))))))))
  intro w8 hS8
  refine Ops.n (tQ (Cd.ret ?_))
  skip
  refine retc_r rfl (hS8.rd 1 rfl) ?_
  exact ⟨C, cC, rsC, zss, rfl, hrl, hzl, hz, (((hS8.sub ((List.Sublist.refl _).cons _)).sub ((List.Sublist.refl _).cons _)).sub ((List.Sublist.refl _).cons _)).sub ((List.Sublist.refl _).cons _)⟩
end Go.Proofs.YtbhnfehcpnnjcaaGreatDoor.Vc
/-
 The draws of maniplexes, walked: maps. Conditions: as each states them.
-/
namespace Go.Proofs.YtbhnfehcpnnjcaaGreatDoor.Vc
open Go.RowKit

theorem bits_xor_lt {q e c : Nat} (h : q < 4 * e) (hc : c < 4) (he : e ≤ 1000000) : 0 ≤ bits .xor .i64 (q : Int) (c : Int) ∧ bits .xor .i64 (q : Int) (c : Int) < ((4 * e : Nat) : Int) := by
 have h1 : (q ^^^ c) / 4 = q / 4 := by
  have h2 : (q ^^^ c) / 2 ^ 2 = q / 2 ^ 2 ^^^ c / 2 ^ 2 := Nat.xor_div_two_pow
  have h3 : c / 2 ^ 2 = 0 := Nat.div_eq_of_lt (by simpa using hc)
  rw [h3, Nat.xor_zero] at h2
  exact h2
 have h4 : q ^^^ c < 4 * e := by omega
 have e1 : bits .xor .i64 (q : Int) (c : Int) = IntKind.i64.wrap ((BitVec.ofInt 64 (q : Int) ^^^ BitVec.ofInt 64 (c : Int)).toNat : Int) := rfl
 have e2 : (BitVec.ofInt 64 (q : Int) ^^^ BitVec.ofInt 64 (c : Int)).toNat = q ^^^ c := by
  rw [BitVec.toNat_xor, BitVec.ofInt_natCast, BitVec.ofInt_natCast, BitVec.toNat_ofNat, BitVec.toNat_ofNat, Nat.mod_eq_of_lt (by omega), Nat.mod_eq_of_lt (by omega)]
 rw [e1, e2, IntWalk.i64_in _ (by omega)]
 omega
section
variable {P : Program} {N : Nat} {ops : Array Oper} {K : Env → World → Prop} {rest : List Oper} {e : Env} {w0 w w' : World} {ks : List Ck} {d : Nat} {ty : TypeId} {pos : String} {af : Array Edge} {x y : Operand} {xt yt : TypeId} {i j : Int}
theorem Ops.xorI (hx : ev e x = .int .i64 i) (hy : ev e y = .int .i64 j) (hb : Nat.blt d N = true) (hK : Ops P N ops K rest (upd e d (.int .i64 (bits .xor .i64 i j))) w) :
  Ops P N ops K (⟨some d, .binOp .xor xt x y yt, ty, pos, af, none⟩ :: rest) e w :=
 .val (by simp only [execOp, hx, hy, eqGuard, binOp, intBits_xor]; simp) hb hK
theorem Ops.bs3R {t el : TypeId} {b : Nat} [Und P t (.slice el)] [Inf P el (.slice none 0 0) 1 b] {x0 x1 x2 : Operand} {s0 s1 s2 : SlV} (hS : St w0 w ks) (h0 : ev e x0 = s0.v) (h1 : ev e x1 = s1.v) (h2 : ev e x2 = s2.v) (hb : Nat.blt d N = true)
    (hK : ∀ A w', St w0 w' (CkR el A 3 3 [s0, s1, s2] :: ks) → Ops P N ops K rest (upd e d (.slice A 3 3)) w') : Ops P N ops K (⟨some d, .buildSlice t 3 #[(0, x0), (1, x1), (2, x2)], ty, pos, af, none⟩ :: rest) e w := by
  obtain ⟨inf, hi, hz0, hs, hby⟩ := Inf.get P el
  have e0 : (s0.v).cells = #[s0.v] := rfl
  have e1 : (s1.v).cells = #[s1.v] := rfl
  have e2 : (s2.v).cells = #[s2.v] := rfl
  have hz : (Value.slice none 0 0).cells = #[Value.slice none 0 0] := rfl
  refine .val (w' := w.alloc (.cells #[s0.v, s1.v, s2.v] el)) ?_ hb (hK _ _ (hS.alloc [s0.v, s1.v, s2.v] el (by simp [maxLen]) rfl))
  simp [execOp, Instr.buildSlice, run_underlying (Und.out (P := P) (t := t)), sizeOf, typeInfo, zeroValue, hi, hs, hz0, hz, Instr.fill, newRow, h0, e0, h1, e1, h2, e2, arr_range, List.range_succ]
end

theorem l02Map_c {w0 w : World} {ks : List Ck} (ix : Nat) {As : Option Addr} {k : Ck} (ed : Nat) (hS : St w0 w ks) (hk : ks[ix]? = some k) (hK : srcK w0 As k) (he : 1 ≤ ed ∧ ed ≤ 100000) :
  Ret Tryz.prog 127 [.pointer As, .int .i64 (ed : Int)] w (fun v w' => ∃ A c rs xss N k', v = .agg #[.slice A 3 c] ∧ rs.length = 3 ∧ xss.length = 3 ∧ GM N xss ∧ (1 ≤ N ∧ N ≤ 4 * ed) ∧ srcK w0 As k' ∧ St w0 w' (mat 28 2 A 3 c rs xss ++ ks.set ix k')) := by
 refine Ret.of_cd Tryz.func127 rfl Tryz.ntmps127 rfl (postc rfl rfl) (Cd.seq (Cd.region (Ops.new1 hS rfl ?_)))
 intro A4 w1 hS1
 refine Ops.n (tQ (Cd.seq (Cd.region (Ops.mi rfl rfl rfl (Ops.mul rfl rfl rfl (by omega) (Ops.mi rfl rfl rfl (Ops.n (tQ (Cd.seq ?_)))))))))
 refine Cd.region (Ops.bs0 hS1 rfl ?_)
 intro A20 w2 hS2
 skip
 refine Ops.bs0 hS2 rfl ?_
 intro A21 w3 hS3
 have hn : (4 : Int) * (ed : Int) = ((4 * ed : Nat) : Int) := by omega
 rw [hn]
 have hS3 : St w0 w3 (CkI 2 A21 0 0 [] :: CkI 2 A20 0 0 [] :: Bx 26 1 A4 [.slice none 0 0] :: ks) := hS3
 refine Ops.mv_ptr rfl rfl rfl (Ops.mi rfl rfl rfl (Ops.call (l01Matching_c (ix + 3) (4 * ed) hS3 (by exact hk) hK (by omega)) rfl rfl rfl ?_))
 rintro _ w4 ⟨Am, cm, ps, k', rfl, hps, hK', hS4⟩
 have hS4 : St w0 w4 (CkI 2 Am (4 * ed) cm ps :: CkI 2 A21 0 0 [] :: CkI 2 A20 0 0 [] :: Bx 26 1 A4 [.slice none 0 0] :: ks.set ix k') := hS4
 generalize hN : 4 * ed = n at *
 refine Ops.ms rfl rfl rfl (Ops.ms rfl rfl rfl (Ops.ms rfl rfl rfl (Ops.n (tQ (Cd.seq (Cd.seq (Cd.region (Ops.mi rfl rfl rfl (Ops.n ?_)))))))))
 refine tQ (Cd.block ?_)
 refine Cd.loop (α := Nat × Option Addr × Nat × List Int × Option Addr × Nat × List Int) (fun s => [(4, .pointer A4), (5, .int .i64 (n : Int)), (6, .slice s.2.1 s.1 s.2.2.1), (7, .slice s.2.2.2.2.1 s.1 s.2.2.2.2.2.1), (8, .slice Am n cm), (9, .int .i64 (s.1 : Int))]) (fun s w' => St w0 w' (CkI 2 Am n cm ps :: CkI 2 s.2.2.2.2.1 s.1 s.2.2.2.2.2.1 s.2.2.2.2.2.2 :: CkI 2 s.2.1 s.1 s.2.2.1 s.2.2.2.1 :: Bx 26 1 A4 [.slice none 0 0] :: ks.set ix k') ∧ s.1 ≤ n ∧ s.2.2.2.1.length = s.1 ∧ s.2.2.2.2.2.2.length = s.1 ∧ (∀ x ∈ s.2.2.2.1, 0 ≤ x ∧ x < (n : Int)) ∧ (∀ x ∈ s.2.2.2.2.2.2, 0 ≤ x ∧ x < (n : Int))) (fun s => n - s.1) (0, A20, 0, [], A21, 0, []) ⟨rfl, rfl, rfl, rfl, rfl, rfl, trivial⟩ ⟨hS4, Nat.zero_le _, rfl, rfl, fun x hx => (nomatch hx), fun x hx => (nomatch hx)⟩ ?_
 rintro ⟨f, A6, c6, zs, A7, c7, ts⟩ e w5 ⟨hS5, hf, hzl, htl, hz, ht⟩
 dsimp only at hS5 hf hzl htl hz ht ⊢
 refine Cd.seq (Cd.seq (Cd.region (Ops.mi rfl rfl rfl (Ops.mi rfl rfl rfl (Ops.lss rfl rfl rfl (Ops.n (tQ ?_)))))))
 refine Cd.cond_p _ rfl (fun h1 => ?_) (fun h1 => ?_)
 ·have hx1 := bits_xor_lt (q := f) (e := ed) (c := 1) (by omega) (by decide) (by omega)
  have hx2 := bits_xor_lt (q := f) (e := ed) (c := 2) (by omega) (by decide) (by omega)
  rw [hN] at hx1 hx2
  refine Cd.skip (tQ (Cd.seq (Cd.block (Cd.seq (Cd.region (Ops.ms rfl rfl rfl (Ops.mi rfl rfl rfl (Ops.xorI (j := ((1 : Nat) : Int)) rfl rfl rfl ?_))))))))
  generalize bits .xor .i64 (f : Int) ((1 : Nat) : Int) = b1 at hx1 ⊢
  skip
  refine Ops.bs1I hS5 rfl rfl rfl ?_
  intro A33 w6 hS6
  refine Ops.appI 3 hS6 rfl (hS6.rdI 0 rfl) rfl rfl rfl (by omega) (by omega) rfl ?_
  intro A34 c34 w7 hS7
  have hS7 : St w0 w7 (CkI 2 Am n cm ps :: CkI 2 A7 f c7 ts :: CkI 2 A34 (f + 1) c34 (zs ++ [b1]) :: Bx 26 1 A4 [.slice none 0 0] :: ks.set ix k') := hS7.tail
  refine Ops.ms rfl rfl rfl (Ops.n (tQ (Cd.region (Ops.ms rfl rfl rfl (Ops.mi rfl rfl rfl (Ops.xorI (j := ((2 : Nat) : Int)) rfl rfl rfl ?_))))))
  generalize bits .xor .i64 (f : Int) ((2 : Nat) : Int) = b2 at hx2 ⊢
  skip
  refine Ops.bs1I hS7 rfl rfl rfl ?_
  intro A38 w8 hS8
  refine Ops.appI 2 hS8 rfl (hS8.rdI 0 rfl) rfl rfl rfl (by omega) (by omega) rfl ?_
  intro A39 c39 w9 hS9
  refine Ops.ms rfl rfl rfl (Ops.n (blockQ_n (tQ (Cd.region (Ops.mi rfl rfl rfl (Ops.add rfl rfl rfl (by omega) (Ops.mi rfl rfl rfl (Ops.n (tQ ?_)))))))))
  refine ⟨(f + 1, A34, c34, zs ++ [b1], A39, c39, ts ++ [b2]), by show n - (f + 1) < n - f; omega, ⟨rfl, rfl, rfl, rfl, rfl, rfl, trivial⟩, hS9.tail, by show f + 1 ≤ n; omega, by simp [hzl], by simp [htl], fun x hx => ?_, fun x hx => ?_⟩
  ·rcases List.mem_append.1 hx with h | h
   ·exact hz x h
   ·rw [List.mem_singleton] at h; subst h; exact hx1
  ·rcases List.mem_append.1 hx with h | h
   ·exact ht x h
   ·rw [List.mem_singleton] at h; subst h; exact hx2
 have hfn : f = n := by omega
 subst hfn
 refine Cd.exit (thenQ_x (thenQ_x (blockQ_x (tQ (Cd.seq (Cd.region (Ops.ms rfl rfl rfl (Ops.ms rfl rfl rfl (Ops.ms rfl rfl rfl ?_)))))))))
 refine Ops.bs3R (s0 := ⟨A6, f, c6⟩) (s1 := ⟨Am, f, cm⟩) (s2 := ⟨A7, f, c7⟩) hS5 rfl rfl rfl rfl ?_
 intro A10 w6 hS6
 have hS6 : St w0 w6 (mat 28 2 A10 3 3 [⟨A6, f, c6⟩, ⟨Am, f, cm⟩, ⟨A7, f, c7⟩] [zs, ps, ts] ++ (Bx 26 1 A4 [.slice none 0 0] :: ks.set ix k')) := hS6.perm (List.Perm.cons _ (((List.Perm.cons _ (List.Perm.swap _ _ _)).trans (List.Perm.swap _ _ _)).trans (List.Perm.cons _ (List.Perm.refl _))))
 have hG : GM f [zs, ps, ts] := fun q hq => by
  rcases List.mem_cons.1 hq with rfl | hq
  ·exact ⟨hzl, hz⟩
  ·rcases List.mem_cons.1 hq with rfl | hq
   ·exact hps
   ·rw [List.mem_singleton] at hq; subst hq; exact ⟨htl, ht⟩
 have hM6 : RowsI w6 A10 3 [⟨A6, f, c6⟩, ⟨Am, f, cm⟩, ⟨A7, f, c7⟩] [zs, ps, ts] := St.rowsI hS6 rfl
 obtain ⟨o1, o2, _⟩ := orbit_spec (N := f) (xss := [zs, ps, ts]) (pt := 0) hG.sys (Int.le_refl _) (by omega)
 have hol := o1.len
 have hol1 : 1 ≤ (orbit f [zs, ps, ts] 0).length := by
  have := o2.length_le
  simpa using this
 have horg := o1.range
 refine Ops.ms rfl rfl rfl (Ops.n (tQ (Cd.seq (Cd.region (Ops.ms rfl rfl rfl ?_)))))
 refine Ops.call (l01Orbit_c A10 3 3 _ _ f 0 _ hM6 (by decide) hG.sys (by omega) (Int.le_refl _) (by omega)) rfl rfl rfl ?_
 rintro _ w7 ⟨A11, c11, rfl, hst7⟩
 have hS7 := hS6.call hst7
 generalize hO : orbit f [zs, ps, ts] 0 = ord at *
 have hS7 : St w0 w7 (CkI 2 A11 ord.length c11 ord :: (mat 28 2 A10 3 3 [⟨A6, f, c6⟩, ⟨Am, f, cm⟩, ⟨A7, f, c7⟩] [zs, ps, ts] ++ (Bx 26 1 A4 [.slice none 0 0] :: ks.set ix k'))) := hS7
 refine Ops.ms rfl rfl rfl (Ops.n (tQ (Cd.seq (Cd.region (Ops.mi rfl rfl rfl (Ops.mkI f hS7 rfl rfl (by omega) ?_))))))
 intro A12 w8 hS8
 refine Ops.ms rfl rfl rfl (Ops.n (tQ (Cd.seq (Cd.seq (Cd.region (Ops.mi rfl rfl rfl (Ops.n (tQ (Cd.block ?_)))))))))
 refine Cd.loop (α := Nat × List Int) (fun s => [(4, .pointer A4), (5, .int .i64 (f : Int)), (10, .slice A10 3 3), (11, .slice A11 ord.length c11), (12, .slice A12 f f), (13, .int .i64 (s.1 : Int))]) (fun s w' => St w0 w' (CkI 2 A12 f f s.2 :: CkI 2 A11 ord.length c11 ord :: (mat 28 2 A10 3 3 [⟨A6, f, c6⟩, ⟨Am, f, cm⟩, ⟨A7, f, c7⟩] [zs, ps, ts] ++ (Bx 26 1 A4 [.slice none 0 0] :: ks.set ix k'))) ∧ s.1 ≤ ord.length ∧ s.2.length = f ∧ ∀ x ∈ s.2, 0 ≤ x ∧ x < (ord.length : Int)) (fun s => ord.length - s.1) (0, List.replicate f 0) ⟨rfl, rfl, rfl, rfl, rfl, rfl, trivial⟩ ⟨hS8, Nat.zero_le _, by simp, fun x hx => by obtain ⟨h0, rfl⟩ := List.mem_replicate.1 hx; omega⟩ ?_
 rintro ⟨i, num⟩ e w9 ⟨hS9, hi, hnl, hnr⟩
 dsimp only at hS9 hi hnl hnr ⊢
 refine Cd.seq (Cd.seq (Cd.region (Ops.mi rfl rfl rfl (Ops.ms rfl rfl rfl (Ops.len rfl rfl (Ops.lss rfl rfl rfl (Ops.n (tQ ?_))))))))
 refine Cd.cond_p _ rfl (fun h2 => ?_) (fun h2 => ?_)
 ·have hR11 := hS9.rdI 1 rfl
  have hR12 := hS9.rdI 0 rfl
  have hor := horg (gi ord (i : Int)) (by rw [gi_mem (by omega)]; exact List.getElem_mem _)
  refine Cd.skip (tQ (Cd.seq (Cd.block (Cd.region (Ops.ms rfl rfl rfl (Ops.ms rfl rfl rfl (Ops.mi rfl rfl rfl (Ops.idx hR11.2 rfl rfl rfl (by omega) (by omega) (Ops.ld_int hR11 rfl (by omega) rfl rfl ?_)))))))))
  refine Ops.mi rfl rfl rfl (Ops.idx hR12.2 rfl rfl rfl (by omega) (by omega) (Ops.st_int 0 hS9 rfl rfl rfl (by omega) ?_))
  intro w10 hS10
  refine Ops.n (blockQ_n (tQ (Cd.region (Ops.mi rfl rfl rfl (Ops.add rfl rfl rfl (by omega) (Ops.mi rfl rfl rfl (Ops.n (tQ ?_))))))))
  refine ⟨(i + 1, num.set (gi ord (i : Int)).toNat (i : Int)), by show ord.length - (i + 1) < ord.length - i; omega, ⟨rfl, rfl, rfl, rfl, rfl, rfl, trivial⟩, hS10, by show i + 1 ≤ ord.length; omega, by rw [List.length_set]; exact hnl, fun x hx => ?_⟩
  rcases List.mem_or_eq_of_mem_set hx with hx | rfl
  ·exact hnr x hx
  ·omega
 have hR11 := hS9.rdI 1 rfl
 have hR12 := hS9.rdI 0 rfl
 have hM9 : RowsI w9 A10 3 [⟨A6, f, c6⟩, ⟨Am, f, cm⟩, ⟨A7, f, c7⟩] [zs, ps, ts] := St.rowsI hS9.tail.tail rfl
 have hnum : ∀ x : Int, 0 ≤ x → x < f → 0 ≤ gi num x ∧ gi num x < (ord.length : Int) := fun x h0 h1 => by
  obtain ⟨q, rfl⟩ : ∃ q : Nat, x = q := ⟨x.toNat, by omega⟩
  rw [gi_mem (by omega)]
  exact hnr _ (List.getElem_mem _)
 refine Cd.exit (thenQ_x (thenQ_x (blockQ_x (tQ (Cd.seq (Cd.region (Ops.bld0 (by exact inferInstance) rfl (Ops.new1 (St.refl w9) rfl ?_))))))))
 intro A14 w10 hT10
 skip
 refine Ops.st_agg 1 0 hT10 rfl rfl rfl rfl rfl rfl rfl ?_
 intro w11 hT11
 have hT11 : St w9 w11 ([Bx 26 1 A14 [.slice none 0 0]] ++ mat 28 2 none 0 0 [] []) := (hT11.nil _).perm (List.perm_append_comm (l₁ := [_]) (l₂ := [_]))
 refine Ops.n (tQ (Cd.seq (Cd.seq (Cd.region (Ops.mi rfl rfl rfl (Ops.n (tQ (Cd.block ?_))))))))
 refine Cd.loop (α := PrS) (fun s => [(4, .pointer A4), (5, .int .i64 (f : Int)), (10, .slice A10 3 3), (11, .slice A11 ord.length c11), (12, .slice A12 f f), (14, .pointer A14), (15, .int .i64 (s.n : Int))]) (fun s w' => St w9 w' ([Bx 26 1 A14 [.slice s.B s.n s.c]] ++ mat 28 2 s.B s.n s.c s.rs s.xss) ∧ s.n ≤ 3 ∧ s.rs.length = s.n ∧ s.xss.length = s.n ∧ GM ord.length s.xss) (fun s => 3 - s.n) ⟨0, 0, none, 0, 0, [], []⟩ ⟨rfl, rfl, rfl, rfl, rfl, rfl, rfl, trivial⟩ ⟨hT11, Nat.zero_le _, rfl, rfl, fun p hp => (nomatch hp)⟩ ?_
 rintro ⟨_, _, C, q, cC, rsC, zss⟩ e w12 ⟨hT12, hq, hrl, hzl2, hzz⟩
 dsimp only at hT12 hq hrl hzl2 hzz ⊢
 refine Cd.seq (Cd.seq (Cd.region (Ops.mi rfl rfl rfl (Ops.lss rfl rfl rfl (Ops.n (tQ ?_))))))
 refine Cd.cond_p _ rfl (fun h3 => ?_) (fun h3 => ?_)
 ·refine Cd.skip (tQ (Cd.seq (Cd.block (Cd.seq (Cd.region (Ops.bs0 hT12 rfl ?_))))))
  intro A16 w13 hT13
  refine Ops.ms rfl rfl rfl (Ops.n (tQ (Cd.seq (Cd.seq (Cd.region (Ops.mi rfl rfl rfl (Ops.n (tQ (Cd.block ?_)))))))))
  refine Cd.loop (α := Nat × Option Addr × Nat × List Int) (fun s => [(4, .pointer A4), (5, .int .i64 (f : Int)), (10, .slice A10 3 3), (11, .slice A11 ord.length c11), (12, .slice A12 f f), (14, .pointer A14), (15, .int .i64 (q : Int)), (16, .slice s.2.1 s.1 s.2.2.1), (17, .int .i64 (s.1 : Int))]) (fun s w' => St w9 w' (CkI 2 s.2.1 s.1 s.2.2.1 s.2.2.2 :: ([Bx 26 1 A14 [.slice C q cC]] ++ mat 28 2 C q cC rsC zss)) ∧ s.1 ≤ ord.length ∧ s.2.2.2.length = s.1 ∧ ∀ x ∈ s.2.2.2, 0 ≤ x ∧ x < (ord.length : Int)) (fun s => ord.length - s.1) (0, A16, 0, []) ⟨rfl, rfl, rfl, rfl, rfl, rfl, rfl, rfl, rfl, trivial⟩ ⟨hT13, Nat.zero_le _, rfl, fun x hx => (nomatch hx)⟩ ?_
  rintro ⟨j, A16, c16, acc⟩ e w14 ⟨hT14, hj, hal, hacc⟩
  dsimp only at hT14 hj hal hacc ⊢
  refine Cd.seq (Cd.seq (Cd.region (Ops.mi rfl rfl rfl (Ops.ms rfl rfl rfl (Ops.len rfl rfl (Ops.lss rfl rfl rfl (Ops.n (tQ ?_))))))))
  refine Cd.cond_p _ rfl (fun h4 => ?_) (fun h4 => ?_)
  ·have hO14 := hT14.oldI hR11
   have hN14 := hT14.oldI hR12
   have hM14 := hT14.oldRows hM9
   have hrow := hM14.at_ (i := (q : Int)) (by omega) (by omega)
   have hrg := hG.at_ (i := q) (by show q < 3; omega)
   have hrn : (rg [⟨A6, f, c6⟩, ⟨Am, f, cm⟩, ⟨A7, f, c7⟩] (q : Int)).n = f := by rw [← hrow.1, hrg.1]
   have hor := horg (gi ord (j : Int)) (by rw [gi_mem (by omega)]; exact List.getElem_mem _)
   have hmv := hrg.gi hor.1 hor.2
   have hnv := hnum _ hmv.1 hmv.2
   generalize hV : gi (gl [zs, ps, ts] (q : Int)) (gi ord (j : Int)) = mv at hmv hnv
   refine Cd.skip (tQ (Cd.seq (Cd.block ?_)))
   refine Cd.drawN [15] [.ex (.slice (A16) (j) (c16)), .ex (.slice (A12) (f) (f)), .ex (.slice (A10) (3) (3)), .ex (.int .i64 ((q : Int))), .ex (.pointer (ptrAt (A10) ((q : Int)).toNat)), .ex (.slice ((rg ([⟨A6, f, c6⟩, ⟨Am, f, cm⟩, ⟨A7, f, c7⟩]) ((q : Int))).a) ((rg ([⟨A6, f, c6⟩, ⟨Am, f, cm⟩, ⟨A7, f, c7⟩]) ((q : Int))).n) ((rg ([⟨A6, f, c6⟩, ⟨Am, f, cm⟩, ⟨A7, f, c7⟩]) ((q : Int))).c)), .ex (.slice (A11) (ord.length) (c11)), .ex (.int .i64 ((j : Int))), .ex (.pointer (ptrAt (A11) ((j : Int)).toNat)), .ex (.int .i64 (gi (ord) ((j : Int)))), .ex (.pointer (ptrAt (rg [⟨A6, f, c6⟩, ⟨Am, f, cm⟩, ⟨A7, f, c7⟩] (q : Int)).a (gi ord (j : Int)).toNat)), .ex (.int .i64 (mv)), .ex (.pointer (ptrAt (A12) (mv).toNat)), .ex (.int .i64 (gi (num) (mv))), .pr (fun v' w' => ∃ A57, v' = .slice A57 1 1 ∧ St w9 w' (CkI 2 A57 1 1 [gi num mv] :: CkI 2 A16 j c16 acc :: ([Bx 26 1 A14 [.slice C q cC]] ++ mat 28 2 C q cC rsC zss))), .pr (fun v' w' => ∃ A21 c21, v' = .slice A21 (j + 1) c21 ∧ St w9 w' (CkI 2 A21 (j + 1) c21 (acc ++ [gi num mv]) :: ([Bx 26 1 A14 [.slice C q cC]] ++ mat 28 2 C q cC rsC zss))), .pr (fun v' w' => ∃ A21 c21, v' = .slice A21 (j + 1) c21 ∧ St w9 w' (CkI 2 A21 (j + 1) c21 (acc ++ [gi num mv]) :: ([Bx 26 1 A14 [.slice C q cC]] ++ mat 28 2 C q cC rsC zss)))] (by kernel_rfl) (by kernel_rfl) (lx (lx (lx (lx (lx (lx (lx (lx (lx (lx (lx (lx (lx (lx (List.forall_mem_cons.2 ⟨Yd.lasts_pr (fun v w w' h hb => by obtain ⟨A20, hv, h1⟩ := h; exact ⟨A20, hv, h1.later hb⟩), (List.forall_mem_cons.2 ⟨Yd.lasts_pr (fun v w w' h hb => by obtain ⟨A21, c21, hv, h1⟩ := h; exact ⟨A21, c21, hv, h1.later hb⟩), (List.forall_mem_cons.2 ⟨Yd.lasts_pr (fun v w w' h hb => by obtain ⟨A21, c21, hv, h1⟩ := h; exact ⟨A21, c21, hv, h1.later hb⟩), (fun _ h => by cases h)⟩)⟩)⟩))))))))))))))) ⟨?_, ?_, ?_, ?_, ?_, ?_, ?_, ?_, ?_, ?_, ?_, ?_, ?_, ?_, ?_, ?_, ?_, trivial⟩ ?_
   ·intro e1 w1 cc hlo hhi hb0 hp hun hq
    show Ops _ _ _ _ _ _ _
    obtain rfl := cc_of hlo hhi (b := 0) (by kernel_rfl) (by kernel_rfl); clear hlo hhi
    have hb := hb0 rfl
    refine Ops.ms rfl (by exact hun 16 _ rfl (by kernel_rfl)) rfl (Ops.n (n0 rfl (by exact rfl)))
   ·intro e1 w1 cc hlo hhi hb0 hp hun hq
    show Ops _ _ _ _ _ _ _
    refine Ops.ms rfl rfl rfl (Ops.n (n0 rfl (by exact rfl)))
   ·intro e1 w1 cc hlo hhi hb0 hp hun hq
    show Ops _ _ _ _ _ _ _
    refine Ops.ms rfl rfl rfl (Ops.n (n0 rfl (by exact rfl)))
   ·intro e1 w1 cc hlo hhi hb0 hp hun hq
    show Ops _ _ _ _ _ _ _
    refine Ops.mi rfl rfl rfl (Ops.n (n0 rfl (by exact rfl)))
   ·intro e1 w1 cc hlo hhi hb0 hp hun hq
    show Ops _ _ _ _ _ _ _
    obtain rfl := cc_of hlo hhi (b := 0) (by kernel_rfl) (by kernel_rfl); clear hlo hhi
    have hb := hb0 rfl
    refine Ops.idx (hM14.top.later hb).2 rfl rfl rfl (by omega) (by omega) (Ops.n (n0 rfl (by exact rfl)))
   ·intro e1 w1 cc hlo hhi hb0 hp hun hq
    show Ops _ _ _ _ _ _ _
    obtain rfl := cc_of hlo hhi (b := 0) (by kernel_rfl) (by kernel_rfl); clear hlo hhi
    have hb := hb0 rfl
    refine Ops.ld_sl (hM14.top.later hb) rfl (by omega) rfl rfl (Ops.n (n0 rfl (by exact rfl)))
   ·intro e1 w1 cc hlo hhi hb0 hp hun hq
    show Ops _ _ _ _ _ _ _
    refine Ops.ms rfl rfl rfl (Ops.n (n0 rfl (by exact rfl)))
   ·intro e1 w1 cc hlo hhi hb0 hp hun hq
    show Ops _ _ _ _ _ _ _
    refine Ops.mi rfl rfl rfl (Ops.n (n0 rfl (by exact rfl)))
   ·intro e1 w1 cc hlo hhi hb0 hp hun hq
    show Ops _ _ _ _ _ _ _
    obtain rfl := cc_of hlo hhi (b := 0) (by kernel_rfl) (by kernel_rfl); clear hlo hhi
    have hb := hb0 rfl
    refine Ops.idx (hO14.later hb).2 rfl rfl rfl (by omega) (by omega) (Ops.n (n0 rfl (by exact rfl)))
   ·intro e1 w1 cc hlo hhi hb0 hp hun hq
    show Ops _ _ _ _ _ _ _
    obtain rfl := cc_of hlo hhi (b := 0) (by kernel_rfl) (by kernel_rfl); clear hlo hhi
    have hb := hb0 rfl
    refine Ops.ld_int (hO14.later hb) rfl (by omega) rfl rfl (Ops.n (n0 rfl (by exact rfl)))
   ·intro e1 w1 cc hlo hhi hb0 hp hun hq
    show Ops _ _ _ _ _ _ _
    obtain rfl := cc_of hlo hhi (b := 0) (by kernel_rfl) (by kernel_rfl); clear hlo hhi
    have hb := hb0 rfl
    refine Ops.idx (hrow.later (hb0 rfl)).2 rfl rfl rfl (by omega) (by omega) (Ops.n (n0 rfl (by exact rfl)))
   ·intro e1 w1 cc hlo hhi hb0 hp hun hq
    show Ops _ _ _ _ _ _ _
    obtain rfl := cc_of hlo hhi (b := 0) (by kernel_rfl) (by kernel_rfl); clear hlo hhi
    have hb := hb0 rfl
    refine Ops.ld_int (hrow.later (hb0 rfl)) rfl (by omega) rfl rfl (Ops.n ?_)
    exact n0 rfl (by exact congrArg (Value.int .i64) hV)
   ·intro e1 w1 cc hlo hhi hb0 hp hun hq
    show Ops _ _ _ _ _ _ _
    obtain rfl := cc_of hlo hhi (b := 0) (by kernel_rfl) (by kernel_rfl); clear hlo hhi
    have hb := hb0 rfl
    refine Ops.idx (hN14.later hb).2 rfl rfl rfl (by omega) (by omega) (Ops.n (n0 rfl (by exact rfl)))
   ·intro e1 w1 cc hlo hhi hb0 hp hun hq
    show Ops _ _ _ _ _ _ _
    obtain rfl := cc_of hlo hhi (b := 0) (by kernel_rfl) (by kernel_rfl); clear hlo hhi
    have hb := hb0 rfl
    refine Ops.ld_int (hN14.later hb) rfl (by omega) rfl rfl (Ops.n (n0 rfl (by exact rfl)))
   ·intro e1 w1 cc hlo hhi hb0 hp hun hq
    show Ops _ _ _ _ _ _ _
    obtain rfl := cc_of hlo hhi (b := 0) (by kernel_rfl) (by kernel_rfl); clear hlo hhi
    have hb := hb0 rfl
    refine Ops.bs1I (St.refl _) rfl rfl rfl ?_
    intro A20 w20 hst20
    refine Ops.n ?_
    exact AfterN.dn rfl hst20.below ⟨A20, rfl, (hT14.later hb).call hst20⟩
   ·intro e1 w1 cc hlo hhi hb0 hp hun hq
    show Ops _ _ _ _ _ _ _
    obtain rfl := cc_of hlo hhi (b := 0) (by kernel_rfl) (by kernel_rfl); clear hlo hhi
    have hb := hb0 rfl
    obtain ⟨A20, hv', h1⟩ := (hp 14 _ _ (by kernel_rfl) rfl rfl (by kernel_rfl))
    refine Ops.appI 1 h1 rfl (h1.rdI 0 rfl) rfl (by exact hv') rfl (by omega) (by omega) rfl ?_
    intro A21 c21 w21 hT21
    refine Ops.n ?_
    exact AfterT.dn rfl ⟨A21, c21, rfl, hT21.tail⟩
   ·intro e1 w1 cc hlo hhi hb0 hp hun hq
    show Ops _ _ _ _ _ _ _
    obtain rfl := cc_of hlo hhi (b := 1) (by kernel_rfl) (by kernel_rfl); clear hlo hhi
    have hph := hp 15 _ _ (by kernel_rfl) rfl rfl (by kernel_rfl)
    obtain ⟨A21, c21, hv', h1⟩ := (hp 15 _ _ (by kernel_rfl) rfl rfl (by kernel_rfl))
    refine Ops.ms rfl (by exact hv') rfl (Ops.n ?_)
    exact AfterN.dn rfl (Below.refl _ _) ⟨A21, c21, rfl, h1⟩
   intro u w15 _ hu
   obtain ⟨A21, c21, hv16, hT⟩ := hu 16 _ rfl (by kernel_rfl)
   refine blockQ_n (tQ (Cd.region (Ops.mi rfl rfl rfl (Ops.add rfl rfl rfl (by omega) (Ops.mi rfl rfl rfl (Ops.n (tQ ?_)))))))
   refine ⟨(j + 1, A21, c21, acc ++ [gi num mv]), by show ord.length - (j + 1) < ord.length - j; omega, ⟨rfl, rfl, rfl, rfl, rfl, rfl, rfl, hv16, rfl, trivial⟩, hT, by show j + 1 ≤ ord.length; omega, by simp [hal], fun x hx' => ?_⟩
   rcases List.mem_append.1 hx' with h | h
   ·exact hacc x h
   ·rw [List.mem_singleton] at h; subst h; exact hnv
  ·have hje : j = ord.length := by omega
   refine Cd.exit (thenQ_x (thenQ_x (blockQ_x (tQ (Cd.region (Ops.fld (hT14.rd 1 rfl) rfl rfl rfl rfl inferInstance (Ops.ldf_s (hT14.rd 1 rfl) rfl rfl rfl rfl rfl (Ops.ms rfl rfl rfl (Ops.bs1R hT14 rfl rfl rfl ?_)))))))))
   intro A85 w15 hT15
   refine Ops.appR 3 hT15 rfl (hT15.rdR 0 rfl) rfl rfl rfl (by omega) (by omega) rfl ?_
   intro A86 c86 w16 hT16
   have hT16 : St w9 w16 (CkI 2 A16 j c16 acc :: Bx 26 1 A14 [.slice C q cC] :: CkR 28 A86 (q + 1) c86 (rsC ++ [⟨A16, j, c16⟩]) :: rowsCk 2 rsC zss) := hT16.tail
   skip
   refine Ops.fld (hT16.rd 1 rfl) rfl rfl rfl rfl inferInstance (Ops.stf 1 hT16 rfl rfl rfl rfl rfl ?_)
   intro w17 hT17
   have hT17 : St w9 w17 (CkI 2 A16 j c16 acc :: Bx 26 1 A14 [.slice A86 (q + 1) c86] :: CkR 28 A86 (q + 1) c86 (rsC ++ [⟨A16, j, c16⟩]) :: rowsCk 2 rsC zss) := hT17
   refine Ops.n (blockQ_n (tQ (Cd.region (Ops.mi rfl rfl rfl (Ops.add rfl rfl rfl (by omega) (Ops.mi rfl rfl rfl (Ops.n (tQ ?_))))))))
   refine ⟨⟨0, 0, A86, q + 1, c86, rsC ++ [⟨A16, j, c16⟩], zss ++ [acc]⟩, by show 3 - (q + 1) < 3 - q; omega, ⟨rfl, rfl, rfl, rfl, rfl, rfl, rfl, trivial⟩, ?_, by show q + 1 ≤ 3; omega, by simp [hrl], by simp [hzl2], fun p hp => ?_⟩
   ·show St w9 w17 ([_] ++ CkR 28 A86 (q + 1) c86 (rsC ++ [⟨A16, j, c16⟩]) :: rowsCk 2 (rsC ++ [⟨A16, j, c16⟩]) (zss ++ [acc]))
    rw [rowsCk_append (by omega)]
    refine hT17.perm ?_
    exact List.perm_append_comm (l₁ := [_]) (l₂ := _ :: CkR 28 A86 (q + 1) c86 (rsC ++ [⟨A16, j, c16⟩]) :: rowsCk 2 rsC zss)
   ·rcases List.mem_append.1 hp with h | h
    ·exact hzz p h
    ·rw [List.mem_singleton] at h; subst h; exact ⟨by omega, hacc⟩
 ·have hq3 : q = 3 := by omega
  subst hq3
  have hF := hS9.call hT12
  have hF2 : St w0 w12 (Bx 26 1 A14 [.slice C 3 cC] :: (mat 28 2 C 3 cC rsC zss ++ (Bx 26 1 A4 [.slice none 0 0] :: ks.set ix k'))) :=
   hF.sub (List.Sublist.cons_cons _ (List.Sublist.append_left ((List.sublist_append_right _ _).cons _ |>.cons _) _))
  have hF3 : St w0 w12 (Bx 26 1 A14 [.slice C 3 cC] :: Bx 26 1 A4 [.slice none 0 0] :: (mat 28 2 C 3 cC rsC zss ++ ks.set ix k')) := hF2.perm (List.Perm.cons _ List.perm_middle)
  refine Cd.exit (thenQ_x (thenQ_x (blockQ_x (tQ (Cd.seq (Cd.region (Ops.ld_agg 0 (hF3.rd 0 rfl) rfl rfl rfl (Ops.st_agg 1 1 hF3 rfl rfl rfl rfl rfl rfl rfl ?_))))))))
  intro w13 hF4
  refine Ops.n (tQ (Cd.ret ?_))
  skip
  refine retc_r rfl (hF4.rd 1 rfl) ?_
  exact ⟨C, cC, rsC, zss, ord.length, k', rfl, hrl, hzl2, hzz, ⟨hol1, by omega⟩, hK', (hF4.sub ((List.Sublist.refl _).cons _)).sub ((List.Sublist.refl _).cons _)⟩
end Go.Proofs.YtbhnfehcpnnjcaaGreatDoor.Vc
/-
 The draws of maniplexes, walked: any maniplex. Conditions: as each states them.
-/
namespace Go.Proofs.YtbhnfehcpnnjcaaGreatDoor.Vc
open Go.RowKit

theorem two_eq {a b a' b' : Value} (h : a = a') (h' : b = b') : [a, b] = [a', b'] := by rw [h, h']

theorem postQ_ext {Q : Post} {e : Env} {w : World} {F : List (Nat × Value)} (hM : Mt e F) (h : Q .normal (ext e F) w) : Q .normal e w := by rwa [ext_of_mt hM] at h

theorem srcNextX_c {w0 w : World} {ks : List Ck} (X : List Ck) (ix : Nat) {As : Option Addr} {k : Ck} (n : Int) (hS : St w0 w (X ++ ks)) (hk : ks[ix]? = some k) (hK : srcK w0 As k) :
  Ret Tryz.prog 57 [.pointer As, .int .i64 n] w (fun v w' => ∃ (r : Int) (k' : Ck), v = .int .i64 r ∧ (0 ≤ r ∧ (1 ≤ n → r < n) ∧ (n < 1 → r = 0)) ∧ srcK w0 As k' ∧ St w0 w' (X ++ ks.set ix k')) := by
 have e : (X ++ ks)[X.length + ix]? = some k := by
  rw [List.getElem?_append_right (by omega), Nat.add_sub_cancel_left]; exact hk
 have h := srcNext_c (X.length + ix) n hS e hK
 refine h.mono ?_
 rintro v w' ⟨r, k', h1, h2, h3, h4⟩
 rw [show (X ++ ks).set (X.length + ix) k' = X ++ ks.set ix k' from by rw [List.set_append, if_neg (by omega), Nat.add_sub_cancel_left]] at h4
 exact ⟨r, k', h1, h2, h3, h4⟩

/-- an answer: a drawn maniplex in memory of its own; the source stays one -/
def AnsD (w0 : World) (ks : List Ck) (ix : Nat) (As : Option Addr) (v : Value) (w' : World) : Prop :=
 ∃ (n N : Nat) (A : Option Addr) (c : Nat) (rs : List SlV) (xss : List (List Int)) (k' : Ck), v = .agg #[.slice A n c] ∧ (1 ≤ n ∧ n ≤ 5) ∧ (1 ≤ N ∧ N ≤ 20000) ∧ rs.length = n ∧ xss.length = n ∧ GM N xss ∧ srcK w0 As k' ∧ St w0 w' (mat 28 2 A n c rs xss ++ ks.set ix k')

structure AnS where
 n : Nat
 N : Nat
 A : Option Addr
 c : Nat
 rs : List SlV
 xss : List (List Int)
 k : Ck

/-- the memory while a maniplex is drawn: the maniplex, the edge, the result, the edge's rows -/
abbrev anyL (A4 A5 A6 Ar Ae : Option Addr) (vs : List Value) (X : List Ck) : List Ck :=
 Bx 26 1 A6 vs :: Bx 26 1 A5 [.slice Ar 1 1] :: Bx 26 1 A4 [.slice none 0 0] :: (mat 28 2 Ar 1 1 [⟨Ae, 2, 2⟩] [[1, 0]] ++ X)
abbrev anyM (A4 A5 A6 Ar Ae : Option Addr) (vs : List Value) (ms X : List Ck) : List Ck :=
 Bx 26 1 A6 vs :: Bx 26 1 A5 [.slice Ar 1 1] :: Bx 26 1 A4 [.slice none 0 0] :: (ms ++ (mat 28 2 Ar 1 1 [⟨Ae, 2, 2⟩] [[1, 0]] ++ X))

theorem any_join {w0 w w' : World} {A4 A5 A6 Ar Ae : Option Addr} {vs : List Value} {ms X : List Ck} (hS : St w0 w (anyL A4 A5 A6 Ar Ae vs X)) (hT : St w w' ms) : St w0 w' (anyM A4 A5 A6 Ar Ae vs ms X) :=
  (hS.call hT).perm ((List.perm_middle (l₁ := ms)).trans (List.Perm.cons _ ((List.perm_middle (l₁ := ms)).trans (List.Perm.cons _ (List.perm_middle (l₁ := ms))))))
theorem any_perm {w0 w' : World} {A4 A5 A6 Ar Ae : Option Addr} {vs : List Value} {ms X : List Ck} (hS : St w0 w' (ms ++ anyL A4 A5 A6 Ar Ae vs X)) : St w0 w' (anyM A4 A5 A6 Ar Ae vs ms X) :=
 hS.perm ((List.perm_middle (l₁ := ms)).trans (List.Perm.cons _ ((List.perm_middle (l₁ := ms)).trans (List.Perm.cons _ (List.perm_middle (l₁ := ms))))))
theorem any_drop {w0 w' : World} {A4 A5 A6 Ar Ae : Option Addr} {vs : List Value} {ms X : List Ck} (hS : St w0 w' (anyM A4 A5 A6 Ar Ae vs ms X)) : St w0 w' (anyL A4 A5 A6 Ar Ae vs X) :=
 hS.sub (List.Sublist.cons_cons _ (List.Sublist.cons_cons _ (List.Sublist.cons_cons _ (List.sublist_append_right _ _))))
theorem srcNextA_c {w0 w : World} {A4 A5 A6 Ar Ae : Option Addr} {vs : List Value} {ms ks : List Ck} (ix : Nat) {As : Option Addr} {k : Ck} (n : Int) (hS : St w0 w (anyM A4 A5 A6 Ar Ae vs ms ks)) (hk : ks[ix]? = some k) (hK : srcK w0 As k) :
  Ret Tryz.prog 57 [.pointer As, .int .i64 n] w (fun v w' => ∃ (r : Int) (k' : Ck), v = .int .i64 r ∧ (0 ≤ r ∧ (1 ≤ n → r < n) ∧ (n < 1 → r = 0)) ∧ srcK w0 As k' ∧ St w0 w' (anyM A4 A5 A6 Ar Ae vs ms (ks.set ix k'))) := by
 have e : ∀ X, anyM A4 A5 A6 Ar Ae vs ms X = anyM A4 A5 A6 Ar Ae vs ms [] ++ X := fun X => by simp [anyM]
 rw [e] at hS
 refine (srcNextX_c _ ix n hS hk hK).mono ?_
 rintro v w' ⟨r, k', h1, h2, h3, h4⟩
 rw [← e] at h4
 exact ⟨r, k', h1, h2, h3, h4⟩
theorem GM.edge : GM 2 [[1, 0]] := fun p hp => by
 rw [List.mem_singleton] at hp
 subst hp
 exact ⟨rfl, fun x hx => by
  rcases List.mem_cons.1 hx with rfl | hx
  ·decide
  ·rw [List.mem_singleton] at hx; subst hx; decide⟩

/-- how far the open statement is -/
structure An4 (w0 : World) (ks : List Ck) (ix : Nat) (As A4 A5 A6 Ar Ae : Option Addr) (most p : Nat) (D : Int) (S : Nat → Bool) (e : Env) (w : World) : Prop where
  f0 : e 0 = .pointer As
  f1 : e 1 = .int .i64 (most : Int)
  f4 : e 4 = .pointer A4
  f5 : e 5 = .pointer A5
  f6 : e 6 = .pointer A6
  f7 : e 7 = .int .i64 (p : Int)
  p0 : S 0 = true → e 52 = .int .i64 (p : Int)
  p2 : S 2 = true → e 54 = .pointer As
  p3 : S 3 = true → e 55 = .int .i64 (most : Int)
  p4 : S 4 = true → e 56 = .int .i64 (p : Int)
  p5 : S 5 = true → e 57 = .int .i64 (4 * (p : Int))
  p6 : S 6 = true → e 58 = .int .i64 D
  p7 : S 7 = true → ∃ r : Int, e 59 = .int .i64 r ∧ 0 ≤ r ∧ r ≤ 250
  p8 : S 8 = true → ∃ q : Nat, e 60 = .int .i64 (q : Int) ∧ 1 ≤ q ∧ q ≤ 251
  mem : ∃ (b1 b2 b3 : List Ck) (kk : Ck) (vs : List Value), srcK w0 As kk ∧
    (S 1 = true → ∃ A c rs xss, e 53 = .agg #[.slice A 2 c] ∧ rs.length = 2 ∧ xss.length = 2 ∧ GM (2 * p) xss ∧ b1 = mat 28 2 A 2 c rs xss) ∧
    (S 9 = true → ∃ A c rs xss q, e 61 = .agg #[.slice A 2 c] ∧ (1 ≤ q ∧ q ≤ 251) ∧ rs.length = 2 ∧ xss.length = 2 ∧ GM (2 * q) xss ∧ b2 = mat 28 2 A 2 c rs xss) ∧
    (S 11 = false → vs = [.slice Ar 1 1]) ∧
    (S 10 = true → ∃ A c rs xss N, e 62 = .agg #[.slice A 4 c] ∧ (1 ≤ N ∧ N ≤ 20000) ∧ rs.length = 4 ∧ xss.length = 4 ∧ GM N xss ∧ b3 = mat 28 2 A 4 c rs xss ∧ (S 11 = true → vs = [.slice A 4 c])) ∧
    St w0 w (anyM A4 A5 A6 Ar Ae vs (b3 ++ (b2 ++ b1)) (ks.set ix kk))

theorem any_put {w0 w' : World} {A4 A5 A6 Ar Ae : Option Addr} {vs : List Value} {n m m' X : List Ck} (hS : St w0 w' (n ++ anyM A4 A5 A6 Ar Ae vs m X)) (hm : (n ++ m).Perm m') : St w0 w' (anyM A4 A5 A6 Ar Ae vs m' X) :=
 hS.perm ((List.perm_middle (l₁ := n)).trans (List.Perm.cons _ ((List.perm_middle (l₁ := n)).trans (List.Perm.cons _ ((List.perm_middle (l₁ := n)).trans (List.Perm.cons _ (by rw [← List.append_assoc]; exact hm.append_right _)))))))
theorem any_less {w0 w' : World} {A4 A5 A6 Ar Ae : Option Addr} {vs : List Value} {m m' X : List Ck} (hS : St w0 w' (anyM A4 A5 A6 Ar Ae vs m X)) (hm : m'.Sublist m) : St w0 w' (anyM A4 A5 A6 Ar Ae vs m' X) :=
 hS.sub (List.Sublist.cons_cons _ (List.Sublist.cons_cons _ (List.Sublist.cons_cons _ (hm.append (List.Sublist.refl _)))))

theorem l02Any_c {w0 w : World} {ks : List Ck} (ix : Nat) {As : Option Addr} {k : Ck} (most : Nat) (hS : St w0 w ks) (hk : ks[ix]? = some k) (hK : srcK w0 As k) (hm : 8 ≤ most ∧ most ≤ 1000) :
  Ret Tryz.prog 110 [.pointer As, .int .i64 (most : Int)] w (AnsD w0 ks ix As) := by
 refine Ret.of_cd Tryz.func110 rfl Tryz.ntmps110 rfl (postc rfl rfl) (Cd.seq (Cd.region (Ops.new1 hS rfl ?_)))
 intro A4 w1 hS1
 refine Ops.n (tQ (Cd.seq (Cd.region ?_)))
 refine Ops.bsL [1, 0] hS1 rfl rfl (by decide) (by decide) rfl rfl ?_
 intro Ae w2 hS2
 skip
 refine Ops.bs1R hS2 rfl rfl rfl ?_
 intro Ar w3 hS3
 skip
 refine Ops.bld1 (by exact inferInstance) rfl rfl rfl rfl ?_
 skip
 refine Ops.new1 hS3 rfl ?_
 intro A5 w4 hS4
 skip
 refine Ops.st_agg 1 0 hS4 rfl rfl rfl rfl rfl rfl rfl ?_
 intro w5 hS5
 refine Ops.n (tQ (Cd.seq (Cd.region (Ops.ld_agg 0 (hS5.rd 0 rfl) rfl rfl rfl ?_))))
 skip
 refine Ops.new1 hS5 rfl ?_
 intro A6 w6 hS6
 skip
 refine Ops.st_agg 1 0 hS6 rfl rfl rfl rfl rfl rfl rfl ?_
 intro w7 hS7
 have hS7 : St w0 w7 (anyL A4 A5 A6 Ar Ae [.slice Ar 1 1] ks) := hS7.perm (List.Perm.cons _ (List.Perm.cons _ ((List.perm_append_comm (l₁ := [_, _]) (l₂ := [_])).append_right ks)))
 refine Ops.n (tQ ?_)
 refine Cd.join (α := AnS) (fun s => [(0, .pointer As), (1, .int .i64 (most : Int)), (4, .pointer A4), (5, .pointer A5), (6, .pointer A6)]) (fun s w' => (1 ≤ s.n ∧ s.n ≤ 5) ∧ (1 ≤ s.N ∧ s.N ≤ 20000) ∧ s.rs.length = s.n ∧ s.xss.length = s.n ∧ GM s.N s.xss ∧ srcK w0 As s.k ∧ St w0 w' (anyM A4 A5 A6 Ar Ae [.slice s.A s.n s.c] (mat 28 2 s.A s.n s.c s.rs s.xss) (ks.set ix s.k))) ?_ ?_
 ·refine Cd.seq (Cd.region (Ops.mv_ptr rfl rfl rfl (Ops.call (srcNext_c (ix + 5) 7 hS7 (by exact hk) hK) rfl rfl rfl ?_)))
  rintro _ w8 ⟨r, k1, rfl, hr, hK1, hS8⟩
  have hS8 : St w0 w8 (anyL A4 A5 A6 Ar Ae [.slice Ar 1 1] (ks.set ix k1)) := hS8
  have hk1 := setK_get (k' := k1) hk
  refine Ops.n (tQ (Cd.block (Cd.seq (Cd.region (Ops.eql rfl rfl rfl (Ops.mb rfl rfl rfl (Ops.n (tQ ?_))))))))
  refine Cd.cond_p _ rfl (fun h1 => ?_) (fun h1 => ?_)
  ·refine Cd.region (Ops.mv_ptr rfl rfl rfl (Ops.mi rfl rfl rfl (Ops.quo rfl rfl rfl (by omega) ?_)))
   skip
   refine Ops.call (srcNext_c (ix + 5) _ hS8 (by exact hk1) hK1) rfl rfl rfl ?_
   rintro _ w9 ⟨q, k2, rfl, hq, hK2, hS9⟩
   have hS9 : St w0 w9 (anyL A4 A5 A6 Ar Ae [.slice Ar 1 1] ((ks.set ix k1).set ix k2)) := hS9
   rw [List.set_set] at hS9
   have hk2 := setK_get (k' := k2) hk
   refine Ops.add rfl rfl rfl (by omega) ?_
   obtain ⟨p, hp⟩ : ∃ p : Nat, 1 + q = p := ⟨(1 + q).toNat, by omega⟩
   rw [hp]
   refine Ops.call (l02Polygon_c p _ (by omega)) rfl rfl rfl ?_
   rintro _ w10 ⟨A, c, rs, xss, rfl, hrl, hxl, hG, hT⟩
   have hS10 := any_join hS9 hT
   skip
   refine Ops.st_agg 1 0 hS10 rfl rfl rfl rfl rfl rfl rfl ?_
   intro w11 hS11
   refine Ops.n (blockQ_n (tQ ?_))
   exact ⟨⟨2, 2 * p, A, c, rs, xss, k2⟩, ⟨rfl, rfl, rfl, rfl, rfl, trivial⟩, (by show 1 ≤ 2 ∧ 2 ≤ 5; decide), ⟨by show 1 ≤ 2 * p; omega, by show 2 * p ≤ 20000; omega⟩, hrl, hxl, hG, hK2, hS11⟩
  ·refine Cd.seq (Cd.region (Ops.eql rfl rfl rfl (Ops.mb rfl rfl rfl (Ops.n (tQ ?_)))))
   refine Cd.cond_p _ rfl (fun h2 => ?_) (fun h2 => ?_)
   ·refine Cd.seq (Cd.region (Ops.ld_agg 0 (hS8.rd 1 rfl) rfl rfl rfl ?_))
    skip
    refine Ops.st_agg 1 2 hS8 rfl rfl rfl rfl rfl rfl rfl ?_
    intro w9 hS9
    refine Ops.n (tQ (Cd.ret (blockQ_r (thenQ_r ?_))))
    skip
    refine retc_r rfl (hS9.rd 2 rfl) ?_
    exact ⟨1, 2, Ar, 1, [⟨Ae, 2, 2⟩], [[1, 0]], k1, rfl, by decide, by decide, rfl, rfl, GM.edge, hK1, hS9.tail.tail.tail⟩
   ·refine Cd.seq (Cd.region (Ops.eql rfl rfl rfl (Ops.mb rfl rfl rfl (Ops.n (tQ ?_)))))
    refine Cd.cond_p _ rfl (fun h3 => ?_) (fun h3 => ?_)
    ·refine Cd.seq (Cd.region (Ops.mv_ptr rfl rfl rfl (Ops.mi rfl rfl rfl (Ops.quo rfl rfl rfl (by omega) ?_))))
     skip
     refine Ops.call (srcNext_c (ix + 5) _ hS8 (by exact hk1) hK1) rfl rfl rfl ?_
     rintro _ w9 ⟨q, k2, rfl, hq, hK2, hS9⟩
     have hS9 : St w0 w9 (anyL A4 A5 A6 Ar Ae [.slice Ar 1 1] ((ks.set ix k1).set ix k2)) := hS9
     rw [List.set_set] at hS9
     refine Ops.add rfl rfl rfl (by omega) ?_
     obtain ⟨p, hp⟩ : ∃ p : Nat, 1 + q = p := ⟨(1 + q).toNat, by omega⟩
     rw [hp]
     refine Ops.call (l02Polygon_c p _ (by omega)) rfl rfl rfl ?_
     rintro _ w10 ⟨A, c, rs, xss, rfl, hrl, hxl, hG, hT⟩
     have hS10 := any_join hS9 hT
     skip
     refine Ops.st_agg 1 0 hS10 rfl rfl rfl rfl rfl rfl rfl ?_
     intro w11 hS11
     have hS11 : St w0 w11 (anyM A4 A5 A6 Ar Ae [.slice A 2 c] (mat 28 2 A 2 c rs xss) (ks.set ix k2)) := hS11
     refine Ops.n (tQ (Cd.region (Ops.ld_agg 0 (hS11.rd 0 rfl) rfl rfl rfl ?_)))
     skip
     refine Ops.ld_agg 0 (hS11.rd 1 rfl) rfl rfl rfl ?_
     skip
     refine Ops.call (l02Beside_c A 2 c rs xss (2 * p) Ar 1 1 [⟨Ae, 2, 2⟩] [[1, 0]] 2 w11 (St.rowsI hS11.tail.tail.tail (by omega)) (St.rowsI (any_drop hS11).tail.tail.tail rfl) (by decide) (by decide) hG GM.edge (by omega) (by omega) (by omega)) rfl rfl rfl ?_
     rintro _ w12 ⟨A', c', rs', xss', rfl, hrl', hxl', hG', hT'⟩
     have hS12 := any_join (any_drop hS11) hT'
     skip
     refine Ops.st_agg 1 0 hS12 rfl rfl rfl rfl rfl rfl rfl ?_
     intro w13 hS13
     refine Ops.n (blockQ_n (tQ ?_))
     exact ⟨⟨3, 2 * p * 2, A', c', rs', xss', k2⟩, ⟨rfl, rfl, rfl, rfl, rfl, trivial⟩, (by show 1 ≤ 3 ∧ 3 ≤ 5; decide), ⟨by show 1 ≤ 2 * p * 2; omega, by show 2 * p * 2 ≤ 20000; omega⟩, hrl', hxl', hG', hK2, hS13⟩
    ·refine Cd.seq (Cd.region (Ops.eql rfl rfl rfl (Ops.mb rfl rfl rfl (Ops.n (tQ ?_)))))
     refine Cd.cond_p _ rfl (fun h4 => ?_) (fun h4 => ?_)
     ·refine Cd.seq (Cd.region (Ops.mv_ptr rfl rfl rfl (Ops.call (srcNext_c (ix + 5) 4 hS8 (by exact hk1) hK1) rfl rfl rfl ?_)))
      rintro _ w9 ⟨q, k2, rfl, hq, hK2, hS9⟩
      have hS9 : St w0 w9 (anyL A4 A5 A6 Ar Ae [.slice Ar 1 1] ((ks.set ix k1).set ix k2)) := hS9
      rw [List.set_set] at hS9
      refine Ops.add rfl rfl rfl (by omega) (Ops.mi rfl rfl rfl (Ops.n (tQ ?_)))
      refine Cd.join (α := Nat) (fun p => [(0, .pointer As), (1, .int .i64 (most : Int)), (4, .pointer A4), (5, .pointer A5), (6, .pointer A6), (7, .int .i64 (p : Int))]) (fun p w' => w' = w9 ∧ 1 ≤ p ∧ p ≤ 4) ?_ ?_
      ·refine Cd.seq (Cd.region (Ops.mi rfl rfl rfl (Ops.mul rfl rfl rfl (by omega) (Ops.mi rfl rfl rfl (Ops.gtr rfl rfl rfl (Ops.n (tQ ?_)))))))
       refine Cd.cond_p _ rfl (fun h5 => ?_) (fun h5 => ?_)
       ·refine Cd.region (Ops.mi rfl rfl rfl (Ops.n (tQ ?_)))
        exact ⟨2, ⟨rfl, rfl, rfl, rfl, rfl, rfl, trivial⟩, rfl, by decide⟩
       ·refine Cd.skip (tQ ?_)
        exact ⟨(1 + q).toNat, ⟨rfl, rfl, rfl, rfl, rfl, congrArg (Value.int .i64) (by omega), trivial⟩, rfl, by omega⟩
      rintro p e w10 ⟨rfl, hp⟩
      obtain ⟨D, hD⟩ : ∃ D : Int, (most : Int) / (4 * (p : Int)) = D := ⟨_, rfl⟩
      have hDb : 0 ≤ D ∧ D ≤ 250 := by
       rcases (by omega : p = 1 ∨ p = 2 ∨ p = 3 ∨ p = 4) with rfl | rfl | rfl | rfl <;> omega
      skip
      refine Cd.drawS (by kernel_rfl) (by kernel_rfl) (fun S e1 w1 => An4 w0 ks ix As A4 A5 A6 Ar Ae most p D S e1 w1) (fun w4 hb => ⟨rfl, rfl, rfl, rfl, rfl, rfl, fun h => (nomatch h), fun h => (nomatch h), fun h => (nomatch h), fun h => (nomatch h), fun h => (nomatch h), fun h => (nomatch h), fun h => (nomatch h), fun h => (nomatch h), [], [], [], k2, [.slice Ar 1 1], hK2, fun h => (nomatch h), fun h => (nomatch h), fun _ => rfl, fun h => (nomatch h), hS9.later hb⟩) ?_ ?_
      ·intro S i o e1 w4 hq hSk hd hcl hI
       obtain ⟨f0, f1, f4, f5, f6, f7, p0, p2, p3, p4, p5, p6, p7, p8, B1, B2, B3, kk, vs, hkk, m1, m9, m11, m10, hT⟩ := hI
       match i, hq, hSk with
       | 0, hq, hSk =>
        obtain rfl := Option.some.inj hq
        refine Ops.mi rfl (by exact f7) rfl (Ops.n ?_)
        exact ⟨f0, f1, f4, f5, f6, f7, fun _ => rfl, p2, p3, p4, p5, p6, p7, p8, B1, B2, B3, kk, vs, hkk, m1, m9, m11, m10, hT⟩
       | 1, hq, hSk =>
        obtain rfl := Option.some.inj hq
        refine Ops.call (l02Polygon_c p w4 (by omega)) rfl (by exact congrArg (fun v => [v]) (p0 (deps_of hd 0 rfl))) rfl ?_
        rintro _ w5 ⟨A, c, rs, xss, rfl, hrl, hxl, hG, hT'⟩
        have hT5 := any_put (m' := B3 ++ (B2 ++ mat 28 2 A 2 c rs xss)) ((any_less hT (m' := B3 ++ (B2 ++ [])) ((List.Sublist.refl _).append ((List.Sublist.refl _).append (List.nil_sublist _)))).call hT') (by rw [List.append_nil, ← List.append_assoc B3 B2]; exact List.perm_append_comm)
        refine Ops.n ?_
        exact ⟨f0, f1, f4, f5, f6, f7, p0, p2, p3, p4, p5, p6, p7, p8, mat 28 2 A 2 c rs xss, B2, B3, kk, vs, hkk, fun _ => ⟨A, c, rs, xss, rfl, hrl, hxl, hG, rfl⟩, m9, m11, m10, hT5⟩
       | 2, hq, hSk =>
        obtain rfl := Option.some.inj hq
        refine Ops.mv_ptr rfl (by exact f0) rfl (Ops.n ?_)
        exact ⟨f0, f1, f4, f5, f6, f7, p0, fun _ => rfl, p3, p4, p5, p6, p7, p8, B1, B2, B3, kk, vs, hkk, m1, m9, m11, m10, hT⟩
       | 3, hq, hSk =>
        obtain rfl := Option.some.inj hq
        refine Ops.mi rfl (by exact f1) rfl (Ops.n ?_)
        exact ⟨f0, f1, f4, f5, f6, f7, p0, p2, fun _ => rfl, p4, p5, p6, p7, p8, B1, B2, B3, kk, vs, hkk, m1, m9, m11, m10, hT⟩
       | 4, hq, hSk =>
        obtain rfl := Option.some.inj hq
        refine Ops.mi rfl (by exact f7) rfl (Ops.n ?_)
        exact ⟨f0, f1, f4, f5, f6, f7, p0, p2, p3, fun _ => rfl, p5, p6, p7, p8, B1, B2, B3, kk, vs, hkk, m1, m9, m11, m10, hT⟩
       | 5, hq, hSk =>
        obtain rfl := Option.some.inj hq
        refine Ops.mul rfl (by exact p4 (deps_of hd 4 rfl)) rfl (by omega) (Ops.n ?_)
        exact ⟨f0, f1, f4, f5, f6, f7, p0, p2, p3, p4, fun _ => rfl, p6, p7, p8, B1, B2, B3, kk, vs, hkk, m1, m9, m11, m10, hT⟩
       | 6, hq, hSk =>
        obtain rfl := Option.some.inj hq
        refine Ops.quo (by exact p3 (deps_of hd 3 rfl)) (by exact p5 (deps_of hd 5 rfl)) rfl (by omega) (Ops.n ?_)
        exact ⟨f0, f1, f4, f5, f6, f7, p0, p2, p3, p4, p5, fun _ => congrArg (Value.int .i64) hD, p7, p8, B1, B2, B3, kk, vs, hkk, m1, m9, m11, m10, hT⟩
       | 7, hq, hSk =>
        obtain rfl := Option.some.inj hq
        have hkg := setK_get (k' := kk) hk
        refine Ops.call (srcNextA_c ix D hT hkg hkk) rfl (by exact two_eq (p2 (deps_of hd 2 rfl)) (p6 (deps_of hd 6 rfl))) rfl ?_
        rintro _ w5 ⟨r7, k7, rfl, hr7, hK7, hT7⟩
        rw [List.set_set] at hT7
        refine Ops.n ?_
        exact ⟨f0, f1, f4, f5, f6, f7, p0, p2, p3, p4, p5, p6, fun _ => ⟨r7, rfl, hr7.1, by omega⟩, p8, B1, B2, B3, k7, vs, hK7, m1, m9, m11, m10, hT7⟩
       | 8, hq, hSk =>
        obtain rfl := Option.some.inj hq
        obtain ⟨r7, h7, hr7⟩ := p7 (deps_of hd 7 rfl)
        refine Ops.add rfl (by exact h7) rfl (by omega) (Ops.n ?_)
        exact ⟨f0, f1, f4, f5, f6, f7, p0, p2, p3, p4, p5, p6, p7, fun _ => ⟨(1 + r7).toNat, congrArg (Value.int .i64) (by omega), by omega, by omega⟩, B1, B2, B3, kk, vs, hkk, m1, m9, m11, m10, hT⟩
       | 9, hq, hSk =>
        obtain rfl := Option.some.inj hq
        obtain ⟨q8, h8, hq8⟩ := p8 (deps_of hd 8 rfl)
        refine Ops.call (l02Polygon_c q8 w4 (by omega)) rfl (by exact congrArg (fun v => [v]) h8) rfl ?_
        rintro _ w5 ⟨A, c, rs, xss, rfl, hrl, hxl, hG, hT'⟩
        have hT5 := any_put (m' := B3 ++ (mat 28 2 A 2 c rs xss ++ B1)) ((any_less hT (m' := B3 ++ ([] ++ B1)) ((List.Sublist.refl _).append ((List.nil_sublist _).append (List.Sublist.refl _)))).call hT') (by rw [List.nil_append, ← List.append_assoc, ← List.append_assoc]; exact List.perm_append_comm.append_right _)
        refine Ops.n ?_
        exact ⟨f0, f1, f4, f5, f6, f7, p0, p2, p3, p4, p5, p6, p7, p8, B1, mat 28 2 A 2 c rs xss, B3, kk, vs, hkk, m1, fun _ => ⟨A, c, rs, xss, q8, rfl, hq8, hrl, hxl, hG, rfl⟩, m11, m10, hT5⟩
       | 10, hq, hSk =>
        obtain rfl := Option.some.inj hq
        obtain ⟨A1, c1, rs1, xss1, h53, hrl1, hxl1, hG1, rfl⟩ := m1 (deps_of hd 1 rfl)
        obtain ⟨A2, c2, rs2, xss2, q8, h61, hq8, hrl2, hxl2, hG2, rfl⟩ := m9 (deps_of hd 9 rfl)
        have n11 : S 11 = false := by
         cases h : S 11 with
         | false => rfl
         | true => rw [← hSk]; exact (deps_of (hcl 11 _ h rfl) 10 rfl).symm
        have hX1 : RowsI w4 A1 2 rs1 xss1 := St.rowsI ((any_less hT (m' := [] ++ ([] ++ mat 28 2 A1 2 c1 rs1 xss1)) ((List.nil_sublist _).append ((List.nil_sublist _).append (List.Sublist.refl _)))).tail.tail.tail) (by omega)
        have hX2 : RowsI w4 A2 2 rs2 xss2 := St.rowsI ((any_less hT (m' := mat 28 2 A2 2 c2 rs2 xss2) ((List.sublist_append_left _ _).trans (List.sublist_append_right _ _))).tail.tail.tail) (by omega)
        have hN : 2 * p * (2 * q8) ≤ 8 * 502 := Nat.mul_le_mul (by omega) (by omega)
        have hN1 : 1 ≤ 2 * p * (2 * q8) := Nat.mul_pos (by omega) (by omega)
        refine Ops.call (l02Beside_c A1 2 c1 rs1 xss1 (2 * p) A2 2 c2 rs2 xss2 (2 * q8) w4 hX1 hX2 (by decide) (by decide) hG1 hG2 (by omega) (by omega) (by omega)) rfl (by exact two_eq h53 h61) rfl ?_
        rintro _ w5 ⟨A, c, rs, xss, rfl, hrl, hxl, hG, hT'⟩
        have hT5 := any_put (m' := mat 28 2 A (2 + 2) c rs xss ++ (mat 28 2 A2 2 c2 rs2 xss2 ++ mat 28 2 A1 2 c1 rs1 xss1)) ((any_less hT (List.sublist_append_right _ _)).call hT') (List.Perm.refl _)
        refine Ops.n ?_
        exact ⟨f0, f1, f4, f5, f6, f7, p0, p2, p3, p4, p5, p6, p7, p8, mat 28 2 A1 2 c1 rs1 xss1, mat 28 2 A2 2 c2 rs2 xss2, mat 28 2 A (2 + 2) c rs xss, kk, vs, hkk, fun _ => ⟨A1, c1, rs1, xss1, h53, hrl1, hxl1, hG1, rfl⟩, fun _ => ⟨A2, c2, rs2, xss2, q8, h61, hq8, hrl2, hxl2, hG2, rfl⟩, m11, fun _ => ⟨A, c, rs, xss, 2 * p * (2 * q8), rfl, ⟨hN1, by omega⟩, hrl, hxl, hG, rfl, fun h => (nomatch n11.symm.trans h)⟩, hT5⟩
       | 11, hq, hSk =>
        obtain rfl := Option.some.inj hq
        obtain ⟨A, c, rs, xss, N, h62, hN, hrl, hxl, hG, rfl, _⟩ := m10 (deps_of hd 10 rfl)
        obtain rfl := m11 hSk
        refine Ops.st_agg 1 0 hT rfl (by exact f6) (by exact h62) rfl rfl rfl rfl ?_
        intro w5 hT5
        refine Ops.n ?_
        exact ⟨f0, f1, f4, f5, f6, f7, p0, p2, p3, p4, p5, p6, p7, p8, B1, B2, _, kk, [.slice A 4 c], hkk, m1, m9, fun h => (nomatch (show true = false from h)), fun _ => ⟨A, c, rs, xss, N, h62, hN, hrl, hxl, hG, rfl, fun _ => rfl⟩, hT5⟩
       | i + 12, hq, _ => exact (nomatch hq)
      ·intro S e1 w4 hall hI
       obtain ⟨f0, f1, f4, f5, f6, f7, p0, p2, p3, p4, p5, p6, p7, p8, B1, B2, B3, kk, vs, hkk, m1, m9, m11, m10, hT⟩ := hI
       obtain ⟨A, c, rs, xss, N, h62, hN, hrl, hxl, hG, rfl, hvs⟩ := m10 (hall 10 (by decide))
       obtain rfl := hvs (hall 11 (by decide))
       refine postQ_ext (F := [(0, .pointer As), (1, .int .i64 (most : Int)), (4, .pointer A4), (5, .pointer A5), (6, .pointer A6)]) ⟨f0, f1, f4, f5, f6, trivial⟩ (blockQ_n (tQ ?_))
       exact ⟨⟨4, N, A, c, rs, xss, kk⟩, ⟨rfl, rfl, rfl, rfl, rfl, trivial⟩, (by show 1 ≤ 4 ∧ 4 ≤ 5; decide), hN, hrl, hxl, hG, hkk, any_less hT (List.sublist_append_left _ _)⟩
     ·refine Cd.region (Ops.mv_ptr rfl rfl rfl (Ops.mv_ptr rfl rfl rfl (Ops.mi rfl rfl rfl (Ops.quo rfl rfl rfl (by omega) ?_))))
      skip
      refine Ops.call (srcNext_c (ix + 5) _ hS8 (by exact hk1) hK1) rfl rfl rfl ?_
      rintro _ w9 ⟨q, k2, rfl, hq, hK2, hS9⟩
      have hS9 : St w0 w9 (anyL A4 A5 A6 Ar Ae [.slice Ar 1 1] ((ks.set ix k1).set ix k2)) := hS9
      rw [List.set_set] at hS9
      have hk2 := setK_get (k' := k2) hk
      refine Ops.add rfl rfl rfl (by omega) ?_
      obtain ⟨p, hp⟩ : ∃ p : Nat, 1 + q = p := ⟨(1 + q).toNat, by omega⟩
      rw [hp]
      refine Ops.call (l02Map_c (ix + 5) p hS9 (by exact hk2) hK2 (by omega)) rfl rfl rfl ?_
      rintro _ w10 ⟨A, c, rs, xss, N, k3, rfl, hrl, hxl, hG, hN, hK3, hT⟩
      have hT : St w0 w10 (mat 28 2 A 3 c rs xss ++ anyL A4 A5 A6 Ar Ae [.slice Ar 1 1] ((ks.set ix k2).set ix k3)) := hT
      rw [List.set_set] at hT
      have hS10 := any_perm hT
      skip
      refine Ops.st_agg 1 0 hS10 rfl rfl rfl rfl rfl rfl rfl ?_
      intro w11 hS11
      refine Ops.n (blockQ_n (tQ ?_))
      exact ⟨⟨3, N, A, c, rs, xss, k3⟩, ⟨rfl, rfl, rfl, rfl, rfl, trivial⟩, (by show 1 ≤ 3 ∧ 3 ≤ 5; decide), ⟨hN.1, by show N ≤ 20000; omega⟩, hrl, hxl, hG, hK3, hS11⟩
 ·intro s e w9 hI
  refine Cd.seq (Cd.block ?_)
  refine Cd.loop (α := AnS) (fun s => [(0, .pointer As), (1, .int .i64 (most : Int)), (4, .pointer A4), (5, .pointer A5), (6, .pointer A6)]) (fun s w' => (1 ≤ s.n ∧ s.n ≤ 5) ∧ (1 ≤ s.N ∧ s.N ≤ 20000) ∧ s.rs.length = s.n ∧ s.xss.length = s.n ∧ GM s.N s.xss ∧ srcK w0 As s.k ∧ St w0 w' (anyM A4 A5 A6 Ar Ae [.slice s.A s.n s.c] (mat 28 2 s.A s.n s.c s.rs s.xss) (ks.set ix s.k))) (fun s => 5 - s.n) s ⟨rfl, rfl, rfl, rfl, rfl, trivial⟩ hI ?_
  clear hI s
  rintro ⟨n, N, A, c, rs, xss, k2⟩ e w10 ⟨hn, hN, hrl, hxl, hG, hK2, hS10⟩
  dsimp only at hn hN hrl hxl hG hK2 hS10 ⊢
  have hk2 := setK_get (k' := k2) hk
  refine Cd.seq (Cd.seq (Cd.region (Ops.fld (hS10.rd 0 rfl) rfl rfl rfl rfl inferInstance (Ops.ldf_s (hS10.rd 0 rfl) rfl rfl rfl rfl rfl (Ops.len rfl rfl (Ops.lss rfl rfl rfl (Ops.mb rfl rfl rfl ?_)))))))
  have hEnd : ∀ (k5 : Ck) (w11 : World), srcK w0 As k5 → St w0 w11 (mat 28 2 A n c rs xss ++ (mat 28 2 Ar 1 1 [⟨Ae, 2, 2⟩] [[1, 0]] ++ ks.set ix k5)) → AnsD w0 ks ix As (.agg #[.slice A n c]) w11 := fun k5 w11 hK5 h => ⟨n, N, A, c, rs, xss, k5, rfl, hn, hN, hrl, hxl, hG, hK5, h.sub ((List.Sublist.refl _).append (List.sublist_append_right _ _))⟩
  refine Ops.split_p 67 rfl (fun h1 => ?_) (fun h1 => ?_)
  ·refine Ops.g rfl rfl rfl (Ops.ld_agg 0 (hS10.rd 0 rfl) rfl rfl rfl (Ops.g rfl rfl rfl (Ops.call (l02Flags_c A n c rs xss w10 (St.rowsI hS10.tail.tail.tail (by omega)) (by omega)) rfl rfl rfl ?_)))
   rintro _ w11 ⟨rfl, hT⟩
   have hS11 := hS10.later hT.below
   rw [hG.first (by omega)]
   refine Ops.g rfl rfl rfl (Ops.mul rfl rfl rfl (by omega) (Ops.g rfl rfl rfl (Ops.mi rfl rfl rfl (Ops.g rfl rfl rfl (Ops.leq rfl rfl rfl (Ops.pick_t rfl rfl rfl (Ops.mb rfl rfl rfl ?_)))))))
   refine Ops.split_p 74 rfl (fun h2 => ?_) (fun h2 => ?_)
   ·refine Ops.g rfl rfl rfl (Ops.mv_ptr rfl rfl rfl (Ops.g rfl rfl rfl (Ops.call (srcNextA_c ix 3 hS11 hk2 hK2) rfl rfl rfl ?_)))
    rintro _ w12 ⟨r, k3, rfl, hr, hK3, hS12⟩
    rw [List.set_set] at hS12
    have hk3 := setK_get (k' := k3) hk
    refine Ops.g rfl rfl rfl (Ops.eql rfl rfl rfl (Ops.pick_t rfl rfl rfl (Ops.n (tQ ?_))))
    refine Cd.cond_p _ rfl (fun h3 => ?_) (fun h3 => ?_)
    ·refine Cd.skip (tQ (Cd.block (Cd.seq (Cd.region (Ops.mv_ptr rfl rfl rfl (Ops.call (srcNextA_c ix 2 hS12 hk3 hK3) rfl rfl rfl ?_))))))
     rintro _ w13 ⟨r', k4, rfl, hr', hK4, hS13⟩
     rw [List.set_set] at hS13
     refine Ops.eql rfl rfl rfl (Ops.n (tQ ?_))
     refine Cd.cond_p _ rfl (fun h4 => ?_) (fun h4 => ?_)
     ·skip
      refine Cd.region (Ops.ld_agg 0 (hS13.rd 0 rfl) rfl rfl rfl ?_)
      skip
      refine Ops.ld_agg 0 (hS13.rd 1 rfl) rfl rfl rfl ?_
      skip
      refine Ops.call (l02Beside_c A n c rs xss N Ar 1 1 [⟨Ae, 2, 2⟩] [[1, 0]] 2 w13 (St.rowsI hS13.tail.tail.tail (by omega)) (St.rowsI (any_drop hS13).tail.tail.tail rfl) (by omega) (by decide) hG GM.edge (by omega) (by omega) (by omega)) rfl rfl rfl ?_
      rintro _ w14 ⟨A', c', rs', xss', rfl, hrl', hxl', hG', hT'⟩
      have hS14 := any_join (any_drop hS13) hT'
      skip
      refine Ops.st_agg 1 0 hS14 rfl rfl rfl rfl rfl rfl rfl ?_
      intro w15 hS15
      refine Ops.n (blockQ_n (tQ ?_))
      exact ⟨⟨n + 1, N * 2, A', c', rs', xss', k4⟩, by show 5 - (n + 1) < 5 - n; omega, ⟨rfl, rfl, rfl, rfl, rfl, trivial⟩, ⟨by show 1 ≤ n + 1; omega, by show n + 1 ≤ 5; omega⟩, ⟨by show 1 ≤ N * 2; omega, by show N * 2 ≤ 20000; omega⟩, hrl', hxl', hG', hK4, hS15⟩
     ·skip
      refine Cd.region (Ops.ld_agg 0 (hS13.rd 1 rfl) rfl rfl rfl ?_)
      skip
      refine Ops.ld_agg 0 (hS13.rd 0 rfl) rfl rfl rfl ?_
      skip
      refine Ops.call (l02Beside_c Ar 1 1 [⟨Ae, 2, 2⟩] [[1, 0]] 2 A n c rs xss N w13 (St.rowsI (any_drop hS13).tail.tail.tail rfl) (St.rowsI hS13.tail.tail.tail (by omega)) (by decide) (by omega) GM.edge hG (by omega) (by omega) (by omega)) rfl rfl rfl ?_
      rintro _ w14 ⟨A', c', rs', xss', rfl, hrl', hxl', hG', hT'⟩
      have hS14 := any_join (any_drop hS13) hT'
      skip
      refine Ops.st_agg 1 0 hS14 rfl rfl rfl rfl rfl rfl rfl ?_
      intro w15 hS15
      refine Ops.n (blockQ_n (tQ ?_))
      exact ⟨⟨1 + n, 2 * N, A', c', rs', xss', k4⟩, by show 5 - (1 + n) < 5 - n; omega, ⟨rfl, rfl, rfl, rfl, rfl, trivial⟩, ⟨by show 1 ≤ 1 + n; omega, by show 1 + n ≤ 5; omega⟩, ⟨by show 1 ≤ 2 * N; omega, by show 2 * N ≤ 20000; omega⟩, hrl', hxl', hG', hK4, hS15⟩
    ·refine Cd.exit (thenQ_x (thenQ_x (blockQ_x (tQ (Cd.seq (Cd.region (Ops.ld_agg 0 (hS12.rd 0 rfl) rfl rfl rfl ?_)))))))
     skip
     refine Ops.st_agg 1 2 hS12 rfl rfl rfl rfl rfl rfl rfl ?_
     intro w20 hS20
     refine Ops.n (tQ (Cd.ret ?_))
     skip
     refine retc_r rfl (hS20.rd 2 rfl) ?_
     exact hEnd k3 w20 ‹_› hS20.tail.tail.tail
   ·refine Ops.k rfl rfl rfl rfl rfl (Ops.k rfl rfl rfl rfl rfl (Ops.k rfl rfl rfl rfl rfl (Ops.pick_f rfl rfl rfl (Ops.n (tQ (Cd.cond_f rfl (Cd.exit (thenQ_x (thenQ_x ?_)))))))))
    refine blockQ_x (tQ (Cd.seq (Cd.region (Ops.ld_agg 0 (hS11.rd 0 rfl) rfl rfl rfl ?_))))
    skip
    refine Ops.st_agg 1 2 hS11 rfl rfl rfl rfl rfl rfl rfl ?_
    intro w20 hS20
    refine Ops.n (tQ (Cd.ret ?_))
    skip
    refine retc_r rfl (hS20.rd 2 rfl) ?_
    exact hEnd k2 w20 ‹_› hS20.tail.tail.tail
  ·refine Ops.k rfl rfl rfl rfl rfl (Ops.k rfl rfl rfl rfl rfl (Ops.k rfl rfl rfl rfl rfl (Ops.k rfl rfl rfl rfl rfl (Ops.k rfl rfl rfl rfl rfl (Ops.pick_f rfl rfl rfl (Ops.mb rfl rfl rfl (Ops.k rfl rfl rfl rfl rfl (Ops.k rfl rfl rfl rfl rfl (Ops.k rfl rfl rfl rfl rfl ?_)))))))))
   refine Ops.pick_f rfl rfl rfl (Ops.n (tQ (Cd.cond_f rfl (Cd.exit (thenQ_x (thenQ_x (blockQ_x (tQ (Cd.seq ?_)))))))))
   refine Cd.region (Ops.ld_agg 0 (hS10.rd 0 rfl) rfl rfl rfl ?_)
   skip
   refine Ops.st_agg 1 2 hS10 rfl rfl rfl rfl rfl rfl rfl ?_
   intro w20 hS20
   refine Ops.n (tQ (Cd.ret ?_))
   skip
   refine retc_r rfl (hS20.rd 2 rfl) ?_
   exact hEnd k2 w20 ‹_› hS20.tail.tail.tail
end Go.Proofs.YtbhnfehcpnnjcaaGreatDoor.Vc
/-
 The draws of maniplexes, walked: a maniplex drawn and perhaps renumbered. Conditions: as each states them.
-/
namespace Go.Proofs.YtbhnfehcpnnjcaaGreatDoor.Vc
open Go.RowKit

theorem scat_rg {N : Nat} {f g : Nat → Int} (hg : ∀ i, i < N → 0 ≤ g i ∧ g i < (N : Int)) : ∀ {m : Nat} {xs : List Int}, m ≤ N → Rg N xs → Rg N (scat xs f g m)
 | 0, _, _, h => h
 | m + 1, xs, hm, h => by
  have h1 := scat_rg (f := f) hg (m := m) (by omega) h
  have h2 := hg m (by omega)
  refine ⟨by simp [scat, h1.1], fun x hx => ?_⟩
  simp only [scat] at hx
  rcases List.mem_or_eq_of_mem_set hx with hx | rfl
  ·exact h1.2 x hx
  ·exact h2
theorem GM.ren {N : Nat} {p : List Int} {xss : List (List Int)} (h : GM N xss) (hp : Rg N p) : GM N (xss.map (renI N p)) := fun q hq => by
 obtain ⟨mv, hmv, rfl⟩ := List.mem_map.1 hq
 have h1 := h mv hmv
 refine scat_rg (fun i hi => ?_) (Nat.le_refl _) ⟨by simp, fun x hx => by obtain ⟨h0, rfl⟩ := List.mem_replicate.1 hx; omega⟩
 have h2 := h1.gi (i := (i : Int)) (by omega) (by omega)
 exact hp.gi h2.1 h2.2

/-- how far the open statement is -/
structure Dw4 (w0 : World) (ks : List Ck) (ix : Nat) (As A4 A5 : Option Addr) (n N : Nat) (A : Option Addr) (c : Nat) (rs : List SlV) (xss : List (List Int)) (S : Nat → Bool) (e : Env) (w : World) : Prop where
  f0 : e 0 = .pointer As
  f4 : e 4 = .pointer A4
  f5 : e 5 = .pointer A5
  p0 : S 0 = true → e 12 = .agg #[.slice A n c]
  p1 : S 1 = true → e 13 = .pointer As
  p2 : S 2 = true → e 14 = .agg #[.slice A n c]
  p3 : S 3 = true → e 15 = .int .i64 (N : Int)
  mem : ∃ (b1 b2 : List Ck) (kk : Ck) (vs : List Value), srcK w0 As kk ∧
    (S 4 = true → ∃ Ap cp ps, e 16 = .slice Ap N cp ∧ Rg N ps ∧ b1 = [CkI 2 Ap N cp ps]) ∧
    (S 6 = false → vs = [.slice none 0 0]) ∧
    (S 5 = true → ∃ A' c' rs' xss', e 17 = .agg #[.slice A' n c'] ∧ rs'.length = n ∧ xss'.length = n ∧ GM N xss' ∧ b2 = mat 28 2 A' n c' rs' xss' ∧ (S 6 = true → vs = [.slice A' n c'])) ∧
    St w0 w (Bx 26 1 A5 [.slice A n c] :: Bx 26 1 A4 vs :: (mat 28 2 A n c rs xss ++ (b2 ++ (b1 ++ ks.set ix kk))))

theorem l01DrawX_c {w0 w : World} {ks : List Ck} (X : List Ck) (ix : Nat) {As : Option Addr} {k : Ck} (n : Nat) (hS : St w0 w (X ++ ks)) (hk : ks[ix]? = some k) (hK : srcK w0 As k) (hn : n ≤ 1000000) :
  Ret Tryz.prog 112 [.pointer As, .int .i64 (n : Int)] w (fun v w' => ∃ A c xs k', v = .slice A n c ∧ Rg n xs ∧ srcK w0 As k' ∧ St w0 w' (CkI 2 A n c xs :: (X ++ ks.set ix k'))) := by
 have e : (X ++ ks)[X.length + ix]? = some k := by
  rw [List.getElem?_append_right (by omega), Nat.add_sub_cancel_left]; exact hk
 refine (l01Draw_c (X.length + ix) n hS e hK hn).mono ?_
 rintro v w' ⟨A, c, xs, k', h1, h2, h3, h4⟩
 rw [show (X ++ ks).set (X.length + ix) k' = X ++ ks.set ix k' from by rw [List.set_append, if_neg (by omega), Nat.add_sub_cancel_left]] at h4
 exact ⟨A, c, xs, k', h1, h2, h3, h4⟩

theorem l02Draw_c {w0 w : World} {ks : List Ck} (ix : Nat) {As : Option Addr} {k : Ck} (most : Nat) (hS : St w0 w ks) (hk : ks[ix]? = some k) (hK : srcK w0 As k) (hm : 8 ≤ most ∧ most ≤ 1000) :
  Ret Tryz.prog 85 [.pointer As, .int .i64 (most : Int)] w (AnsD w0 ks ix As) := by
 refine Ret.of_cd Tryz.func85 rfl Tryz.ntmps85 rfl (postc rfl rfl) (Cd.seq (Cd.region (Ops.new1 hS rfl ?_)))
 intro A4 w1 hS1
 refine Ops.n (tQ (Cd.seq (Cd.region (Ops.mv_ptr rfl rfl rfl (Ops.mi rfl rfl rfl (Ops.call (l02Any_c (ix + 1) most hS1 (by exact hk) hK hm) rfl rfl rfl ?_))))))
 rintro _ w2 ⟨n, N, A, c, rs, xss, k1, rfl, hn, hN, hrl, hxl, hG, hK1, hS2⟩
 skip
 refine Ops.new1 hS2 rfl ?_
 intro A5 w3 hS3
 skip
 refine Ops.st_agg 1 0 hS3 rfl rfl rfl rfl rfl rfl rfl ?_
 intro w4 hS4
 have hS4 : St w0 w4 (Bx 26 1 A5 [.slice A n c] :: (mat 28 2 A n c rs xss ++ (Bx 26 1 A4 [.slice none 0 0] :: ks.set ix k1))) := hS4
 have hS4 : St w0 w4 (Bx 26 1 A5 [.slice A n c] :: Bx 26 1 A4 [.slice none 0 0] :: (mat 28 2 A n c rs xss ++ ks.set ix k1)) := hS4.perm (List.Perm.cons _ List.perm_middle)
 have hk1 := setK_get (k' := k1) hk
 refine Ops.n (tQ (Cd.seq (Cd.seq (Cd.region (Ops.mv_ptr rfl rfl rfl ?_)))))
 have hN4 : ∀ (X : List Ck) (kk : Ck) (w5 : World) (vs : List Value) (q : Int), srcK w0 As kk → St w0 w5 (Bx 26 1 A5 [.slice A n c] :: Bx 26 1 A4 vs :: (mat 28 2 A n c rs xss ++ (X ++ ks.set ix kk))) → Ret Tryz.prog 57 [.pointer As, .int .i64 q] w5 (fun v w' => ∃ (r : Int) (k' : Ck), v = .int .i64 r ∧ (0 ≤ r ∧ (1 ≤ q → r < q) ∧ (q < 1 → r = 0)) ∧ srcK w0 As k' ∧ St w0 w' (Bx 26 1 A5 [.slice A n c] :: Bx 26 1 A4 vs :: (mat 28 2 A n c rs xss ++ (X ++ ks.set ix k')))) := by
  intro X kk w5 vs q hkk hT
  have hkg := setK_get (k' := kk) hk
  have e : ∀ Y, Bx 26 1 A5 [.slice A n c] :: Bx 26 1 A4 vs :: (mat 28 2 A n c rs xss ++ (X ++ Y)) = (Bx 26 1 A5 [.slice A n c] :: Bx 26 1 A4 vs :: (mat 28 2 A n c rs xss ++ X)) ++ Y := fun Y => by simp
  rw [e] at hT
  refine (srcNextX_c _ ix q hT hkg hkk).mono ?_
  rintro v w' ⟨r, k', h1, h2, h3, h4⟩
  rw [← e, List.set_set] at h4
  exact ⟨r, k', h1, h2, h3, h4⟩
 refine Ops.call (hN4 [] k1 w4 _ 4 hK1 hS4) rfl rfl rfl ?_
 rintro _ w5 ⟨r, k2, rfl, hr, hK2, hS5⟩
 have hS5 : St w0 w5 (Bx 26 1 A5 [.slice A n c] :: Bx 26 1 A4 [.slice none 0 0] :: (mat 28 2 A n c rs xss ++ ks.set ix k2)) := hS5
 have hk2 := setK_get (k' := k2) hk
 refine Ops.gtr rfl rfl rfl (Ops.n (tQ ?_))
 refine Cd.cond_p _ rfl (fun h1 => ?_) (fun h1 => ?_)
 ·refine Cd.seq ?_
  refine Cd.drawS (by kernel_rfl) (by kernel_rfl) (fun S e1 w1 => Dw4 w0 ks ix As A4 A5 n N A c rs xss S e1 w1) (fun w6 hb => ⟨rfl, rfl, rfl, fun h => (nomatch h), fun h => (nomatch h), fun h => (nomatch h), fun h => (nomatch h), [], [], k2, [.slice none 0 0], hK2, fun h => (nomatch h), fun _ => rfl, fun h => (nomatch h), hS5.later hb⟩) ?_ ?_
  ·intro S i o e1 w6 hq hSk hd hcl hI
   obtain ⟨f0, f4, f5, p0, p1, p2, p3, B1, B2, kk, vs, hkk, m4, m6, m5, hT⟩ := hI
   have hX : RowsI w6 A n rs xss := St.rowsI hT.tail.tail (by omega)
   match i, hq, hSk with
   | 0, hq, hSk =>
    obtain rfl := Option.some.inj hq
    refine Ops.ld_agg 0 (hT.rd 0 rfl) (by exact f5) rfl rfl (Ops.n ?_)
    exact ⟨f0, f4, f5, fun _ => rfl, p1, p2, p3, B1, B2, kk, vs, hkk, m4, m6, m5, hT⟩
   | 1, hq, hSk =>
    obtain rfl := Option.some.inj hq
    refine Ops.mv_ptr rfl (by exact f0) rfl (Ops.n ?_)
    exact ⟨f0, f4, f5, p0, fun _ => rfl, p2, p3, B1, B2, kk, vs, hkk, m4, m6, m5, hT⟩
   | 2, hq, hSk =>
    obtain rfl := Option.some.inj hq
    refine Ops.ld_agg 0 (hT.rd 0 rfl) (by exact f5) rfl rfl (Ops.n ?_)
    exact ⟨f0, f4, f5, p0, p1, fun _ => rfl, p3, B1, B2, kk, vs, hkk, m4, m6, m5, hT⟩
   | 3, hq, hSk =>
    obtain rfl := Option.some.inj hq
    refine Ops.call (l02Flags_c A n c rs xss w6 hX (by omega)) rfl (by exact congrArg (fun v => [v]) (p2 (deps_of hd 2 rfl))) rfl ?_
    rintro _ w7 ⟨rfl, hT'⟩
    have hT7 := hT.later hT'.below
    rw [hG.first (by omega)]
    refine Ops.n ?_
    exact ⟨f0, f4, f5, p0, p1, p2, fun _ => rfl, B1, B2, kk, vs, hkk, m4, m6, m5, hT7⟩
   | 4, hq, hSk =>
    obtain rfl := Option.some.inj hq
    have hkg := setK_get (k' := kk) hk
    have e : (Bx 26 1 A5 [.slice A n c] :: Bx 26 1 A4 vs :: (mat 28 2 A n c rs xss ++ (B2 ++ (B1 ++ ks.set ix kk)))) = (Bx 26 1 A5 [.slice A n c] :: Bx 26 1 A4 vs :: (mat 28 2 A n c rs xss ++ (B2 ++ B1))) ++ ks.set ix kk := by simp
    have hX0 := hT
    rw [e] at hX0
    refine Ops.call (l01DrawX_c _ ix N hX0 hkg hkk (by omega)) rfl (by exact two_eq (p1 (deps_of hd 1 rfl)) (p3 (deps_of hd 3 rfl))) rfl ?_
    rintro _ w7 ⟨Ap, cp, ps, k7, rfl, hps, hK7, hT7⟩
    rw [List.set_set] at hT7
    have hT8 : St w0 w7 (Bx 26 1 A5 [.slice A n c] :: Bx 26 1 A4 vs :: (mat 28 2 A n c rs xss ++ (B2 ++ ([CkI 2 Ap N cp ps] ++ ks.set ix k7)))) := by
     refine (hT7.sub (ks' := CkI 2 Ap N cp ps :: Bx 26 1 A5 [.slice A n c] :: Bx 26 1 A4 vs :: ((mat 28 2 A n c rs xss ++ B2) ++ ks.set ix k7)) ?_).perm ?_
     ·rw [← List.append_assoc (mat 28 2 A n c rs xss)]
      exact List.Sublist.cons_cons _ (List.Sublist.cons_cons _ (List.Sublist.cons_cons _ ((List.sublist_append_left _ _).append (List.Sublist.refl _))))
     ·rw [← List.append_assoc (mat 28 2 A n c rs xss)]
      exact (List.Perm.swap _ _ _).trans (List.Perm.cons _ ((List.Perm.swap _ _ _).trans (List.Perm.cons _ List.perm_middle.symm)))
    refine Ops.n ?_
    exact ⟨f0, f4, f5, p0, p1, p2, p3, [CkI 2 Ap N cp ps], B2, k7, vs, hK7, fun _ => ⟨Ap, cp, ps, rfl, hps, rfl⟩, m6, m5, hT8⟩
   | 5, hq, hSk =>
    obtain rfl := Option.some.inj hq
    obtain ⟨Ap, cp, ps, h16, hps, rfl⟩ := m4 (deps_of hd 4 rfl)
    have n6 : S 6 = false := by
     cases h : S 6 with
     | false => rfl
     | true => rw [← hSk]; exact (deps_of (hcl 6 _ h rfl) 5 rfl).symm
    have hP : RdI w6 Ap N ps := ((hT.sub ((((List.sublist_append_right _ _).trans (List.sublist_append_right _ _)).cons _).cons _) : St w0 w6 (CkI 2 Ap N cp ps :: ks.set ix kk))).rdI 0 rfl
    refine Ops.call (l02Renumber_c A n c rs xss N Ap cp ps w6 hX (by omega) hG.sys (by omega) hP (fun x h0 h1 => hps.gi h0 h1)) rfl (by exact two_eq (p0 (deps_of hd 0 rfl)) h16) rfl ?_
    rintro _ w7 ⟨A', c', rs', rfl, hrl', hT'⟩
    have hT8 : St w0 w7 (Bx 26 1 A5 [.slice A n c] :: Bx 26 1 A4 vs :: (mat 28 2 A n c rs xss ++ (mat 28 2 A' n c' rs' (xss.map (renI N ps)) ++ ([CkI 2 Ap N cp ps] ++ ks.set ix kk)))) := by
     refine ((hT.sub (ks' := Bx 26 1 A5 [.slice A n c] :: Bx 26 1 A4 vs :: (mat 28 2 A n c rs xss ++ ([CkI 2 Ap N cp ps] ++ ks.set ix kk))) ?_).call hT').perm ?_
     ·exact List.Sublist.cons_cons _ (List.Sublist.cons_cons _ ((List.Sublist.refl _).append (List.sublist_append_right _ _)))
     ·refine (List.perm_middle (l₁ := mat 28 2 A' n c' rs' (xss.map (renI N ps)))).trans (List.Perm.cons _ ((List.perm_middle (l₁ := mat 28 2 A' n c' rs' (xss.map (renI N ps)))).trans (List.Perm.cons _ ?_)))
      rw [← List.append_assoc (mat 28 2 A' n c' rs' (xss.map (renI N ps))) (mat 28 2 A n c rs xss), ← List.append_assoc (mat 28 2 A n c rs xss) (mat 28 2 A' n c' rs' (xss.map (renI N ps)))]
      exact List.perm_append_comm.append_right _
    refine Ops.n ?_
    exact ⟨f0, f4, f5, p0, p1, p2, p3, [CkI 2 Ap N cp ps], mat 28 2 A' n c' rs' (xss.map (renI N ps)), kk, vs, hkk, fun _ => ⟨Ap, cp, ps, h16, hps, rfl⟩, m6, fun _ => ⟨A', c', rs', _, rfl, hrl', by simp [hxl], hG.ren hps, rfl, fun h => (nomatch n6.symm.trans h)⟩, hT8⟩
   | 6, hq, hSk =>
    obtain rfl := Option.some.inj hq
    obtain ⟨A', c', rs', xss', h17, hrl', hxl', hG', rfl, _⟩ := m5 (deps_of hd 5 rfl)
    obtain rfl := m6 hSk
    refine Ops.st_agg 1 1 hT rfl (by exact f4) (by exact h17) rfl rfl rfl rfl ?_
    intro w7 hT7
    refine Ops.n ?_
    exact ⟨f0, f4, f5, p0, p1, p2, p3, B1, _, kk, [.slice A' n c'], hkk, m4, fun h => (nomatch (show true = false from h)), fun _ => ⟨A', c', rs', xss', h17, hrl', hxl', hG', rfl, fun _ => rfl⟩, hT7⟩
   | i + 7, hq, _ => exact (nomatch hq)
  ·intro S e1 w6 hall hI
   obtain ⟨f0, f4, f5, p0, p1, p2, p3, B1, B2, kk, vs, hkk, m4, m6, m5, hT⟩ := hI
   obtain ⟨A', c', rs', xss', h17, hrl', hxl', hG', rfl, hvs⟩ := m5 (hall 5 (by decide))
   obtain rfl := hvs (hall 6 (by decide))
   refine postQ_ext (F := [(4, .pointer A4)]) ⟨f4, trivial⟩ (tQ (Cd.ret (thenQ_r ?_)))
   skip
   refine retc_r rfl (hT.rd 1 rfl) ?_
   exact ⟨n, N, A', c', rs', xss', kk, rfl, hn, hN, hrl', hxl', hG', hkk, hT.tail.tail.sub (((List.Sublist.refl _).append (List.sublist_append_right _ _)).trans (List.sublist_append_right _ _))⟩
 ·refine Cd.skip (tQ (Cd.seq (Cd.region (Ops.ld_agg 0 (hS5.rd 0 rfl) rfl rfl rfl ?_))))
  skip
  refine Ops.st_agg 1 1 hS5 rfl rfl rfl rfl rfl rfl rfl ?_
  intro w6 hS6
  refine Ops.n (tQ (Cd.ret ?_))
  skip
  refine retc_r rfl (hS6.rd 1 rfl) ?_
  exact ⟨n, N, A, c, rs, xss, k2, rfl, hn, hN, hrl, hxl, hG, hK2, hS6.tail.tail⟩
end Go.Proofs.YtbhnfehcpnnjcaaGreatDoor.Vc
/-
 The reference's list of a rank and a number of flags, with the numbers of orbits. Conditions: the rank and the number are within their bounds.
-/
namespace Go.Proofs.YtbhnfehcpnnjcaaGreatDoor.Vc
open Go.RowKit

section
variable {P : Program} {N : Nat} {ops : Array Oper} {K : Env → World → Prop} {rest : List Oper} {e : Env} {w0 w w' : World} {ks : List Ck} {d : Nat} {ty : TypeId} {pos : String} {af : Array Edge}
end
theorem RdR.drop {w : World} {A : Option Addr} {n c l : Nat} {xs : List SlV} (h : RdR w A n xs) (hl : l ≤ n) (hc : n ≤ c) : RdR w (cutAt A c l) (n - l) (xs.drop l) := by
 have := h.cut (l := l) (h := n) (c := c) hl (Nat.le_refl _) hc
 rwa [List.take_of_length_le (by rw [List.length_drop, h.1]; omega)] at this

/-! matrices chosen and put in order -/
def insV (m : MatV) (l : List MatV) : List MatV := l.take (atM m.xss (l.map (·.xss))) ++ m :: l.drop (atM m.xss (l.map (·.xss)))
def selV (F : Nat) (ms : List MatV) : List MatV := ms.filter fun m => decide (Own1 F m.xss)
def orbI (F : Nat) (m : MatV) : Int := (orbN F m.xss : Int)
end Go.Proofs.YtbhnfehcpnnjcaaGreatDoor.Vc
/-
 The draws of maniplexes, walked: a maniplex drawn and perhaps spoiled. Conditions: as each states them.
-/
namespace Go.Proofs.YtbhnfehcpnnjcaaGreatDoor.Vc
open Go.RowKit

/-- an answer: rows of numbers in memory of its own, not always a maniplex; the source stays one -/
def AnsS (w0 : World) (ks : List Ck) (ix : Nat) (As : Option Addr) (v : Value) (w' : World) : Prop :=
 ∃ (n : Nat) (A : Option Addr) (c : Nat) (rs : List SlV) (xss : List (List Int)) (X : List Ck) (k' : Ck), v = .agg #[.slice A n c] ∧ n ≤ 6 ∧ (n ≤ c ∧ c ≤ 9223372036854775807) ∧ (∀ p ∈ xss, p.length ≤ 20001 ∧ ∀ x ∈ p, -1 ≤ x ∧ x ≤ 20001) ∧ srcK w0 As k' ∧ (∀ (w'' : World) (Y : List Ck), St w0 w'' (X ++ Y) → RowsI w'' A n rs xss) ∧ St w0 w' (X ++ ks.set ix k')

theorem getD_drop1 {α : Type} (d : α) (xs : List α) (i : Nat) : (xs.drop 1).getD i d = xs.getD (i + 1) d := by
 cases xs with
 | nil => rfl
 | cons a r => rfl
theorem RowsI.drop1 {w : World} {A : Option Addr} {n c : Nat} {rs : List SlV} {xss : List (List Int)} (h : RowsI w A n rs xss) (hn : 1 ≤ n) (hc : n ≤ c) : RowsI w (cutAt A c 1) (n - 1) (rs.drop 1) (xss.drop 1) := by
 refine ⟨h.top.drop hn hc, by rw [List.length_drop, h.len], fun i hi => ?_, fun i hi => ?_⟩
 ·rw [getD_drop1, getD_drop1]; exact h.row (i + 1) (by omega)
 ·rw [getD_drop1]; exact h.cap (i + 1) (by omega)

/-- how far the open statement is (a row more) -/
structure Sp1 (w0 : World) (ks : List Ck) (ix : Nat) (As A4 A5 : Option Addr) (n N : Nat) (A : Option Addr) (c : Nat) (rs : List SlV) (xss : List (List Int)) (S : Nat → Bool) (e : Env) (w : World) : Prop where
  f0 : e 0 = .pointer As
  f4 : e 4 = .pointer A4
  f5 : e 5 = .pointer A5
  f6 : e 6 = .int .i64 (N : Int)
  p0 : S 0 = true → e 30 = .pointer (ptrAt A5 0)
  p1 : S 1 = true → e 31 = .slice A n c
  p2 : S 2 = true → e 32 = .pointer As
  p3 : S 3 = true → e 33 = .int .i64 (N : Int)
  p7 : S 7 = true → e 37 = .pointer (ptrAt A5 0)
  mem : ∃ (Am : Option Addr) (cm : Nat) (ps : List Int) (A35 A' : Option Addr) (c' : Nat) (b1 b2 : List Ck) (b3 kk : Ck) (vs : List Value), srcK w0 As kk ∧
    (S 4 = true → e 34 = .slice Am N cm ∧ Rg N ps ∧ b1 = [CkI 2 Am N cm ps]) ∧
    (S 5 = true → e 35 = .slice A35 1 1 ∧ b2 = [CkR 28 A35 1 1 [⟨Am, N, cm⟩]]) ∧
    (S 6 = false → b3 = CkR 28 A n c rs) ∧
    (S 6 = true → e 36 = .slice A' (n + 1) c' ∧ b3 = CkR 28 A' (n + 1) c' (rs ++ [⟨Am, N, cm⟩])) ∧
    (S 8 = false → vs = [.slice A n c]) ∧
    (S 8 = true → vs = [.slice A' (n + 1) c']) ∧
    St w0 w (Bx 26 1 A5 vs :: Bx 26 1 A4 [.slice none 0 0] :: b3 :: (rowsCk 2 rs xss ++ (b2 ++ (b1 ++ ks.set ix kk))))
theorem l01MatchingX_c {w0 w : World} {ks : List Ck} (X : List Ck) (ix : Nat) {As : Option Addr} {k : Ck} (n : Nat) (hS : St w0 w (X ++ ks)) (hk : ks[ix]? = some k) (hK : srcK w0 As k) (hn : n ≤ 1000000) :
  Ret Tryz.prog 87 [.pointer As, .int .i64 (n : Int)] w (fun v w' => ∃ A c xs k', v = .slice A n c ∧ Rg n xs ∧ srcK w0 As k' ∧ St w0 w' (CkI 2 A n c xs :: (X ++ ks.set ix k'))) := by
 have e : (X ++ ks)[X.length + ix]? = some k := by
  rw [List.getElem?_append_right (by omega), Nat.add_sub_cancel_left]; exact hk
 refine (l01Matching_c (X.length + ix) n hS e hK hn).mono ?_
 rintro v w' ⟨A, c, xs, k', h1, h2, h3, h4⟩
 rw [show (X ++ ks).set (X.length + ix) k' = X ++ ks.set ix k' from by rw [List.set_append, if_neg (by omega), Nat.add_sub_cancel_left]] at h4
 exact ⟨A, c, xs, k', h1, h2, h3, h4⟩
theorem notyet {S : Nat → Bool} {j k : Nat} (hSk : S k = false) (h : S j = true → S k = true) : S j = false := by
 cases hj : S j with
 | false => rfl
 | true => rw [← hSk]; exact (h hj).symm

/-- how far the open statement is (an entry turned) -/
structure Sp0 (w0 : World) (ks : List Ck) (ix : Nat) (As A4 A5 : Option Addr) (n N : Nat) (A : Option Addr) (c : Nat) (a0 : Option Addr) (c0 : Nat) (rs1 : List SlV) (xss1 : List (List Int)) (S : Nat → Bool) (e : Env) (w : World) : Prop where
  f0 : e 0 = .pointer As
  f4 : e 4 = .pointer A4
  f5 : e 5 = .pointer A5
  f6 : e 6 = .int .i64 (N : Int)
  p0 : S 0 = true → e 16 = .pointer (ptrAt A5 0)
  p1 : S 1 = true → e 17 = .slice A n c
  p2 : S 2 = true → e 18 = .pointer (ptrAt A 0)
  p3 : S 3 = true → e 19 = .slice a0 N c0
  p4 : S 4 = true → e 20 = .pointer As
  p5 : S 5 = true → e 21 = .int .i64 (N : Int)
  p6 : S 6 = true → ∃ r : Int, e 22 = .int .i64 r ∧ 0 ≤ r ∧ r < N
  p7 : S 7 = true → e 23 = .pointer As
  p8 : S 8 = true → e 24 = .int .i64 (N : Int)
  p10 : S 10 = true → ∃ x : Int, e 26 = .int .i64 x ∧ -1 ≤ x ∧ x ≤ 20001
  p11 : S 11 = true → ∃ r : Int, e 27 = .pointer (ptrAt a0 r.toNat) ∧ 0 ≤ r ∧ r < N
  mem : ∃ (y : List Int) (A25 : Option Addr) (b1 : List Ck) (kk : Ck), srcK w0 As kk ∧ (y.length = N ∧ ∀ x ∈ y, -1 ≤ x ∧ x ≤ 20001) ∧
    (S 9 = true → e 25 = .slice A25 3 3 ∧ b1 = [CkI 2 A25 3 3 [-1, (N : Int), 0]]) ∧
    St w0 w (Bx 26 1 A5 [.slice A n c] :: Bx 26 1 A4 [.slice none 0 0] :: CkR 28 A n c (⟨a0, N, c0⟩ :: rs1) :: CkI 2 a0 N c0 y :: (rowsCk 2 rs1 xss1 ++ (b1 ++ ks.set ix kk)))
/-- how far the open statement is (a row longer) -/
structure Sp3 (w0 : World) (ks : List Ck) (ix : Nat) (As A4 A5 : Option Addr) (n N : Nat) (A : Option Addr) (c : Nat) (a0 : Option Addr) (c0 : Nat) (rs1 : List SlV) (x0 : List Int) (xss1 : List (List Int)) (kk : Ck) (S : Nat → Bool) (e : Env) (w : World) : Prop where
  f4 : e 4 = .pointer A4
  f5 : e 5 = .pointer A5
  f6 : e 6 = .int .i64 (N : Int)
  p0 : S 0 = true → e 44 = .pointer (ptrAt A5 0)
  p1 : S 1 = true → e 45 = .slice A n c
  p2 : S 2 = true → e 46 = .pointer (ptrAt A5 0)
  p3 : S 3 = true → e 47 = .slice A n c
  p4 : S 4 = true → e 48 = .pointer (ptrAt A 0)
  p5 : S 5 = true → e 49 = .slice a0 N c0
  p6 : S 6 = true → e 50 = .int .i64 (N : Int)
  p9 : S 9 = true → e 53 = .pointer (ptrAt A 0)
  mem : ∃ (A51 A' : Option Addr) (c' : Nat) (b1 : List Ck) (b3 b4 : Ck),
    (S 7 = true → e 51 = .slice A51 1 1 ∧ b1 = [CkI 2 A51 1 1 [(N : Int)]]) ∧
    (S 8 = false → b3 = CkI 2 a0 N c0 x0) ∧
    (S 8 = true → e 52 = .slice A' (N + 1) c' ∧ b3 = CkI 2 A' (N + 1) c' (x0 ++ [(N : Int)])) ∧
    (S 10 = false → b4 = CkR 28 A n c (⟨a0, N, c0⟩ :: rs1)) ∧
    (S 10 = true → b4 = CkR 28 A n c (⟨A', N + 1, c'⟩ :: rs1)) ∧
    St w0 w (Bx 26 1 A5 [.slice A n c] :: Bx 26 1 A4 [.slice none 0 0] :: b4 :: b3 :: (rowsCk 2 rs1 xss1 ++ (b1 ++ ks.set ix kk)))
theorem l01PickX_c {w0 w : World} {ks : List Ck} (X : List Ck) (ix : Nat) {As : Option Addr} {k : Ck} (A : Option Addr) (n c : Nat) (xs : List Int) (hS : St w0 w (X ++ ks)) (hk : ks[ix]? = some k) (hK : srcK w0 As k) (hR : ∀ k' w', St w0 w' (X ++ ks.set ix k') → RdI w' A n xs) (hn : 0 < n ∧ n ≤ 1000000) :
  Ret Tryz.prog 86 [.pointer As, .slice A n c] w (fun v w' => ∃ (x : Int) (k' : Ck), v = .int .i64 x ∧ x ∈ xs ∧ srcK w0 As k' ∧ St w0 w' (X ++ ks.set ix k')) := by
 have e : (X ++ ks)[X.length + ix]? = some k := by
  rw [List.getElem?_append_right (by omega), Nat.add_sub_cancel_left]; exact hk
 have e2 : ∀ k', (X ++ ks).set (X.length + ix) k' = X ++ ks.set ix k' := fun k' => by rw [List.set_append, if_neg (by omega), Nat.add_sub_cancel_left]
 refine (l01Pick_c (X.length + ix) A n c xs hS e hK (fun k' w' h => hR k' w' (by rwa [e2] at h)) hn).mono ?_
 rintro v w' ⟨x, k', h1, h2, h3, h4⟩
 rw [e2] at h4
 exact ⟨x, k', h1, h2, h3, h4⟩

theorem l02Spoil_c {w0 w : World} {ks : List Ck} (ix : Nat) {As : Option Addr} {k : Ck} (most : Nat) (hS : St w0 w ks) (hk : ks[ix]? = some k) (hK : srcK w0 As k) (hm : 8 ≤ most ∧ most ≤ 1000) :
  Ret Tryz.prog 59 [.pointer As, .int .i64 (most : Int)] w (AnsS w0 ks ix As) := by
 refine Ret.of_cd Tryz.func59 rfl Tryz.ntmps59 rfl (postc rfl rfl) (Cd.seq (Cd.region (Ops.new1 hS rfl ?_)))
 intro A4 w1 hS1
 refine Ops.n (tQ (Cd.seq (Cd.region (Ops.mv_ptr rfl rfl rfl (Ops.mi rfl rfl rfl (Ops.call (l02Draw_c (ix + 1) most hS1 (by exact hk) hK hm) rfl rfl rfl ?_))))))
 rintro _ w2 ⟨n, N, A, c, rs, xss, k1, rfl, hn, hN, hrl, hxl, hG, hK1, hS2⟩
 skip
 refine Ops.new1 hS2 rfl ?_
 intro A5 w3 hS3
 skip
 refine Ops.st_agg 1 0 hS3 rfl rfl rfl rfl rfl rfl rfl ?_
 intro w4 hS4
 have hS4 : St w0 w4 (Bx 26 1 A5 [.slice A n c] :: (mat 28 2 A n c rs xss ++ (Bx 26 1 A4 [.slice none 0 0] :: ks.set ix k1))) := hS4
 have hS4 : St w0 w4 (Bx 26 1 A5 [.slice A n c] :: Bx 26 1 A4 [.slice none 0 0] :: (mat 28 2 A n c rs xss ++ ks.set ix k1)) := hS4.perm (List.Perm.cons _ List.perm_middle)
 have hk1 := setK_get (k' := k1) hk
 refine Ops.n (tQ (Cd.seq (Cd.region (Ops.ld_agg 0 (hS4.rd 0 rfl) rfl rfl rfl ?_))))
 skip
 refine Ops.call (l02Flags_c A n c rs xss w4 (St.rowsI hS4.tail.tail (by omega)) (by omega)) rfl rfl rfl ?_
 rintro _ w5 ⟨rfl, hT⟩
 have hS5 := hS4.later hT.below
 rw [hG.first (by omega)]
 refine Ops.mi rfl rfl rfl (Ops.n (tQ (Cd.seq (Cd.seq (Cd.region (Ops.mv_ptr rfl rfl rfl (Ops.call (srcNextX_c (Bx 26 1 A5 [.slice A n c] :: Bx 26 1 A4 [.slice none 0 0] :: mat 28 2 A n c rs xss) ix 40 hS5 hk1 hK1) rfl rfl rfl ?_)))))))
 rintro _ w6 ⟨r, k2, rfl, hr, hK2, hS6⟩
 rw [List.set_set] at hS6
 have hS6 : St w0 w6 (Bx 26 1 A5 [.slice A n c] :: Bx 26 1 A4 [.slice none 0 0] :: (mat 28 2 A n c rs xss ++ ks.set ix k2)) := hS6
 have hk2 := setK_get (k' := k2) hk
 have hcap : n ≤ c ∧ c ≤ 9223372036854775807 := hS6.cap 2 rfl
 have hsp : ∀ p ∈ xss, p.length ≤ 20001 ∧ ∀ x ∈ p, -1 ≤ x ∧ x ≤ 20001 := fun p hp => ⟨by have := (hG p hp).1; omega, fun x hx => by have := (hG p hp).2 x hx; omega⟩
 refine Ops.n (tQ (Cd.block (Cd.seq (Cd.region (Ops.eql rfl rfl rfl (Ops.mb rfl rfl rfl (Ops.n (tQ ?_))))))))
 refine Cd.cond_p _ rfl (fun h1 => ?_) (fun h1 => ?_)
 ·obtain ⟨r0, rs1, rfl⟩ : ∃ r0 rs1, rs = r0 :: rs1 := by cases rs with | nil => exact absurd hrl (by simp; omega) | cons a b => exact ⟨a, b, rfl⟩
  obtain ⟨x0, xss1, rfl⟩ : ∃ x0 xss1, xss = x0 :: xss1 := by cases xss with | nil => exact absurd hxl (by simp; omega) | cons a b => exact ⟨a, b, rfl⟩
  obtain ⟨a0, n0, c0⟩ := r0
  have hx0 : x0.length = N := (hG x0 (List.mem_cons_self)).1
  have hr0 : x0.length = n0 := ((St.rowsI hS6.tail.tail hxl).at_ (i := 0) (by omega) (by omega)).1
  obtain rfl : n0 = N := by omega
  skip
  refine Cd.drawS (by kernel_rfl) (by kernel_rfl) (fun S e1 w1 => Sp0 w0 ks ix As A4 A5 n n0 A c a0 c0 rs1 xss1 S e1 w1) (fun w7 hb => ⟨rfl, rfl, rfl, rfl, fun h => (nomatch h), fun h => (nomatch h), fun h => (nomatch h), fun h => (nomatch h), fun h => (nomatch h), fun h => (nomatch h), fun h => (nomatch h), fun h => (nomatch h), fun h => (nomatch h), fun h => (nomatch h), fun h => (nomatch h), x0, none, [], k2, hK2, ⟨hx0, (hsp x0 List.mem_cons_self).2⟩, fun h => (nomatch h), hS6.later hb⟩) ?_ ?_
  ·intro S i o e1 w7 hq hSk hd hcl hI
   obtain ⟨f0, f4, f5, f6, p0, p1, p2, p3, p4, p5, p6, p7, p8, p10, p11, y, A25, b1, kk, hkk, hy, m9, hT⟩ := hI
   have hkg := setK_get (k' := kk) hk
   have eX : ∀ Y, (Bx 26 1 A5 [.slice A n c] :: Bx 26 1 A4 [.slice none 0 0] :: CkR 28 A n c (⟨a0, n0, c0⟩ :: rs1) :: CkI 2 a0 n0 c0 y :: (rowsCk 2 rs1 xss1 ++ (b1 ++ Y))) = (Bx 26 1 A5 [.slice A n c] :: Bx 26 1 A4 [.slice none 0 0] :: CkR 28 A n c (⟨a0, n0, c0⟩ :: rs1) :: CkI 2 a0 n0 c0 y :: (rowsCk 2 rs1 xss1 ++ b1)) ++ Y := fun Y => by simp
   have hX0 := hT
   rw [eX] at hX0
   match i, hq, hSk with
   | 0, hq, hSk =>
    obtain rfl := Option.some.inj hq
    refine Ops.fld (hT.rd 0 rfl) (by exact f5) rfl rfl rfl inferInstance (Ops.n ?_)
    exact ⟨f0, f4, f5, f6, fun _ => rfl, p1, p2, p3, p4, p5, p6, p7, p8, p10, p11, y, A25, b1, kk, hkk, hy, m9, hT⟩
   | 1, hq, hSk =>
    obtain rfl := Option.some.inj hq
    refine Ops.ldf_s (hT.rd 0 rfl) (by exact p0 (deps_of hd 0 rfl)) rfl rfl rfl rfl (Ops.n ?_)
    exact ⟨f0, f4, f5, f6, p0, fun _ => rfl, p2, p3, p4, p5, p6, p7, p8, p10, p11, y, A25, b1, kk, hkk, hy, m9, hT⟩
   | 2, hq, hSk =>
    obtain rfl := Option.some.inj hq
    refine Ops.idx (hT.rd 2 rfl) (by exact p1 (deps_of hd 1 rfl)) rfl rfl (by omega) (by show (0 : Int) < (n : Int); omega) ?_
    refine Ops.n ?_
    exact ⟨f0, f4, f5, f6, p0, p1, fun _ => rfl, p3, p4, p5, p6, p7, p8, p10, p11, y, A25, b1, kk, hkk, hy, m9, hT⟩
   | 3, hq, hSk =>
    obtain rfl := Option.some.inj hq
    refine Ops.ld_sl (i := 0) (hT.rdR 2 rfl) (by exact p2 (deps_of hd 2 rfl)) (by show 0 < n; omega) rfl rfl ?_
    refine Ops.n ?_
    exact ⟨f0, f4, f5, f6, p0, p1, p2, fun _ => rfl, p4, p5, p6, p7, p8, p10, p11, y, A25, b1, kk, hkk, hy, m9, hT⟩
   | 4, hq, hSk =>
    obtain rfl := Option.some.inj hq
    refine Ops.mv_ptr rfl (by exact f0) rfl (Ops.n ?_)
    exact ⟨f0, f4, f5, f6, p0, p1, p2, p3, fun _ => rfl, p5, p6, p7, p8, p10, p11, y, A25, b1, kk, hkk, hy, m9, hT⟩
   | 5, hq, hSk =>
    obtain rfl := Option.some.inj hq
    refine Ops.mi rfl (by exact f6) rfl (Ops.n ?_)
    exact ⟨f0, f4, f5, f6, p0, p1, p2, p3, p4, fun _ => rfl, p6, p7, p8, p10, p11, y, A25, b1, kk, hkk, hy, m9, hT⟩
   | 6, hq, hSk =>
    obtain rfl := Option.some.inj hq
    refine Ops.call (srcNextX_c _ ix (n0 : Int) hX0 hkg hkk) rfl (by exact two_eq (p4 (deps_of hd 4 rfl)) (p5 (deps_of hd 5 rfl))) rfl ?_
    rintro _ w8 ⟨r7, k7, rfl, hr7, hK7, hT7⟩
    rw [List.set_set, ← eX] at hT7
    refine Ops.n ?_
    exact ⟨f0, f4, f5, f6, p0, p1, p2, p3, p4, p5, fun _ => ⟨r7, rfl, hr7.1, hr7.2.1 (by omega)⟩, p7, p8, p10, p11, y, A25, b1, k7, hK7, hy, m9, hT7⟩
   | 7, hq, hSk =>
    obtain rfl := Option.some.inj hq
    refine Ops.mv_ptr rfl (by exact f0) rfl (Ops.n ?_)
    exact ⟨f0, f4, f5, f6, p0, p1, p2, p3, p4, p5, p6, fun _ => rfl, p8, p10, p11, y, A25, b1, kk, hkk, hy, m9, hT⟩
   | 8, hq, hSk =>
    obtain rfl := Option.some.inj hq
    refine Ops.mi rfl (by exact f6) rfl (Ops.n ?_)
    exact ⟨f0, f4, f5, f6, p0, p1, p2, p3, p4, p5, p6, p7, fun _ => rfl, p10, p11, y, A25, b1, kk, hkk, hy, m9, hT⟩
   | 9, hq, hSk =>
    obtain rfl := Option.some.inj hq
    refine Ops.bsL [-1, (n0 : Int), 0] (hT.sub (List.Sublist.cons_cons _ (List.Sublist.cons_cons _ (List.Sublist.cons_cons _ (List.Sublist.cons_cons _ ((List.Sublist.refl _).append (List.sublist_append_right _ _))))))) (by have h24 : e1 24 = .int .i64 (n0 : Int) := p8 (deps_of hd 8 rfl); simp [ev, h24, idxI]) rfl (by decide) (by decide) rfl rfl ?_
    intro A25 w8 hT8
    have hT9 : St w0 w8 (Bx 26 1 A5 [.slice A n c] :: Bx 26 1 A4 [.slice none 0 0] :: CkR 28 A n c (⟨a0, n0, c0⟩ :: rs1) :: CkI 2 a0 n0 c0 y :: (rowsCk 2 rs1 xss1 ++ ([CkI 2 A25 3 3 [-1, (n0 : Int), 0]] ++ ks.set ix kk))) := hT8.perm (List.perm_middle (l₁ := Bx 26 1 A5 [.slice A n c] :: Bx 26 1 A4 [.slice none 0 0] :: CkR 28 A n c (⟨a0, n0, c0⟩ :: rs1) :: CkI 2 a0 n0 c0 y :: rowsCk 2 rs1 xss1)).symm
    refine Ops.n ?_
    exact ⟨f0, f4, f5, f6, p0, p1, p2, p3, p4, p5, p6, p7, p8, p10, p11, y, A25, _, kk, hkk, hy, fun _ => ⟨rfl, rfl⟩, hT9⟩
   | 10, hq, hSk =>
    obtain rfl := Option.some.inj hq
    obtain ⟨h25, rfl⟩ := m9 (deps_of hd 9 rfl)
    refine Ops.call (l01PickX_c _ ix A25 3 3 [-1, (n0 : Int), 0] hX0 hkg hkk (fun k' w' h => by rw [← eX] at h; exact St.rdI (i := 0) (h.sub (((List.sublist_append_right _ _).cons _).cons _ |>.cons _ |>.cons _)) rfl) (by decide)) rfl (by exact two_eq (p7 (deps_of hd 7 rfl)) h25) rfl ?_
    rintro _ w8 ⟨x, k7, rfl, hx, hK7, hT7⟩
    rw [List.set_set, ← eX] at hT7
    have hxb : -1 ≤ x ∧ x ≤ 20001 := by
     simp only [List.mem_cons, List.not_mem_nil, or_false] at hx
     rcases hx with rfl | rfl | rfl <;> omega
    refine Ops.n ?_
    exact ⟨f0, f4, f5, f6, p0, p1, p2, p3, p4, p5, p6, p7, p8, fun _ => ⟨x, rfl, hxb⟩, p11, y, A25, _, k7, hK7, hy, fun _ => ⟨h25, rfl⟩, hT7⟩
   | 11, hq, hSk =>
    obtain rfl := Option.some.inj hq
    obtain ⟨r, h22, hr⟩ := p6 (deps_of hd 6 rfl)
    refine Ops.idx (hT.rd 3 rfl) (by exact p3 (deps_of hd 3 rfl)) (by exact h22) rfl (by omega) (by show r < (n0 : Int); omega) ?_
    refine Ops.n ?_
    exact ⟨f0, f4, f5, f6, p0, p1, p2, p3, p4, p5, p6, p7, p8, p10, fun _ => ⟨r, rfl, hr⟩, y, A25, b1, kk, hkk, hy, m9, hT⟩
   | 12, hq, hSk =>
    obtain rfl := Option.some.inj hq
    obtain ⟨r, h27, hr⟩ := p11 (deps_of hd 11 rfl)
    obtain ⟨x, h26, hx⟩ := p10 (deps_of hd 10 rfl)
    refine Ops.st_int 3 hT rfl (by exact h27) (by exact h26) (by omega) ?_
    intro w8 hT8
    refine Ops.n ?_
    exact ⟨f0, f4, f5, f6, p0, p1, p2, p3, p4, p5, p6, p7, p8, p10, p11, y.set r.toNat x, A25, b1, kk, hkk, ⟨by rw [List.length_set]; exact hy.1, fun z hz => (List.mem_or_eq_of_mem_set hz).elim (hy.2 z) (fun h => h ▸ hx)⟩, m9, hT8⟩
   | i + 13, hq, _ => exact (nomatch hq)
  ·intro S e1 w7 hall hI
   obtain ⟨f0, f4, f5, f6, p0, p1, p2, p3, p4, p5, p6, p7, p8, p10, p11, y, A25, b1, kk, hkk, hy, m9, hT⟩ := hI
   refine postQ_ext (F := [(4, .pointer A4), (5, .pointer A5)]) ⟨f4, f5, trivial⟩ (blockQ_n (tQ (Cd.seq (Cd.region (Ops.ld_agg 0 (hT.rd 0 rfl) rfl rfl rfl ?_)))))
   skip
   refine Ops.st_agg 1 1 hT rfl rfl rfl rfl rfl rfl rfl ?_
   intro w20 hS20
   refine Ops.n (tQ (Cd.ret ?_))
   skip
   refine retc_r rfl (hS20.rd 1 rfl) ?_
   exact ⟨n, A, c, ⟨a0, n0, c0⟩ :: rs1, y :: xss1, mat 28 2 A n c (⟨a0, n0, c0⟩ :: rs1) (y :: xss1), kk, rfl, by omega, hcap, fun p hp => (List.mem_cons.1 hp).elim (fun h => h ▸ ⟨by omega, hy.2⟩) (fun h => hsp p (List.mem_cons_of_mem _ h)), hkk, fun w'' Y h => St.rowsI h (by simpa using hxl), hS20.tail.tail.sub (List.Sublist.cons_cons _ (List.Sublist.cons_cons _ ((List.Sublist.refl _).append (List.sublist_append_right _ _))))⟩
 ·refine Cd.seq (Cd.region (Ops.eql rfl rfl rfl (Ops.mb rfl rfl rfl (Ops.n (tQ ?_)))))
  refine Cd.cond_p _ rfl (fun h2 => ?_) (fun h2 => ?_)
  ·skip
   refine Cd.drawS (by kernel_rfl) (by kernel_rfl) (fun S e1 w1 => Sp1 w0 ks ix As A4 A5 n N A c rs xss S e1 w1) (fun w7 hb => ⟨rfl, rfl, rfl, rfl, fun h => (nomatch h), fun h => (nomatch h), fun h => (nomatch h), fun h => (nomatch h), fun h => (nomatch h), none, 0, [], none, none, 0, [], [], CkR 28 A n c rs, k2, [.slice A n c], hK2, fun h => (nomatch h), fun h => (nomatch h), fun _ => rfl, fun h => (nomatch h), fun _ => rfl, fun h => (nomatch h), hS6.later hb⟩) ?_ ?_
   ·intro S i o e1 w7 hq hSk hd hcl hI
    obtain ⟨f0, f4, f5, f6, p0, p1, p2, p3, p7, Am, cm, ps, A35, A', c', b1, b2, b3, kk, vs, hkk, m4, m5, m6f, m6, m8f, m8, hT⟩ := hI
    match i, hq, hSk with
    | 0, hq, hSk =>
     obtain rfl := Option.some.inj hq
     refine Ops.fld (hT.rd 0 rfl) (by exact f5) rfl rfl rfl inferInstance (Ops.n ?_)
     exact ⟨f0, f4, f5, f6, fun _ => rfl, p1, p2, p3, p7, Am, cm, ps, A35, A', c', b1, b2, b3, kk, vs, hkk, m4, m5, m6f, m6, m8f, m8, hT⟩
    | 1, hq, hSk =>
     obtain rfl := Option.some.inj hq
     obtain rfl := m8f (notyet hSk fun h => deps_of (hcl 8 _ h rfl) 1 rfl)
     refine Ops.ldf_s (hT.rd 0 rfl) (by exact p0 (deps_of hd 0 rfl)) rfl rfl rfl rfl (Ops.n ?_)
     exact ⟨f0, f4, f5, f6, p0, fun _ => rfl, p2, p3, p7, Am, cm, ps, A35, A', c', b1, b2, b3, kk, _, hkk, m4, m5, m6f, m6, m8f, m8, hT⟩
    | 2, hq, hSk =>
     obtain rfl := Option.some.inj hq
     refine Ops.mv_ptr rfl (by exact f0) rfl (Ops.n ?_)
     exact ⟨f0, f4, f5, f6, p0, p1, fun _ => rfl, p3, p7, Am, cm, ps, A35, A', c', b1, b2, b3, kk, vs, hkk, m4, m5, m6f, m6, m8f, m8, hT⟩
    | 3, hq, hSk =>
     obtain rfl := Option.some.inj hq
     refine Ops.mi rfl (by exact f6) rfl (Ops.n ?_)
     exact ⟨f0, f4, f5, f6, p0, p1, p2, fun _ => rfl, p7, Am, cm, ps, A35, A', c', b1, b2, b3, kk, vs, hkk, m4, m5, m6f, m6, m8f, m8, hT⟩
    | 4, hq, hSk =>
     obtain rfl := Option.some.inj hq
     have hkg := setK_get (k' := kk) hk
     have n5 : S 5 = false := (notyet hSk fun h => deps_of (hcl 5 _ h rfl) 4 rfl)
     have n6 : S 6 = false := (notyet hSk fun h => deps_of (hcl 6 _ h rfl) 4 rfl)
     have hX0 : St w0 w7 ((Bx 26 1 A5 vs :: Bx 26 1 A4 [.slice none 0 0] :: b3 :: (rowsCk 2 rs xss ++ b2)) ++ ks.set ix kk) := hT.sub (List.Sublist.cons_cons _ (List.Sublist.cons_cons _ (List.Sublist.cons_cons _ (by show List.Sublist ((rowsCk 2 rs xss ++ b2) ++ ks.set ix kk) _; rw [List.append_assoc]; exact (List.Sublist.refl _).append ((List.Sublist.refl _).append (List.sublist_append_right _ _))))))
     refine Ops.call (l01MatchingX_c _ ix N hX0 hkg hkk (by omega)) rfl (by exact two_eq (p2 (deps_of hd 2 rfl)) (p3 (deps_of hd 3 rfl))) rfl ?_
     rintro _ w8 ⟨Am, cm, ps, k7, rfl, hps, hK7, hT7⟩
     rw [List.set_set] at hT7
     have hT8 : St w0 w8 (Bx 26 1 A5 vs :: Bx 26 1 A4 [.slice none 0 0] :: b3 :: (rowsCk 2 rs xss ++ (b2 ++ ([CkI 2 Am N cm ps] ++ ks.set ix k7)))) := by
      have e : (Bx 26 1 A5 vs :: Bx 26 1 A4 [.slice none 0 0] :: b3 :: (rowsCk 2 rs xss ++ (b2 ++ ([CkI 2 Am N cm ps] ++ ks.set ix k7)))) = (Bx 26 1 A5 vs :: Bx 26 1 A4 [.slice none 0 0] :: b3 :: (rowsCk 2 rs xss ++ b2)) ++ (CkI 2 Am N cm ps :: ks.set ix k7) := by simp
      rw [e]
      exact hT7.perm List.perm_middle.symm
     refine Ops.n ?_
     exact ⟨f0, f4, f5, f6, p0, p1, p2, p3, p7, Am, cm, ps, A35, A', c', [CkI 2 Am N cm ps], b2, b3, k7, vs, hK7, fun _ => ⟨rfl, hps, rfl⟩, fun h => (nomatch n5.symm.trans h), m6f, fun h => (nomatch n6.symm.trans h), m8f, m8, hT8⟩
    | 5, hq, hSk =>
     obtain rfl := Option.some.inj hq
     obtain ⟨h34, hps, rfl⟩ := m4 (deps_of hd 4 rfl)
     have n6 : S 6 = false := (notyet hSk fun h => deps_of (hcl 6 _ h rfl) 5 rfl)
     refine Ops.bs1R (hT.sub (ks' := Bx 26 1 A5 vs :: Bx 26 1 A4 [.slice none 0 0] :: b3 :: (rowsCk 2 rs xss ++ ([CkI 2 Am N cm ps] ++ ks.set ix kk))) (List.Sublist.cons_cons _ (List.Sublist.cons_cons _ (List.Sublist.cons_cons _ ((List.Sublist.refl _).append (List.sublist_append_right _ _)))))) (by exact h34) rfl rfl ?_
     intro A35 w8 hT8
     have hT8 : St w0 w8 (Bx 26 1 A5 vs :: Bx 26 1 A4 [.slice none 0 0] :: b3 :: (rowsCk 2 rs xss ++ ([CkR 28 A35 1 1 [⟨Am, N, cm⟩]] ++ ([CkI 2 Am N cm ps] ++ ks.set ix kk)))) := hT8.perm (List.perm_middle (l₁ := Bx 26 1 A5 vs :: Bx 26 1 A4 [.slice none 0 0] :: b3 :: rowsCk 2 rs xss)).symm
     refine Ops.n ?_
     exact ⟨f0, f4, f5, f6, p0, p1, p2, p3, p7, Am, cm, ps, A35, A', c', _, [CkR 28 A35 1 1 [⟨Am, N, cm⟩]], b3, kk, vs, hkk, fun _ => ⟨h34, hps, rfl⟩, fun _ => ⟨rfl, rfl⟩, m6f, fun h => (nomatch n6.symm.trans h), m8f, m8, hT8⟩
    | 6, hq, hSk =>
     obtain rfl := Option.some.inj hq
     obtain ⟨h35, rfl⟩ := m5 (deps_of hd 5 rfl)
     obtain rfl := m6f hSk
     have n8 : S 8 = false := (notyet hSk fun h => deps_of (hcl 8 _ h rfl) 6 rfl)
     have hR : RdR w7 A35 1 [⟨Am, N, cm⟩] := St.rdR (i := 0) (hT.sub (ks' := CkR 28 A35 1 1 [⟨Am, N, cm⟩] :: (b1 ++ ks.set ix kk)) (((List.sublist_append_right _ _).cons _).cons _ |>.cons _)) rfl
     refine Ops.appR 2 hT rfl hR (by exact p1 (deps_of hd 1 rfl)) (by exact h35) rfl (by omega) (by omega) rfl ?_
     intro A' c' w8 hT8
     refine Ops.n ?_
     exact ⟨f0, f4, f5, f6, p0, p1, p2, p3, p7, Am, cm, ps, A35, A', c', b1, _, CkR 28 A' (n + 1) c' (rs ++ [⟨Am, N, cm⟩]), kk, vs, hkk, m4, fun _ => ⟨h35, rfl⟩, fun h => (nomatch (show true = false from h)), fun _ => ⟨rfl, rfl⟩, m8f, fun h => (nomatch n8.symm.trans h), hT8⟩
    | 7, hq, hSk =>
     obtain rfl := Option.some.inj hq
     refine Ops.fld (hT.rd 0 rfl) (by exact f5) rfl rfl rfl inferInstance (Ops.n ?_)
     exact ⟨f0, f4, f5, f6, p0, p1, p2, p3, fun _ => rfl, Am, cm, ps, A35, A', c', b1, b2, b3, kk, vs, hkk, m4, m5, m6f, m6, m8f, m8, hT⟩
    | 8, hq, hSk =>
     obtain rfl := Option.some.inj hq
     obtain ⟨h36, rfl⟩ := m6 (deps_of hd 6 rfl)
     obtain rfl := m8f hSk
     refine Ops.stf 0 hT rfl (by exact p7 (deps_of hd 7 rfl)) (by exact h36) rfl rfl ?_
     intro w8 hT8
     refine Ops.n ?_
     exact ⟨f0, f4, f5, f6, p0, p1, p2, p3, p7, Am, cm, ps, A35, A', c', b1, b2, _, kk, [.slice A' (n + 1) c'], hkk, m4, m5, m6f, fun _ => ⟨h36, rfl⟩, fun h => (nomatch (show true = false from h)), fun _ => rfl, hT8⟩
    | i + 9, hq, _ => exact (nomatch hq)
   ·intro S e1 w7 hall hI
    obtain ⟨f0, f4, f5, f6, p0, p1, p2, p3, p7, Am, cm, ps, A35, A', c', b1, b2, b3, kk, vs, hkk, m4, m5, m6f, m6, m8f, m8, hT⟩ := hI
    obtain ⟨_, hps, rfl⟩ := m4 (hall 4 (by decide))
    obtain ⟨_, rfl⟩ := m6 (hall 6 (by decide))
    obtain rfl := m8 (hall 8 (by decide))
    have hcap' : n + 1 ≤ c' ∧ c' ≤ 9223372036854775807 := hT.cap 2 rfl
    have hT : St w0 w7 (Bx 26 1 A5 [.slice A' (n + 1) c'] :: Bx 26 1 A4 [.slice none 0 0] :: (mat 28 2 A' (n + 1) c' (rs ++ [⟨Am, N, cm⟩]) (xss ++ [ps]) ++ ks.set ix kk)) := by
     refine (hT.sub (ks' := Bx 26 1 A5 [.slice A' (n + 1) c'] :: Bx 26 1 A4 [.slice none 0 0] :: CkR 28 A' (n + 1) c' (rs ++ [⟨Am, N, cm⟩]) :: (rowsCk 2 rs xss ++ ([CkI 2 Am N cm ps] ++ ks.set ix kk))) (List.Sublist.cons_cons _ (List.Sublist.cons_cons _ (List.Sublist.cons_cons _ ((List.Sublist.refl _).append (List.sublist_append_right _ _)))))).perm ?_
     refine List.Perm.cons _ (List.Perm.cons _ ?_)
     show List.Perm _ (CkR 28 A' (n + 1) c' (rs ++ [⟨Am, N, cm⟩]) :: (rowsCk 2 (rs ++ [⟨Am, N, cm⟩]) (xss ++ [ps]) ++ ks.set ix kk))
     rw [rowsCk_append (by omega), ← List.append_assoc]
     exact List.Perm.refl _
    refine postQ_ext (F := [(4, .pointer A4), (5, .pointer A5)]) ⟨f4, f5, trivial⟩ (blockQ_n (tQ (Cd.seq (Cd.region (Ops.ld_agg 0 (hT.rd 0 rfl) rfl rfl rfl ?_)))))
    skip
    refine Ops.st_agg 1 1 hT rfl rfl rfl rfl rfl rfl rfl ?_
    intro w20 hS20
    refine Ops.n (tQ (Cd.ret ?_))
    skip
    refine retc_r rfl (hS20.rd 1 rfl) ?_
    exact ⟨n + 1, A', c', _, xss ++ [ps], _, kk, rfl, by omega, hcap', fun p hp => (List.mem_append.1 hp).elim (hsp p) (fun h => by rw [List.mem_singleton] at h; subst h; exact ⟨by have := hps.1; omega, fun x hx => by have := hps.2 x hx; omega⟩), hkk, fun w'' Y h => St.rowsI h (by simp [hxl]), hS20.tail.tail⟩
  ·refine Cd.seq (Cd.region (Ops.eql rfl rfl rfl (Ops.mb rfl rfl rfl (Ops.n (tQ ?_)))))
   refine Cd.cond_p _ rfl (fun h3 => ?_) (fun h3 => ?_)
   ·refine Cd.region (Ops.bs0 hS6 rfl ?_)
    intro A40 w7 hS7
    skip
    refine Ops.fld (hS7.rd 1 rfl) rfl rfl rfl rfl inferInstance (Ops.stf 1 hS7 rfl rfl rfl rfl rfl ?_)
    intro w8 hS8
    have hS8 : St w0 w8 ([Bx 26 1 A5 [.slice A40 0 0], Bx 26 1 A4 [.slice none 0 0]] ++ (mat 28 2 A40 0 0 [] [] ++ ks.set ix k2)) := by
     refine (hS8.sub (ks' := mat 28 2 A40 0 0 [] [] ++ ([Bx 26 1 A5 [.slice A40 0 0], Bx 26 1 A4 [.slice none 0 0]] ++ ks.set ix k2)) ?_).perm ?_
     ·exact List.Sublist.cons_cons _ (List.Sublist.cons_cons _ (List.Sublist.cons_cons _ (List.sublist_append_right _ _)))
     ·exact (List.perm_middle (l₁ := [_, _])).symm
    refine Ops.n (blockQ_n (tQ (Cd.seq (Cd.region (Ops.ld_agg 0 (hS8.rd 0 rfl) rfl rfl rfl ?_)))))
    skip
    refine Ops.st_agg 1 1 hS8 rfl rfl rfl rfl rfl rfl rfl ?_
    intro w20 hS20
    refine Ops.n (tQ (Cd.ret ?_))
    skip
    refine retc_r rfl (hS20.rd 1 rfl) ?_
    exact ⟨0, A40, 0, [], [], _, k2, rfl, by omega, by decide, fun p hp => (nomatch hp), hK2, fun w'' Y h => St.rowsI h rfl, hS20.tail.tail⟩
   ·refine Cd.seq (Cd.region (Ops.eql rfl rfl rfl (Ops.mb rfl rfl rfl (Ops.n (tQ ?_)))))
    refine Cd.cond_p _ rfl (fun h4 => ?_) (fun h4 => ?_)
    ·obtain ⟨r0, rs1, rfl⟩ : ∃ r0 rs1, rs = r0 :: rs1 := by cases rs with | nil => exact absurd hrl (by simp; omega) | cons a b => exact ⟨a, b, rfl⟩
     obtain ⟨x0, xss1, rfl⟩ : ∃ x0 xss1, xss = x0 :: xss1 := by cases xss with | nil => exact absurd hxl (by simp; omega) | cons a b => exact ⟨a, b, rfl⟩
     obtain ⟨a0, n0, c0⟩ := r0
     have hx0 : x0.length = N := (hG x0 (List.mem_cons_self)).1
     have hr0 : x0.length = n0 := ((St.rowsI hS6.tail.tail hxl).at_ (i := 0) (by omega) (by omega)).1
     obtain rfl : n0 = N := by omega
     skip
     refine Cd.drawS (by kernel_rfl) (by kernel_rfl) (fun S e1 w1 => Sp3 w0 ks ix As A4 A5 n n0 A c a0 c0 rs1 x0 xss1 k2 S e1 w1) (fun w7 hb => ⟨rfl, rfl, rfl, fun h => (nomatch h), fun h => (nomatch h), fun h => (nomatch h), fun h => (nomatch h), fun h => (nomatch h), fun h => (nomatch h), fun h => (nomatch h), fun h => (nomatch h), none, none, 0, [], _, _, fun h => (nomatch h), fun _ => rfl, fun h => (nomatch h), fun _ => rfl, fun h => (nomatch h), hS6.later hb⟩) ?_ ?_
     ·intro S i o e1 w7 hq hSk hd hcl hI
      obtain ⟨f4, f5, f6, p0, p1, p2, p3, p4, p5, p6, p9, A51, A', c', b1, b3, b4, m7, m8f, m8, m10f, m10, hT⟩ := hI
      match i, hq, hSk with
      | 0, hq, hSk =>
       obtain rfl := Option.some.inj hq
       refine Ops.fld (hT.rd 0 rfl) (by exact f5) rfl rfl rfl inferInstance (Ops.n ?_)
       exact ⟨f4, f5, f6, fun _ => rfl, p1, p2, p3, p4, p5, p6, p9, A51, A', c', b1, b3, b4, m7, m8f, m8, m10f, m10, hT⟩
      | 1, hq, hSk =>
       obtain rfl := Option.some.inj hq
       refine Ops.ldf_s (hT.rd 0 rfl) (by exact p0 (deps_of hd 0 rfl)) rfl rfl rfl rfl (Ops.n ?_)
       exact ⟨f4, f5, f6, p0, fun _ => rfl, p2, p3, p4, p5, p6, p9, A51, A', c', b1, b3, b4, m7, m8f, m8, m10f, m10, hT⟩
      | 2, hq, hSk =>
       obtain rfl := Option.some.inj hq
       refine Ops.fld (hT.rd 0 rfl) (by exact f5) rfl rfl rfl inferInstance (Ops.n ?_)
       exact ⟨f4, f5, f6, p0, p1, fun _ => rfl, p3, p4, p5, p6, p9, A51, A', c', b1, b3, b4, m7, m8f, m8, m10f, m10, hT⟩
      | 3, hq, hSk =>
       obtain rfl := Option.some.inj hq
       refine Ops.ldf_s (hT.rd 0 rfl) (by exact p2 (deps_of hd 2 rfl)) rfl rfl rfl rfl (Ops.n ?_)
       exact ⟨f4, f5, f6, p0, p1, p2, fun _ => rfl, p4, p5, p6, p9, A51, A', c', b1, b3, b4, m7, m8f, m8, m10f, m10, hT⟩
      | 4, hq, hSk =>
       obtain rfl := Option.some.inj hq
       obtain rfl := m10f (notyet hSk fun h => deps_of (hcl 10 _ h rfl) 4 rfl)
       refine Ops.idx (hT.rd 2 rfl) (by exact p3 (deps_of hd 3 rfl)) rfl rfl (by omega) (by show (0 : Int) < (n : Int); omega) ?_
       refine Ops.n ?_
       exact ⟨f4, f5, f6, p0, p1, p2, p3, fun _ => rfl, p5, p6, p9, A51, A', c', b1, b3, _, m7, m8f, m8, m10f, m10, hT⟩
      | 5, hq, hSk =>
       obtain rfl := Option.some.inj hq
       obtain rfl := m10f (notyet hSk fun h => deps_of (hcl 10 _ h rfl) 5 rfl)
       refine Ops.ld_sl (i := 0) (hT.rdR 2 rfl) (by exact p4 (deps_of hd 4 rfl)) (by show 0 < n; omega) rfl rfl ?_
       refine Ops.n ?_
       exact ⟨f4, f5, f6, p0, p1, p2, p3, p4, fun _ => rfl, p6, p9, A51, A', c', b1, b3, _, m7, m8f, m8, m10f, m10, hT⟩
      | 6, hq, hSk =>
       obtain rfl := Option.some.inj hq
       refine Ops.mi rfl (by exact f6) rfl (Ops.n ?_)
       exact ⟨f4, f5, f6, p0, p1, p2, p3, p4, p5, fun _ => rfl, p9, A51, A', c', b1, b3, b4, m7, m8f, m8, m10f, m10, hT⟩
      | 7, hq, hSk =>
       obtain rfl := Option.some.inj hq
       refine Ops.bs1I (hT.sub (ks' := Bx 26 1 A5 [.slice A n c] :: Bx 26 1 A4 [.slice none 0 0] :: b4 :: b3 :: (rowsCk 2 rs1 xss1 ++ ks.set ix k2)) (List.Sublist.cons_cons _ (List.Sublist.cons_cons _ (List.Sublist.cons_cons _ (List.Sublist.cons_cons _ ((List.Sublist.refl _).append (List.sublist_append_right _ _))))))) (by exact p6 (deps_of hd 6 rfl)) rfl rfl ?_
       intro A51 w8 hT8
       have hT9 : St w0 w8 (Bx 26 1 A5 [.slice A n c] :: Bx 26 1 A4 [.slice none 0 0] :: b4 :: b3 :: (rowsCk 2 rs1 xss1 ++ ([CkI 2 A51 1 1 [(n0 : Int)]] ++ ks.set ix k2))) := hT8.perm (List.perm_middle (l₁ := Bx 26 1 A5 [.slice A n c] :: Bx 26 1 A4 [.slice none 0 0] :: b4 :: b3 :: rowsCk 2 rs1 xss1)).symm
       refine Ops.n ?_
       exact ⟨f4, f5, f6, p0, p1, p2, p3, p4, p5, p6, p9, A51, A', c', _, b3, b4, fun _ => ⟨rfl, rfl⟩, m8f, m8, m10f, m10, hT9⟩
      | 8, hq, hSk =>
       obtain rfl := Option.some.inj hq
       obtain ⟨h51, rfl⟩ := m7 (deps_of hd 7 rfl)
       obtain rfl := m8f hSk
       have n10 : S 10 = false := (notyet hSk fun h => deps_of (hcl 10 _ h rfl) 8 rfl)
       have hR : RdI w7 A51 1 [(n0 : Int)] := St.rdI (i := 0) (hT.sub (((List.sublist_append_right _ _).cons _).cons _ |>.cons _ |>.cons _)) rfl
       refine Ops.appI 3 hT rfl hR (by exact p5 (deps_of hd 5 rfl)) (by exact h51) rfl (by omega) (by omega) rfl ?_
       intro A' c' w8 hT8
       refine Ops.n ?_
       exact ⟨f4, f5, f6, p0, p1, p2, p3, p4, p5, p6, p9, A51, A', c', _, _, b4, fun _ => ⟨h51, rfl⟩, fun h => (nomatch (show true = false from h)), fun _ => ⟨rfl, rfl⟩, m10f, fun h => (nomatch n10.symm.trans h), hT8⟩
      | 9, hq, hSk =>
       obtain rfl := Option.some.inj hq
       obtain rfl := m10f (notyet hSk fun h => deps_of (hcl 10 _ h rfl) 9 rfl)
       refine Ops.idx (hT.rd 2 rfl) (by exact p1 (deps_of hd 1 rfl)) rfl rfl (by omega) (by show (0 : Int) < (n : Int); omega) ?_
       refine Ops.n ?_
       exact ⟨f4, f5, f6, p0, p1, p2, p3, p4, p5, p6, fun _ => rfl, A51, A', c', b1, b3, _, m7, m8f, m8, m10f, m10, hT⟩
      | 10, hq, hSk =>
       obtain rfl := Option.some.inj hq
       obtain ⟨h52, rfl⟩ := m8 (deps_of hd 8 rfl)
       obtain rfl := m10f hSk
       refine Ops.st_sl (i := 0) 2 hT rfl (by exact p9 (deps_of hd 9 rfl)) (by exact h52) (by show 0 < n; omega) ?_
       intro w8 hT8
       refine Ops.n ?_
       exact ⟨f4, f5, f6, p0, p1, p2, p3, p4, p5, p6, p9, A51, A', c', b1, _, _, m7, m8f, fun _ => ⟨h52, rfl⟩, fun h => (nomatch (show true = false from h)), fun _ => rfl, hT8⟩
      | i + 11, hq, _ => exact (nomatch hq)
     ·intro S e1 w7 hall hI
      obtain ⟨f4, f5, f6, p0, p1, p2, p3, p4, p5, p6, p9, A51, A', c', b1, b3, b4, m7, m8f, m8, m10f, m10, hT⟩ := hI
      obtain ⟨_, rfl⟩ := m8 (hall 8 (by decide))
      obtain rfl := m10 (hall 10 (by decide))
      refine postQ_ext (F := [(4, .pointer A4), (5, .pointer A5)]) ⟨f4, f5, trivial⟩ (blockQ_n (tQ (Cd.seq (Cd.region (Ops.ld_agg 0 (hT.rd 0 rfl) rfl rfl rfl ?_)))))
      skip
      refine Ops.st_agg 1 1 hT rfl rfl rfl rfl rfl rfl rfl ?_
      intro w20 hS20
      refine Ops.n (tQ (Cd.ret ?_))
      skip
      refine retc_r rfl (hS20.rd 1 rfl) ?_
      exact ⟨n, A, c, ⟨A', n0 + 1, c'⟩ :: rs1, (x0 ++ [(n0 : Int)]) :: xss1, mat 28 2 A n c (⟨A', n0 + 1, c'⟩ :: rs1) ((x0 ++ [(n0 : Int)]) :: xss1), k2, rfl, by omega, hcap, fun p hp => (List.mem_cons.1 hp).elim (fun h => h ▸ ⟨by simp; omega, fun x hx => (List.mem_append.1 hx).elim ((hsp x0 List.mem_cons_self).2 x) (fun h => by rw [List.mem_singleton] at h; omega)⟩) (fun h => hsp p (List.mem_cons_of_mem _ h)), hK2, fun w'' Y h => St.rowsI h (by simpa using hxl), hS20.tail.tail.sub (List.Sublist.cons_cons _ (List.Sublist.cons_cons _ ((List.Sublist.refl _).append (List.sublist_append_right _ _))))⟩
    ·refine Cd.seq (Cd.region (Ops.eql rfl rfl rfl (Ops.mb rfl rfl rfl (Ops.n (tQ ?_)))))
     refine Cd.cond_p _ rfl (fun h5 => ?_) (fun h5 => ?_)
     ·refine Cd.region (Ops.fld (hS6.rd 0 rfl) rfl rfl rfl rfl inferInstance (Ops.ldf_s (hS6.rd 0 rfl) rfl rfl rfl rfl rfl ?_))
      skip
      refine Ops.cut_l rfl rfl rfl (by omega) ?_
      skip
      refine Ops.fld (hS6.rd 0 rfl) rfl rfl rfl rfl inferInstance (Ops.stf 0 hS6 rfl rfl rfl rfl rfl ?_)
      intro w7 hS7
      refine Ops.n (blockQ_n (tQ (Cd.seq (Cd.region (Ops.ld_agg 0 (hS7.rd 0 rfl) rfl rfl rfl ?_)))))
      skip
      refine Ops.st_agg 1 1 hS7 rfl rfl rfl rfl rfl rfl rfl ?_
      intro w20 hS20
      refine Ops.n (tQ (Cd.ret ?_))
      skip
      refine retc_r rfl (hS20.rd 1 rfl) ?_
      exact ⟨n - 1, cutAt A c 1, c - 1, rs.drop 1, xss.drop 1, _, k2, rfl, by omega, by omega, fun p hp => hsp p (List.mem_of_mem_drop hp), hK2, fun w'' Y h => (St.rowsI h hxl).drop1 (by omega) (by omega), hS20.tail.tail⟩
     ·skip
      refine Cd.skip (blockQ_n (tQ (Cd.seq (Cd.region (Ops.ld_agg 0 (hS6.rd 0 rfl) rfl rfl rfl ?_)))))
      skip
      refine Ops.st_agg 1 1 hS6 rfl rfl rfl rfl rfl rfl rfl ?_
      intro w20 hS20
      refine Ops.n (tQ (Cd.ret ?_))
      skip
      refine retc_r rfl (hS20.rd 1 rfl) ?_
      exact ⟨n, A, c, rs, xss, _, k2, rfl, by omega, hcap, hsp, hK2, fun w'' Y h => St.rowsI h hxl, hS20.tail.tail⟩
end Go.Proofs.YtbhnfehcpnnjcaaGreatDoor.Vc
