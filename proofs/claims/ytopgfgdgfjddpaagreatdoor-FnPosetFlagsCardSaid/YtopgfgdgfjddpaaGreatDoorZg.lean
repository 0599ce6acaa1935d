/-
  The texts Key, Mdl, Po8, Pr5, Pr6, Pr7, Pr8, Pr9, Drs, Pt1, Pt2, Mrg, Pt3, Pt4 in one. Conditions: as each part states them.
-/
import Derived.Test.YtopgfgdgfjddpaaGreatDoorInst
import Derived.Test.YtopgfgdgfjddpaaGreatDoorZf
import Derived.Test.YtopgfgdgfjddpaaGreatDoorZb
import Derived.Lib.ItoaLen
import Derived.Test.YtopgfgdgfjddpaaGreatDoorLayd
import Derived.Shelf.Strconv.AppendIntPublic10
import Derived.Test.YtopgfgdgfjddpaaGreatDoorZa
import Derived.Test.YtopgfgdgfjddpaaGreatDoorZd
import Derived.Test.YtopgfgdgfjddpaaGreatDoorZe
import Derived.Test.YtopgfgdgfjddpaaGreatDoorZc
/-
 The text of a list of numbers, which is alike for equal lists alone. Conditions: the library's table of powers of ten holds what the program's text lays there.
-/
namespace Go.Proofs.YtopgfgdgfjddpaaGreatDoor.Vc
open Go.RowKit
/-! the text, plainly -/
def keyL (xs : List Int) : List UInt8 := xs.flatMap fun x => Lib.itoa x ++ [32]
def keyB (xs : List Int) : ByteArray := ⟨(keyL xs).toArray⟩
def valD (l : List UInt8) : Nat := l.foldl (fun a b => 10 * a + (b.toNat - 48)) 0
theorem u8_digit {d : Nat} (h : d < 10) : (UInt8.ofNat (48 + d)).toNat = 48 + d := by
 rw [UInt8.toNat_ofNat']
 omega
theorem dec_val : ∀ u : Nat, valD (Lib.decDigits u) = u ∧ ∀ b ∈ Lib.decDigits u, 48 ≤ b.toNat ∧ b.toNat ≤ 57 := by
 intro u
 induction u using Nat.strongRecOn with
 | ind u ih =>
  rw [Lib.decDigits]
  split
  ·rename_i h
   refine ⟨?_, fun b hb => ?_⟩
   ·simp only [valD, List.foldl_cons, List.foldl_nil, u8_digit h]; omega
   ·simp only [List.mem_singleton] at hb
    subst hb
    rw [u8_digit h]; omega
  ·rename_i h
   obtain ⟨h1, h2⟩ := ih (u / 10) (by omega)
   refine ⟨?_, fun b hb => ?_⟩
   ·unfold valD at h1 ⊢
    rw [List.foldl_append, h1]
    simp only [List.foldl_cons, List.foldl_nil, u8_digit (show u % 10 < 10 by omega)]
    omega
   ·rcases List.mem_append.1 hb with hb | hb
    ·exact h2 b hb
    ·simp only [List.mem_singleton] at hb
     subst hb
     rw [u8_digit (by omega)]; omega
theorem dec_inj {u v : Nat} (h : Lib.decDigits u = Lib.decDigits v) : u = v := by rw [← (dec_val u).1, h, (dec_val v).1]
theorem itoa_bytes {x : Int} : ∀ b ∈ Lib.itoa x, b ≠ 32 := by
 intro b hb e
 subst e
 unfold Lib.itoa at hb
 split at hb
 ·rcases List.mem_cons.1 hb with h | h
  ·exact absurd h (by decide)
  have := (dec_val _).2 _ h
  exact absurd this (by decide)
 have := (dec_val _).2 _ hb
 exact absurd this (by decide)
theorem itoa_inj {x y : Int} (h : Lib.itoa x = Lib.itoa y) : x = y := by
 have no45 : ∀ (u v : Nat), 45 :: Lib.decDigits u ≠ Lib.decDigits v := fun u v e => by
  have := (dec_val v).2 45 (by rw [← e]; simp)
  exact absurd this (by decide)
 unfold Lib.itoa at h
 split at h <;> split at h
 ·simp only [List.cons.injEq, true_and] at h
  have := dec_inj h
  omega
 ·exact absurd h (no45 _ _)
 ·exact absurd h.symm (no45 _ _)
 have := dec_inj h
 omega
theorem split_at : ∀ {a b r s : List UInt8}, (∀ x ∈ a, x ≠ 32) → (∀ x ∈ b, x ≠ 32) → a ++ 32 :: r = b ++ 32 :: s → a = b ∧ r = s
 | [], [], _, _, _, _, h => by simpa using h
 | [], y :: b, _, _, _, hb, h => by
  simp only [List.nil_append, List.cons_append, List.cons.injEq] at h
  exact absurd h.1.symm (hb y (by simp))
 | x :: a, [], _, _, ha, _, h => by
  simp only [List.nil_append, List.cons_append, List.cons.injEq] at h
  exact absurd h.1 (ha x (by simp))
 | x :: a, y :: b, _, _, ha, hb, h => by
  simp only [List.cons_append, List.cons.injEq] at h
  obtain ⟨h1, h2⟩ := split_at (fun z hz => ha z (by simp [hz])) (fun z hz => hb z (by simp [hz])) h.2
  exact ⟨by rw [h.1, h1], h2⟩
theorem keyL_cons (x : Int) (xs : List Int) : keyL (x :: xs) = Lib.itoa x ++ 32 :: keyL xs := by simp [keyL]
theorem keyL_snoc (xs : List Int) (x : Int) : keyL (xs ++ [x]) = (keyL xs ++ Lib.itoa x) ++ [32] := by simp [keyL]
theorem keyL_inj : ∀ {xs ys : List Int}, keyL xs = keyL ys → xs = ys
 | [], [], _ => rfl
 | [], y :: ys, h => by rw [keyL_cons] at h; simp [keyL] at h
 | x :: xs, [], h => by rw [keyL_cons] at h; simp [keyL] at h
 | x :: xs, y :: ys, h => by
  rw [keyL_cons, keyL_cons] at h
  obtain ⟨h1, h2⟩ := split_at itoa_bytes itoa_bytes h
  rw [itoa_inj h1, keyL_inj h2]
theorem keyB_inj {xs ys : List Int} (h : keyB xs = keyB ys) : xs = ys := by
 have h1 : (keyL xs).toArray = (keyL ys).toArray := congrArg ByteArray.data h
 exact keyL_inj (by simpa using h1)
theorem fold_push : ∀ (l : List UInt8) (s : ByteArray), (l.map fun b => ((b.toNat : Nat) : Int)).foldl (fun r n => r.push (UInt8.ofNat n.toNat)) s = ⟨s.data ++ l.toArray⟩
 | [], s => by simp
 | b :: l, s => by
  simp only [List.map_cons, List.foldl_cons]
  rw [fold_push l]
  have e : UInt8.ofNat ((b.toNat : Nat) : Int).toNat = b := by simp
  rw [e]
  have e2 : (s.push b).data = s.data.push b := O
  rw [e2]
  congr 1
  apply Array.ext'
  simp
/-! the library's table -/
def Tab (w : World) : Prop := Lib.TabIs Tryz.prog w "internal/strconv.uint64pow10" .u64 Lib.pow10Tab
theorem Tab.later {w w' : World} (h : Tab w) (hb : Below w.heap.size w w') : Tab w' := Lib.tabBelow_of_tabIs h w' hb.toBelow
def OwB (B : Nat) (w : World) (A : Option Addr) (m c : Nat) (l : List UInt8) : Prop := w.ownsRow B 5 1 (.slice A m c) m (Lib.byteCells l)
theorem owns_slice {B m : Nat} {w : World} {v : Value} {xs : List Value} (h : w.ownsRow B 5 1 v m xs) : ∃ A c, v = .slice A m c := by
 rcases h.2 with ⟨rfl, rfl⟩ | ⟨g, cap, cur, rfl, _⟩
 ·exact ⟨_, _, O⟩
 exact ⟨_, _, O⟩
theorem OwB.later {B : Nat} {w w' : World} {A : Option Addr} {m c : Nat} {l : List UInt8} (h : OwB B w A m c l) (hb : Below w.heap.size w w') : OwB B w' A m c l := by
 refine ⟨h.1, ?_⟩
 rcases h.2 with h1 | ⟨g, cap, cur, h1, h2, h3, r⟩
 ·exact .inl h1
 exact .inr ⟨g, cap, cur, h1, h2, by rw [hb.block g (Array.getElem?_eq_some_iff.1 h3).1]; exact h3, r⟩
section
variable {N : Nat} {ops : Array Oper} {K : Env → World → Prop} {rest : List Oper} {e : Env} {w0 w w' : World} {ks : List Ck} {d : Nat} {ty : TypeId} {pos : String} {af : Array Edge}
theorem Ops.appW {B m c : Nat} {A : Option Addr} {l : List UInt8} {A1 : Option Addr} {b : UInt8} {x y : Operand} (hO : OwB B w A m c l) (hB : B ≤ w.heap.size) (hR : Rd w A1 1 (fun _ => .int .u8 (b.toNat : Nat))) (hx : ev e x = .slice A m c) (hy : ev e y = .slice A1 1 1) (hm : m ≤ 1000000000) (hb : Nat.blt d N = true)
    (hK : ∀ A2 c2 w', Go.RowKit.Below B w w' → OwB B w' A2 (m + 1) c2 (l ++ [b]) → Ops Tryz.prog N ops K rest (upd e d (.slice A2 (m + 1) c2)) w') :
    Ops Tryz.prog N ops K (⟨some d, .call ⟨.builtin .append, #[x, y], #[30, 30]⟩, ty, pos, af, none⟩ :: rest) e w := by
  obtain ⟨inf, hi, hz0, hs, hby⟩ := Inf.get Tryz.prog 5
  obtain ⟨p, hp, hc⟩ := hR 0 (by omega)
  obtain ⟨a, rfl⟩ : ∃ a, A1 = some a := by cases A1 with | none => simp [ptrAt] at hp | some q => exact ⟨q, rfl⟩
  simp only [ptrAt, Option.map_some, Option.some.injEq] at hp
  obtain ⟨v', w', hr, hO', hg, _⟩ := run_append_own (P := Tryz.prog) (w := w) B 30 ty 5 inf (.int .u8 0) 1 1 Tryz.underlying30 hi hz0 hs hby rfl (by decide) (.slice A m c) m (Lib.byteCells l) hO a 1 1 [.int .u8 (b.toNat : Nat)] rfl
    (fun j u hj => by
      match j, hj with
      | 0, hj => simp at hj; subst hj; rw [hp]; exact hc) (fun u hu => by simp at hu; subst hu; rfl) (by simp only [maxLen]; omega) (by omega) hB
  obtain ⟨A2, c2, rfl⟩ := owns_slice hO'
  refine .val (w' := w') ?_ hb (hK A2 c2 w' ?_ ?_)
  · simp [execOp, resolve, invoke, builtin, hx, hy, hr]
  · exact (Go.RowKit.Below.refl B w).grown hg hB (fun k hk => (hO.lt k hk).1)
  · show w'.ownsRow B 5 1 (.slice A2 (m + 1) c2) (m + 1) (Lib.byteCells (l ++ [b]))
    rw [show Lib.byteCells (l ++ [b]) = Lib.byteCells l ++ [.int .u8 (b.toNat : Nat)] by simp [Lib.byteCells]]
    exact hO'
theorem Ops.convS {B m c : Nat} {A : Option Addr} {l : List UInt8} {x : Operand} (hO : OwB B w A m c l) (hx : ev e x = .slice A m c) (hb : Nat.blt d N = true) (hK : Ops Tryz.prog N ops K rest (upd e d (.string ⟨l.toArray⟩)) w) :
  Ops Tryz.prog N ops K (⟨some d, .convert 30 9 x, ty, pos, af, none⟩ :: rest) e w := by
 have hr : (Conv.bytesToString (.slice A m c)).run Tryz.prog w = .ok (.string ⟨l.toArray⟩) w := by
  have hl : (Lib.byteCells l).length = m * 1 := hO.1
  rcases hO.2 with ⟨h1, h2⟩ | ⟨g, cap, cur, h1, _⟩
  ·simp only [Value.slice.injEq] at h1
   obtain ⟨rfl, rfl, rfl⟩ := h1
   have : l = [] := List.eq_nil_of_length_eq_zero (by rw [Lib.byteCells_length] at hl; omega)
   subst this
   rfl
  simp only [Value.slice.injEq] at h1
  obtain ⟨rfl, _, rfl⟩ := h1
  have h2 := hO.cells (g := g) O
  have h3 := run_loadCells_list (P := Tryz.prog) (w := w) (⟨g, 0, none⟩ : Addr) (Lib.byteCells l) h2
  rw [hl, Nat.mul_one] at h3
  have e1 : Lib.byteCells l = (l.map fun b => ((b.toNat : Nat) : Int)).map (Value.int .u8) := by simp [Lib.byteCells]
  rw [e1] at h3
  rw [run_bytesToString w _ m c _ h3, fold_push]
  simp
 refine .val (w' := w) ?_ hb hK
 simp [execOp, hx, convert, run_underlying Tryz.underlying30, run_underlying Tryz.underlying9, run_underlying Tryz.underlying5, hr]
end
theorem AppendInt_c {B m c : Nat} {A : Option Addr} {l : List UInt8} (x : Int) (w : World) (hx : -9223372036854775808 ≤ x ∧ x ≤ 9223372036854775807) (hO : OwB B w A m c l) (hB : B ≤ w.heap.size) (hm : m ≤ 1000000000) (hT : Lib.TabBelow Tryz.prog B w "internal/strconv.uint64pow10" .u64 Lib.pow10Tab) :
  Ret Tryz.prog 212 [.slice A m c, .int .i64 x, .int .i64 10] w (fun v w' => ∃ A' c', v = .slice A' (m + (Lib.itoa x).length) c' ∧ OwB B w' A' (m + (Lib.itoa x).length) c' (l ++ Lib.itoa x) ∧ Go.RowKit.Below B w w') := by
 have key := Any.strconv_AppendInt_10 lai B m x hx.1 hx.2 (.slice A m c) (Lib.byteCells l) w hO hB (by omega) hT
 refine Calls.mono key fun y w' ⟨v', hy, hO', hb, _⟩ => ⟨_, hy, ?_⟩
 obtain ⟨A2, c2, rfl⟩ := owns_slice hO'
 refine ⟨A2, c2, O, ?_, hb⟩
 show w'.ownsRow B 5 1 (.slice A2 _ c2) _ (Lib.byteCells (l ++ Lib.itoa x))
 rw [Lib.byteCells_append]
 exact hO'
theorem itoa_len (x : Int) (hx : -9223372036854775808 ≤ x ∧ x ≤ 9223372036854775807) : (Lib.itoa x).length ≤ 21 := Lib.itoa_length_le x hx.1 hx.2
theorem keyL_len : ∀ (xs : List Int), (∀ x ∈ xs, -9223372036854775808 ≤ x ∧ x ≤ 9223372036854775807) → (keyL xs).length ≤ 22 * xs.length
 | [], _ => by simp [keyL]
 | x :: xs, h => by
  have h1 := itoa_len x (h x (by simp))
  have h2 := keyL_len xs fun y hy => h y (by simp [hy])
  rw [keyL_cons]
  simp only [List.length_append, List.length_cons]
  omega
theorem keyOf_c (A : Option Addr) (n c : Nat) (xs : List Int) (w : World) (hT : Tab w) (hR : RdI w A n xs) (hx : ∀ x ∈ xs, -9223372036854775808 ≤ x ∧ x ≤ 9223372036854775807) (hn : n ≤ 1000000) :
  Ret Tryz.prog 154 [.slice A n c] w (fun v w' => v = .string (keyB xs) ∧ St w w' []) := by
 have hxl := hR.1
 refine Ret.of_cd Tryz.func154 O Tryz.ntmps154 O (post1 O) ?_
 refine Gbo O (Ops.len O O (Gdc O ?_))
 refine Cd.loop (α := Nat × Option Addr × Nat) (fun s => [(3, .slice s.2.1 (keyL (xs.take s.1)).length s.2.2), (6, .slice A n c), (7, .int .i64 (n : Int)), (8, .int .i64 (s.1 : Int))]) (fun s w' => OwB w.heap.size w' s.2.1 (keyL (xs.take s.1)).length s.2.2 (keyL (xs.take s.1)) ∧ Go.RowKit.Below w.heap.size w w' ∧ s.1 ≤ n) (fun s => n - s.1) (0, none, 0) ⟨O, O, O, O, trivial⟩ ⟨World.ownsRow_nil w _ _ _, Go.RowKit.Below.refl _ _, Nat.zero_le _⟩ ?_
 rintro ⟨i, A3, c3⟩ e w1 ⟨hO, hb1, hi⟩
 dsimp only at hO hb1 hi ⊢
 refine Gbc O ?_
 refine Cd.cond_p _ O (fun h1 => ?_) (fun h1 => ?_)
 ·have hi' : i < xs.length := by omega
  have hR1 : RdI w1 A n xs := hR.later ⟨hb1, fun s => s.elim⟩
  have hT1 : Lib.TabBelow Tryz.prog w.heap.size w1 "internal/strconv.uint64pow10" .u64 Lib.pow10Tab := (Lib.tabBelow_of_tabIs hT).on hb1
  have hxi := hx _ (gi_in hi')
  have hll := keyL_len (xs.take i) fun x hm => hx x (List.mem_of_mem_take hm)
  have hil := itoa_len _ hxi
  rw [List.length_take] at hll
  have hsz := hb1.size
  have htk : keyL (xs.take (i + 1)) = (keyL (xs.take i) ++ Lib.itoa (gi xs (i : Int))) ++ [32] := by rw [take_succ_gi hi', keyL_snoc]
  refine Gao O (Ops.idx hR1.2 O O O (by omega) (by omega) (Ops.ld_int hR1 O (by omega) O O (Gdo O (Ops.call (AppendInt_c (gi xs (i : Int)) _ hxi hO hsz (by omega) hT1) O O O ?_))))
  rintro _ w2 ⟨A4, c4, rfl, hO2, hb2⟩
  have hsz2 := hb2.size
  refine Gdo O (Ops.bs1 (St.refl w2) O O O O ?_)
  intro A5 w3 hS3
  have hO3 := hO2.later hS3.below
  have hb3 : Go.RowKit.Below w.heap.size w2 w3 := hS3.below.toBelow.mono (by omega)
  have hsz3 := hb3.size
  refine Ops.appW (b := 32) hO3 (by omega) (hS3.rd 0 rfl |>.congr fun j hj => by obtain rfl : j = 0 := by { have : j < 1 := hj; omega }; rfl) rfl rfl (by omega) rfl ?_
  intro A6 c6 w4 hb4 hO4
  refine Gdo O (Ops.add O O O (by omega) (Gdn O (tQ ?_)))
  refine ⟨(i + 1, A6, c6), by show n - (i + 1) < n - i; omega, ⟨?_, O, O, O, trivial⟩, ?_, ((hb1.trans hb2).trans hb3).trans hb4, by show i + 1 ≤ n; omega⟩
  ·show Value.slice _ _ _ = .slice _ _ _
   rw [htk]
   simp [Nat.add_assoc]
  show OwB _ w4 A6 (keyL (xs.take (i + 1))).length c6 (keyL (xs.take (i + 1)))
  rw [htk]
  have e1 : ((keyL (xs.take i) ++ Lib.itoa (gi xs (i : Int))) ++ [32]).length = (keyL (xs.take i)).length + (Lib.itoa (gi xs (i : Int))).length + 1 := by simp; omega
  rw [e1]
  exact hO4
 have hin : i = xs.length := by omega
 subst hin
 rw [List.take_length] at hO
 refine Gax O (thenQ_x (Gfo O ?_))
 refine Ops.convS hO (by show Value.slice _ _ _ = .slice _ _ _; rw [List.take_length]) O ?_
 refine Gdr O (ret1_v O ?_)
 exact ⟨rfl, ⟨⟨hb1, fun s => s.elim⟩, fun k hk => (by cases hk), List.nodup_nil⟩⟩
end Go.Proofs.YtopgfgdgfjddpaaGreatDoor.Vc
/-
 Maps of one's own: an entry is deleted; maps of lists of numbers under keys of lists.
-/
namespace Go.Proofs.YtopgfgdgfjddpaaGreatDoor.Vc
open Go.RowKit Go.MapKept
section
variable {κ ν : Type} [DecidableEq κ]
def delA : List (κ × ν) → κ → List (κ × ν)
  | [], _ => []
  | (y, v) :: r, x => if y = x then r else (y, v) :: delA r x
theorem delA_some : ∀ {L : List (κ × ν)} {x : κ} {j : Nat} {v : ν}, fndA L x = some (j, v) → delA L x = L.eraseIdx j
  | (y, w) :: r, x, j, v, h => by
    simp only [fndA] at h
    split at h
    · rename_i e
      simp only [Option.some.injEq, Prod.mk.injEq] at h
      obtain ⟨rfl, rfl⟩ := h
      simp only [delA, if_pos e, List.eraseIdx_zero, List.tail_cons]
    · rename_i e
      cases hf : fndA r x with
      | none => simp [hf] at h
      | some p =>
        simp only [hf, Option.map_some, Option.some.injEq, Prod.mk.injEq] at h
        obtain ⟨rfl, rfl⟩ := h
        simp only [delA, if_neg e, List.eraseIdx_cons_succ, delA_some (L := r) (x := x) (j := p.1) (v := p.2) hf]
theorem delA_none : ∀ {L : List (κ × ν)} {x : κ}, fndA L x = none → delA L x = L
  | [], _, _ => rfl
  | (y, w) :: r, x, h => by
    simp only [fndA] at h
    split at h
    · cases h
    · rename_i e
      rw [Option.map_eq_none_iff] at h
      simp only [delA, if_neg e, delA_none h]
theorem delA_sub : ∀ (L : List (κ × ν)) (x : κ), (delA L x).Sublist L
  | [], _ => .slnil
  | (y, v) :: r, x => by
    simp only [delA]
    split
    · exact (List.Sublist.refl _).cons _
    · exact (delA_sub r x).cons_cons _
theorem getA_not : ∀ {L : List (κ × ν)} {x : κ}, x ∉ L.map (·.1) → getA L x = none
  | [], _, _ => rfl
  | (y, v) :: r, x, h => by
    simp only [List.map_cons, List.mem_cons, not_or] at h
    simp only [getA, if_neg (fun e : y = x => h.1 e.symm), getA_not h.2]
theorem getA_del : ∀ {L : List (κ × ν)} {x y : κ}, (L.map (·.1)).Nodup → getA (delA L x) y = if x = y then none else getA L y
  | [], x, y, _ => by simp [delA, getA]
  | (z, v) :: r, x, y, h => by
    simp only [List.map_cons, List.nodup_cons] at h
    simp only [delA]
    split
    · rename_i e
      subst e
      split
      · rename_i e
        subst e
        exact getA_not h.1
      · rename_i e
        simp only [getA, if_neg e]
    · rename_i e
      simp only [getA, getA_del (L := r) (x := x) (y := y) h.2]
      by_cases e2 : z = y
      · subst e2
        rw [if_pos rfl, if_neg (fun q => e q.symm), if_pos rfl]
      · rw [if_neg e2, if_neg e2]
theorem putA_keys (L : List (κ × ν)) (x : κ) (u : ν) : ∀ y, y ∈ (putA L x u).map (·.1) ↔ y = x ∨ y ∈ L.map (·.1) := by
 induction L with
 | nil => intro y; simp [putA]
 | cons p r ih =>
  obtain ⟨z, w⟩ := p
  intro y
  simp only [putA]
  split
  ·rename_i e; subst e; simp
  ·simp only [List.map_cons, List.mem_cons, ih]
   exact ⟨fun h => by rcases h with h | h | h <;> simp [h], fun h => by rcases h with h | h | h <;> simp [h]⟩
theorem putA_nd : ∀ {L : List (κ × ν)} {x : κ} {u : ν}, (L.map (·.1)).Nodup → ((putA L x u).map (·.1)).Nodup
  | [], x, u, _ => by simp [putA]
  | (z, v) :: r, x, u, h => by
    simp only [List.map_cons, List.nodup_cons] at h
    simp only [putA]
    split
    · rename_i e; subst e
      simp only [List.map_cons, List.nodup_cons]; exact h
    · rename_i e
      simp only [List.map_cons, List.nodup_cons]
      refine ⟨fun hm => ?_, putA_nd h.2⟩
      rcases (putA_keys r x u z).1 hm with h1 | h1
      · exact e h1
      · exact h.1 h1
theorem delA_nd {L : List (κ × ν)} {x : κ} (h : (L.map (·.1)).Nodup) : ((delA L x).map (·.1)).Nodup := h.sublist ((delA_sub L x).map _)
theorem put_del (L : List (κ × ν)) (x : κ) (u : ν) : (putA L x u).Perm ((x, u) :: delA L x) := by
 induction L with
 | nil => exact .refl _
 | cons p r ih =>
  obtain ⟨z, w⟩ := p
  simp only [putA, delA]
  split
  ·rename_i e; exact .refl _
  ·exact (ih.cons _).trans (.swap _ _ _)
theorem get_del : ∀ {L : List (κ × ν)} {x : κ} {u : ν}, getA L x = some u → L.Perm ((x, u) :: delA L x)
  | (z, w) :: r, x, u, h => by
    simp only [getA] at h
    simp only [delA]
    split at h
    · rename_i e
      subst e
      injection h with h
      subst h
      rw [if_pos rfl]
    · rename_i e
      rw [if_neg e]
      exact ((get_del h).cons _).trans (.swap _ _ _)
theorem get_none_del : ∀ {L : List (κ × ν)} {x : κ}, getA L x = none → delA L x = L
  | [], _, _ => rfl
  | (z, w) :: r, x, h => by
    simp only [getA] at h
    simp only [delA]
    split at h
    · cases h
    · rename_i e
      rw [if_neg e, get_none_del h]
end
section
variable {P : Program} {N : Nat} {ops : Array Oper} {K : Env → World → Prop} {rest : List Oper} {e : Env} {w0 w w' : World} {ks : List Ck} {d : Nat} {ty : TypeId} {pos : String} {af : Array Edge}
variable {κ ν : Type} [DecidableEq κ] {kd : TypeDesc} {kv : κ → Value} {vv : ν → Value}
theorem erIdx_map {α β : Type} (f : α → β) : ∀ (l : List α) (j : Nat), (l.eraseIdx j).map f = (l.map f).eraseIdx j
 | [], _ => rfl
 | _ :: _, 0 => rfl
 | a :: r, j + 1 => by simp only [List.eraseIdx_cons_succ, List.map_cons, erIdx_map f r j]
theorem run_del {t kt et T : TypeId} [hU : Und P t (.map kt et)] [hk : Und P kt kd] (KT : KeyT kd kv) {g : Nat} {L : List (κ × ν)} (i : Nat) (x : κ) (kt' : TypeId) (hS : St w0 w ks) (hi : ks[i]? = some (CkM T g (prV kv vv L))) :
  ∃ w', (Builtin.delete_ #[t, kt'] ty #[.map (some g), kv x]).run P w = .ok (.tuple #[]) w' ∧ St w0 w' (ks.set i (CkM T g (prV kv vv (delA L x)))) := by
 obtain ⟨_, es, cl, hh, hm⟩ := hS.ownM i hi
 have hf := findNow_A (vv := vv) KT x es.toList L 0 hm
 have hfk := MapKept.run_findKey (P := P) (w := w) hk.out hf
 cases hfn : fndA L x with
 | none =>
  refine ⟨{ w with heap := w.heap.setIfInBounds g (.map es cl) }, ?_, hS.turnM hi ?_⟩
  ·simp [Builtin.delete_, run_underlying hU.out, MapKept.run_getObj_map hh, MapKept.run_checkKey hk.out (KT.isKey x), hfk, hfn, MapKept.run_setObj_map _ hh, Result.andThen]
  ·rw [delA_none hfn]; exact hm
 | some p =>
  obtain ⟨j, v⟩ := p
  refine ⟨{ w with heap := w.heap.setIfInBounds g (.map (es.eraseIdxIfInBounds j) cl) }, ?_, hS.turnM hi ?_⟩
  ·simp [Builtin.delete_, run_underlying hU.out, MapKept.run_getObj_map hh, MapKept.run_checkKey hk.out (KT.isKey x), hfk, hfn, MapKept.run_setObj_map _ hh, Result.andThen]
  ·rw [delA_some hfn]
   have e1 : (es.eraseIdxIfInBounds j).toList = es.toList.eraseIdx j := by
    unfold Array.eraseIdxIfInBounds
    split
    ·rw [Array.toList_eraseIdx]
    ·rename_i h
     rw [List.eraseIdx_of_length_le (by simpa using h)]
   rw [e1, erIdx_map, hm]
   unfold prV
   rw [erIdx_map]
theorem Ops.dlt {t kt et T kt' : TypeId} {m k : Operand} [hU : Und P t (.map kt et)] [Und P kt kd] (KT : KeyT kd kv) {g : Nat} {L : List (κ × ν)} (i : Nat) {a : κ} (hS : St w0 w ks) (hi : ks[i]? = some (CkM T g (prV kv vv L))) (hm : ev e m = .map (some g)) (hk : ev e k = kv a) (hK : ∀ w', St w0 w' (ks.set i (CkM T g (prV kv vv (delA L a)))) → Ops P N ops K rest e w') : Ops P N ops K (⟨none, .call ⟨.builtin .delete, #[m, k], #[t, kt']⟩, ty, pos, af, none⟩ :: rest) e w := by
 obtain ⟨w', hrun, hS'⟩ := run_del (P := P) (t := t) (ty := ty) KT i a kt' hS hi
 refine .val0 (w' := w') (v := .tuple #[]) ?_ (hK _ hS')
 simp [execOp, resolve, invoke, builtin, hm, hk, hrun]
end
section
variable {P : Program} {N : Nat} {ops : Array Oper} {K : Env → World → Prop} {rest : List Oper} {e : Env} {w0 w w' : World} {ks : List Ck} {d : Nat} {ty : TypeId} {pos : String} {af : Array Edge}
theorem Ops.lookGok {κ ν : Type} [DecidableEq κ] {kd : TypeDesc} {kv : κ → Value} {vv : ν → Value} {t kt et : TypeId} {z v : Value} {s b : Nat} [Und P t (.map kt et)] [Und P kt kd] [Inf P et z s b] (KT : KeyT kd kv) {g : Nat} {L : List (κ × ν)} {m ix : Operand} {x : κ} (hR : RdM w g (prV kv vv L)) (hx : ev e m = .map (some g)) (hy : ev e ix = kv x) (hv : ((getA L x).map vv).getD z = v) (hb : Nat.blt d N = true) (hK : Ops P N ops K rest (upd e d (.tuple #[v, .bool (getA L x).isSome])) w) : Ops P N ops K (⟨some d, .lookup t m ix true, ty, pos, af, none⟩ :: rest) e w := by
 subst hv
 refine .val (w' := w) ?_ hb hK
 have := run_look (P := P) (t := t) (x := x) KT hR true
 simp [execOp, hx, hy, this]
end
/-! lists of numbers under keys that are lists -/
def kyV (l : List Int) : Value := .string (keyB l)
theorem keyLs : KeyT .string kyV := ⟨fun _ => trivial, fun a b h => keyB_inj (by injection h)⟩
abbrev MpE := List Int × SlV × List Int
def mpV (u : SlV × List Int) : Value := u.1.v
def rwM (t : TypeId) (M : List MpE) : List Ck := M.map fun p => CkI t p.2.1.a p.2.1.n p.2.1.c p.2.2
def gmS (M : List MpE) (x : List Int) : SlV := ((getA M x).map (·.1)).getD slNil
def gmX (M : List MpE) (x : List Int) : List Int := ((getA M x).map (·.2)).getD []
section
variable {w0 w w' : World} {ks pre : List Ck} {t : TypeId} {M : List MpE} {x : List Int}
theorem gm_some {u : SlV × List Int} (h : getA M x = some u) : gmS M x = u.1 ∧ gmX M x = u.2 := by simp [gmS, gmX, h]
theorem gm_none (h : getA M x = none) : gmS M x = slNil ∧ gmX M x = [] := by simp [gmS, gmX, h]
theorem St.takeM (h : St w0 w (pre ++ (rwM t M ++ ks))) : St w0 w (CkI t (gmS M x).a (gmS M x).n (gmS M x).c (gmX M x) :: (pre ++ (rwM t (delA M x) ++ ks))) := by
 cases hg : getA M x with
 | none =>
  rw [(gm_none hg).1, (gm_none hg).2, get_none_del hg]
  exact h.nil t
 | some u =>
  rw [(gm_some hg).1, (gm_some hg).2]
  refine h.perm ?_
  have h1 : (rwM t M).Perm (CkI t u.1.a u.1.n u.1.c u.2 :: rwM t (delA M x)) := (get_del hg).map _
  exact ((h1.append_right ks).append_left pre).trans List.perm_middle
theorem St.putM {u : SlV × List Int} (h : St w0 w (CkI t u.1.a u.1.n u.1.c u.2 :: (pre ++ (rwM t (delA M x) ++ ks)))) : St w0 w (pre ++ (rwM t (putA M x u) ++ ks)) := by
 refine h.perm ?_
 have h1 : (CkI t u.1.a u.1.n u.1.c u.2 :: rwM t (delA M x)).Perm (rwM t (putA M x u)) := ((put_del M x u).map fun p : MpE => CkI t p.2.1.a p.2.1.n p.2.1.c p.2.2).symm
 exact List.perm_middle.symm.trans ((h1.append_right ks).append_left pre)
theorem St.rdMx (h : St w0 w (pre ++ (rwM t M ++ ks))) : RdI w (gmS M x).a (gmS M x).n (gmX M x) := (h.takeM (x := x)).rdI 0 rfl
theorem St.delM (h : St w0 w (pre ++ (rwM t M ++ ks))) : St w0 w (pre ++ (rwM t (delA M x) ++ ks)) := h.sub (((((delA_sub M x).map _).append_right ks)).append_left pre)
end
end Go.Proofs.YtopgfgdgfjddpaaGreatDoor.Vc
/-
 Plain mathematics of the program's way to part flags: what its map holds.
-/
namespace Go.Proofs.YtopgfgdgfjddpaaGreatDoor.Vc
def rstP (x : List Int) (i : Nat) : List Int := x.set i (-1)
theorem rst_len (x : List Int) (i : Nat) : (rstP x i).length = x.length := by simp [rstP]
theorem rst_at {x : List Int} {i k : Nat} (hk : k < x.length) : gi (rstP x i) (k : Int) = if k = i then -1 else gi x (k : Int) := by
 rw [gi_mem (by rw [rst_len]; exact hk), gi_mem hk]
 unfold rstP
 rw [List.getElem_set]
 by_cases e : i = k
 ·rw [if_pos e, if_pos e.symm]
 rw [if_neg e, if_neg (fun h => e h.symm)]
theorem rst_same {n : Nat} {x y : List Int} {i : Nat} (hx : x.length = n) (hy : y.length = n) : rstP x i = rstP y i ↔ ∀ k : Nat, k < n → k ≠ i → gi x (k : Int) = gi y (k : Int) := by
 constructor
 ·intro h k hk hne
  have := congrArg (fun l => gi l (k : Int)) h
  simp only [rst_at (x := x) (i := i) (show k < x.length by omega), rst_at (x := y) (i := i) (show k < y.length by omega), if_neg hne] at this
  exact this
 intro h
 refine list_gi (n := n) (by rw [rst_len, hx]) (by rw [rst_len, hy]) fun k hk => ?_
 rw [rst_at (by omega), rst_at (by omega)]
 split
 ·rfl
 rename_i e; exact h k hk e
theorem rst_idx {n : Nat} {x y : List Int} {i j : Nat} (hx : x.length = n) (hy : y.length = n) (hi : i < n) (h0 : ∀ e ∈ y, 0 ≤ e) (h : rstP x i = rstP y j) : i = j := by
 have := congrArg (fun l => gi l (i : Int)) h
 simp only [rst_at (x := x) (i := i) (show i < x.length by omega), rst_at (x := y) (i := j) (show i < y.length by omega), if_pos] at this
 by_cases e : i = j
 ·exact e
 rw [if_neg e] at this
 have h2 := h0 _ (gi_in (show i < y.length by omega))
 omega
theorem gmX_put (M : List MpE) (x l : List Int) (u : SlV × List Int) : gmX (putA M x u) l = if x = l then u.2 else gmX M l := by
 unfold gmX
 rw [getA_put]
 split <;> rfl
theorem gmX_del {M : List MpE} {x l : List Int} (h : (M.map (·.1)).Nodup) : gmX (delA M x) l = if x = l then [] else gmX M l := by
 unfold gmX
 rw [getA_del h]
 split <;> rfl
structure BrP (n : Nat) (fl : List (List Int)) (D : Nat → Nat → Prop) (G : Nat → Prop) (b : Nat) (M : List MpE) : Prop where
 nd : (M.map (·.1)).Nodup
 el : ∀ l y, y ∈ gmX M l → ∃ y' i : Nat, y = (y' : Int) ∧ y' < fl.length ∧ i < n ∧ D y' i ∧ l = rstP (gl fl (y' : Int)) i
 al : ∀ y i : Nat, y < fl.length → i < n → D y i → (y : Int) ∈ gmX M (rstP (gl fl (y : Int)) i) ∨ G y
 len : ∀ l, (gmX M l).length ≤ b
section
variable {n : Nat} {fl : List (List Int)} {D D' : Nat → Nat → Prop} {G G' : Nat → Prop} {b : Nat} {M : List MpE} {c : List Int}
def putD (n : Nat) (fl : List (List Int)) (c : List Int) (f i : Nat) (y j : Nat) : Prop := HasP n c (gl fl (y : Int)) ∧ (y < f ∨ y = f ∧ j < i)
theorem BrP.zero : BrP n fl (putD n fl c 0 0) (fun _ => False) 0 [] := ⟨by simp, fun l y h => by simp [gmX, getA] at h, fun y i _ _ h => by have := h.2; omega, fun l => by simp [gmX, getA]⟩
theorem BrP.congr (h : BrP n fl D G b M) (hD : ∀ y i, y < fl.length → i < n → (D y i ↔ D' y i)) : BrP n fl D' G b M :=
 ⟨h.nd, fun l y hy => by obtain ⟨y', i, h1, h2, h3, h4, h5⟩ := h.el l y hy; exact ⟨y', i, h1, h2, h3, (hD y' i h2 h3).1 h4, h5⟩, fun y i hy hi hd => h.al y i hy hi ((hD y i hy hi).2 hd), h.len⟩
theorem BrP.more (h : BrP n fl D G b M) {b' : Nat} (hb : b ≤ b') : BrP n fl D G b' M := ⟨h.nd, h.el, h.al, fun l => Nat.le_trans (h.len l) hb⟩
theorem BrP.skip {f : Nat} (h : BrP n fl (putD n fl c f 0) G b M) (hf : ¬ HasP n c (gl fl (f : Int))) : BrP n fl (putD n fl c (f + 1) 0) G b M :=
 h.congr fun y i _ _ => ⟨fun h => ⟨h.1, by have := h.2; omega⟩, fun h => ⟨h.1, by
  have h2 := h.2
  have : y ≠ f := fun e => hf (e ▸ h.1)
  omega⟩⟩
theorem BrP.row {f : Nat} (h : BrP n fl (putD n fl c f n) G b M) : BrP n fl (putD n fl c (f + 1) 0) G b M :=
 h.congr fun y i _ hi => ⟨fun h => ⟨h.1, by have := h.2; omega⟩, fun h => ⟨h.1, by have := h.2; omega⟩⟩
theorem BrP.put {f i : Nat} (h : BrP n fl (putD n fl c f i) G b M) (hf : f < fl.length) (hi : i < n) (hH : HasP n c (gl fl (f : Int))) (s : SlV) :
  BrP n fl (putD n fl c f (i + 1)) G (b + 1) (putA M (rstP (gl fl (f : Int)) i) (s, gmX M (rstP (gl fl (f : Int)) i) ++ [(f : Int)])) := by
 refine ⟨putA_nd h.nd, fun l y hy => ?_, fun y j hy hj hd => ?_, fun l => ?_⟩
 ·rw [gmX_put] at hy
  split at hy
  ·rename_i e
   rcases List.mem_append.1 hy with hy | hy
   ·obtain ⟨y', j, h1, h2, h3, h4, h5⟩ := h.el _ y hy
    exact ⟨y', j, h1, h2, h3, ⟨h4.1, by have := h4.2; omega⟩, e.symm.trans h5⟩
   exact ⟨f, i, List.mem_singleton.1 hy, hf, hi, ⟨hH, .inr ⟨O, Nat.lt_succ_self _⟩⟩, e.symm⟩
  obtain ⟨y', j, h1, h2, h3, h4, h5⟩ := h.el _ y hy
  exact ⟨y', j, h1, h2, h3, ⟨h4.1, by have := h4.2; omega⟩, h5⟩
 ·rw [gmX_put]
  by_cases e : y = f ∧ j = i
  ·obtain ⟨rfl, rfl⟩ := e
   rw [if_pos rfl]
   exact .inl (List.mem_append_right _ (by simp))
  rcases h.al y j hy hj ⟨hd.1, by have := hd.2; omega⟩ with h1 | h1
  ·left
   split
   ·rename_i e2; rw [e2]; exact List.mem_append_left _ h1
   exact h1
  exact .inr h1
 rw [gmX_put]
 split
 ·rename_i e; have := h.len (rstP (gl fl (f : Int)) i); rw [List.length_append]; simp; omega
 have := h.len l; omega
theorem BrP.mono (h : BrP n fl D G b M) (hG : ∀ y, y < fl.length → G y → G' y) : BrP n fl D G' b M :=
 ⟨h.nd, h.el, fun y i hy hi hd => (h.al y i hy hi hd).imp id (hG y hy), h.len⟩
theorem BrP.del (h : BrP n fl D G b M) {x : List Int} (hx : ∀ y : Nat, (y : Int) ∈ gmX M x → G y) : BrP n fl D G b (delA M x) := by
 refine ⟨delA_nd h.nd, fun l y hy => ?_, fun y i hy hi hd => ?_, fun l => ?_⟩
 ·rw [gmX_del h.nd] at hy
  split at hy
  ·cases hy
  exact h.el l y hy
 ·rcases h.al y i hy hi hd with h1 | h1
  ·rw [gmX_del h.nd]
   split
   ·rename_i e
    rw [← e] at h1
    exact .inr (hx y h1)
   exact .inl h1
  exact .inr h1
 rw [gmX_del h.nd]
 split
 ·exact Nat.zero_le _
 exact h.len l
theorem BrP.adj {N : Nat} (h : BrP n fl (fun y _ => HasP n c (gl fl (y : Int))) G b M) (hl : ∀ x ∈ fl, x.length = n ∧ ∀ e ∈ x, 0 ≤ e) {x i : Nat} (hx : x < fl.length) (hi : i < n) (hH : HasP n c (gl fl (x : Int))) {y : Int} (hy : y ∈ gmX M (rstP (gl fl (x : Int)) i)) : ∃ y' : Nat, y = y' ∧ y' < fl.length ∧ AdH n fl c x y' := by
 obtain ⟨y', j, h1, h2, h3, h4, h5⟩ := h.el _ y hy
 have hm : ∀ z : Nat, z < fl.length → gl fl (z : Int) ∈ fl := fun z hz => by rw [gl_mem hz]; exact List.getElem_mem _
 have hlx := hl _ (hm x hx); have hly := hl _ (hm y' h2)
 have e : i = j := rst_idx hlx.1 hly.1 hi hly.2 h5
 subst e
 exact ⟨y', h1, h2, hH, h4, i, hi, hx, h2, fun k hk hne => (rst_same hlx.1 hly.1).1 h5 k hk hne⟩
end
theorem cmn_has {n : Nat} {c x : List Int} (hc : c.length = n) : cmnP c x = c ↔ HasP n c x := by
 constructor
 ·intro h k hk hne
  have := congrArg (fun l => gi l (k : Int)) h
  simp only [cmnP_at (a := c) (b := x) (show k < c.length by omega)] at this
  by_cases e : gi c (k : Int) = gi x (k : Int)
  ·exact e
  rw [if_neg e] at this; exact absurd this.symm hne
 intro h
 refine list_gi (n := n) (by rw [cmnP_len, hc]) hc fun k hk => ?_
 rw [cmnP_at (by omega)]
 split
 ·rfl
 rename_i e
 refine Classical.byContradiction fun h2 => e (h k hk fun h3 => h2 h3.symm)
/-! the flags that have what is common, one after the other -/
def alF (n : Nat) (fl : List (List Int)) (c : List Int) (f : Nat) : List Int := (rngI f).filter fun y => decide (HasP n c (gl fl y))
theorem alF_next {n : Nat} {fl : List (List Int)} {c : List Int} {f : Nat} : alF n fl c (f + 1) = if HasP n c (gl fl (f : Int)) then alF n fl c f ++ [(f : Int)] else alF n fl c f := by
 have : rngI (f + 1) = rngI f ++ [(f : Int)] := by
  unfold rngI
  rw [List.range_succ, List.map_append]; rfl
 unfold alF
 rw [this, List.filter_append]
 by_cases c : HasP n c (gl fl (f : Int))
 ·rw [if_pos c]; simp [c]
 rw [if_neg c]; simp [c]
theorem alF_mem {n : Nat} {fl : List (List Int)} {c : List Int} {f : Nat} {y : Int} : y ∈ alF n fl c f ↔ (0 ≤ y ∧ y < f) ∧ HasP n c (gl fl y) := by
 unfold alF
 rw [List.mem_filter, rngI_mem, decide_eq_true_eq]
def bndA (N : Nat) (al : List Int) (j : Nat) : Nat := if j < al.length then (gi al (j : Int)).toNat else N
theorem LblP.jump {N : Nat} {K : Nat → Nat → Prop} (hK : Per N K) {L : List Int} : ∀ (d f : Nat), LblP N K f L → f + d ≤ N → (∀ x, f ≤ x → x < f + d → ¬ K x x) → LblP N K (f + d) L
 | 0, f, h, _, _ => h
 | d + 1, f, h, hn, hx => by
  have h1 := h.skip hK (by omega) (.inr (hx f (Nat.le_refl _) (by omega)))
  have := LblP.jump hK d (f + 1) h1 (by omega) fun x h2 h3 => hx x (by omega) (by omega)
  rwa [show f + 1 + d = f + (d + 1) by omega] at this
section
variable {n : Nat} {fl : List (List Int)} {c : List Int} {L : List Int}
theorem alF_SA (f : Nat) : SA (alF n fl c f) := List.Pairwise.filter _ (rngI_SA _)
theorem bnd_le {j : Nat} : bndA fl.length (alF n fl c fl.length) j ≤ fl.length := by
 unfold bndA
 split
 ·rename_i h
  have := (alF_mem.1 (gi_in h)).1
  omega
 exact Nat.le_refl _
theorem lbl_first (h : LblP fl.length (LkH n fl c) 0 L) : LblP fl.length (LkH n fl c) (bndA fl.length (alF n fl c fl.length) 0) L := by
 have hle := bnd_le (n := n) (fl := fl) (c := c) (j := 0)
 have := h.jump (LkH.per n fl c) (bndA fl.length (alF n fl c fl.length) 0) 0 (by omega) fun x _ hx hk => by
  have hm : (x : Int) ∈ alF n fl c fl.length := alF_mem.2 ⟨by omega, hk.1⟩
  obtain ⟨p, hp, e⟩ := List.mem_iff_getElem.1 hm
  rw [← gi_mem hp] at e
  unfold bndA at hx
  rw [if_pos (by omega)] at hx
  by_cases e0 : p = 0
  ·subst e0; omega
  have := (alF_SA (n := n) (fl := fl) (c := c) fl.length).lt' (show 0 < p by omega) hp
  omega
 rwa [Nat.zero_add] at this
theorem lbl_next {j : Nat} (hj : j < (alF n fl c fl.length).length) {f : Nat} (hf : gi (alF n fl c fl.length) (j : Int) = f) (h : LblP fl.length (LkH n fl c) (f + 1) L) : LblP fl.length (LkH n fl c) (bndA fl.length (alF n fl c fl.length) (j + 1)) L := by
 have hle := bnd_le (n := n) (fl := fl) (c := c) (j := j + 1)
 have hfN := (alF_mem.1 (gi_in hj)).1
 have hge : f + 1 ≤ bndA fl.length (alF n fl c fl.length) (j + 1) := by
  unfold bndA
  split
  ·rename_i h2
   have := (alF_SA (n := n) (fl := fl) (c := c) fl.length).lt' (show j < j + 1 by omega) h2
   omega
  omega
 have := h.jump (LkH.per n fl c) (bndA fl.length (alF n fl c fl.length) (j + 1) - (f + 1)) (f + 1) (by omega) fun x hx0 hx hk => by
  have hm : (x : Int) ∈ alF n fl c fl.length := alF_mem.2 ⟨by omega, hk.1⟩
  obtain ⟨p, hp, e⟩ := List.mem_iff_getElem.1 hm
  rw [← gi_mem hp] at e
  have hpj : j < p := by
   rcases Nat.lt_trichotomy j p with h2 | h2 | h2
   ·exact h2
   ·subst h2; omega
   have := (alF_SA (n := n) (fl := fl) (c := c) fl.length).lt' h2 hj
   omega
  unfold bndA at hx
  rw [if_pos (by omega)] at hx
  by_cases e0 : p = j + 1
  ·subst e0; omega
  have := (alF_SA (n := n) (fl := fl) (c := c) fl.length).lt' (show j + 1 < p by omega) hp
  omega
 rwa [show f + 1 + (bndA fl.length (alF n fl c fl.length) (j + 1) - (f + 1)) = bndA fl.length (alF n fl c fl.length) (j + 1) by omega] at this
end
end Go.Proofs.YtopgfgdgfjddpaaGreatDoor.Vc
/-
 The program's way to part flags, walked. Conditions: the library's table of powers of ten holds what the program's text lays there.
-/
namespace Go.Proofs.YtopgfgdgfjddpaaGreatDoor.Vc
open Go.RowKit
theorem rest_c (PB A : Option Addr) (N c n : Nat) (rs : List SlV) (fl : List (List Int)) (f i : Nat) (w : World) (hT : Tab w) (hb : Rd w PB 1 (fun _ => .slice A N c)) (hM : RowsI w A N rs fl) (hf : f < N) (hN : N ≤ 1000) (hl : (gl fl (f : Int)).length = n) (hi : i < n) (hn : n ≤ 100) (hr : ∀ x ∈ gl fl (f : Int), 0 ≤ x ∧ x ≤ 1000000) :
  Ret Tryz.prog 213 [.int .i64 f, .int .i64 i, .pointer PB] w (fun v w' => v = kyV (rstP (gl fl (f : Int)) i) ∧ St w w' []) := by
 have hfl := hM.len
 have hro := hM.at_ (i := (f : Int)) (by omega) (by omega)
 have hrn := hro.1
 refine Ret.of_cd Tryz.func213 O Tryz.ntmps213 O (post1 O) (Gbo O (Ops.ldf_s (j := 0) hb (by exact congrArg Value.pointer (ptrAt_zero _).symm) O O O O (Gdo O (Ops.idx hM.top.2 O O O (by omega) (by omega) (Ops.ld_sl hM.top O (by omega) O O (Ops.call (Clone_c _ _ _ _ _ hro (by omega)) O O O ?_))))))
 rintro _ w1 ⟨A6, c6, rfl, hS⟩
 refine Gdo O (Ops.idx (hS.rdI 0 O).2 O O O (by omega) (by omega) (Ops.st_int 0 hS O O O (by omega) ?_))
 intro w2 hS2
 have hS2 : St w w2 [CkI 2 A6 (rg rs (f : Int)).n c6 (rstP (gl fl (f : Int)) i)] := hS2
 refine Gdo O ?_
 refine Ops.call (keyOf_c A6 _ c6 (rstP (gl fl (f : Int)) i) _ (hT.later hS2.below) (hS2.rdI 0 O) (fun x hx => by
  rcases List.mem_or_eq_of_mem_set hx with h | h
  ·have := hr x h; omega
  omega) (by omega)) rfl rfl rfl ?_
 rintro _ w3 ⟨rfl, hst⟩
 refine Gdr O (ret1_v O ?_)
 exact ⟨O, hS2.none.later hst.below⟩
abbrev ptK (PB A : Option Addr) (N c : Nat) (A22 : Option Addr) (L : List Int) (Aa : Option Addr) (ca : Nat) (al : List Int) (g : Nat) (M : List MpE) (ks : List Ck) : List Ck :=
 CkI 2 A22 N N L :: Bx 22 1 PB [.slice A N c] :: CkI 2 Aa al.length ca al :: CkM 132 g (prV kyV mpV M) :: (rwM 2 M ++ ks)
def intL (Q : List Nat) : List Int := Q.map fun x : Nat => (x : Int)
theorem intL_at {Q : List Nat} {k : Nat} (h : k < Q.length) : gi (intL Q) (k : Int) = (Q.getD k 0 : Nat) := by
 rw [gi_mem (by simp [intL, h])]
 simp [intL, List.getD_eq_getElem?_getD, h]
theorem getD_app {Q : List Nat} {k y : Nat} (h : k < Q.length) : (Q ++ [y]).getD k 0 = Q.getD k 0 := by
 rw [List.getD_eq_getElem?_getD, List.getElem?_append_left h, ← List.getD_eq_getElem?_getD]
theorem intL_drop_app {Q : List Nat} {k y : Nat} (h : k ≤ Q.length) : intL ((Q ++ [y]).drop k) = intL (Q.drop k) ++ [(y : Int)] := by
 rw [List.drop_append_of_le_length h]; simp [intL]
theorem gi_set_ge {L : List Int} {y f : Nat} {z : Nat} (h : 0 ≤ gi L (z : Int)) : 0 ≤ gi (L.set y (f : Int)) (z : Int) := by
 simp only [gi, Int.toNat_natCast, List.getD_eq_getElem?_getD, List.getElem?_set] at h ⊢
 split
 ·split
  ·simp
  exact Int.le_refl _
 exact h
theorem gi_set_eq {L : List Int} {y f : Nat} (h : y < L.length) : gi (L.set y (f : Int)) (y : Int) = f := by
 rw [gi_mem (by simpa using h)]; simp
set_option maxHeartbeats 4000000 in
theorem partsWith_c (A : Option Addr) (N c : Nat) (rs : List SlV) (fl : List (List Int)) (n : Nat) (A2 : Option Addr) (c2 : Nat) (cm : List Int) (w : World) (hT : Tab w) (hM : RowsI w A N rs fl) (hC : RdI w A2 n cm) (hN : N ≤ 401) (hn : n ≤ 5) (hl : ∀ x ∈ fl, x.length = n ∧ ∀ e ∈ x, 0 ≤ e ∧ e ≤ 1000000) (hnd : fl.Nodup) :
  Ret Tryz.prog 155 [.slice A N c, .slice A2 n c2] w (fun v w' => ∃ A' L, v = .slice A' N N ∧ LblP N (LkH n fl cm) N L ∧ St w w' [CkI 2 A' N N L]) := by
 have hfl := hM.len
 have hcl := hC.1
 have hgm : ∀ f : Nat, f < N → gl fl (f : Int) ∈ fl := fun f hf => by rw [gl_mem (by omega)]; exact List.getElem_mem _
 have hl' : ∀ x ∈ fl, x.length = n ∧ ∀ e ∈ x, 0 ≤ e := fun x hx => ⟨(hl x hx).1, fun e he => ((hl x hx).2 e he).1⟩
 have hll : ∀ x ∈ fl, x.length = n := fun x hx => (hl x hx).1
 refine Ret.of_cd Tryz.func155 O Tryz.ntmps155 O (post1 O) (Gbo O ?_)
 refine Ops.box (v := .slice A N c) (St.refl w) O O (by show (1 : Nat) ≤ maxLen; simp [maxLen]) ?_
 intro PB w1 hS1
 have hb1 : Rd w1 PB 1 (fun _ => .slice A N c) := Rd.one (hS1.rd 0 O)
 refine Gdo O (Ops.bs1I (i := -1) hS1 O O O ?_)
 intro A19 w2 hS2
 have hb1 : Rd w2 PB 1 (fun _ => .slice A N c) := Rd.one (hS2.rd 1 O)
 refine Ops.ldf_s (j := 0) hb1 (by exact congrArg Value.pointer (ptrAt_zero _).symm) O O O O (Ops.len O O (Ops.call (Repeat_c A19 1 (-1) N _ (hS2.rdI 0 O) (by omega)) O O O ?_))
 rintro _ w3 ⟨A22, rfl, hst⟩
 have hS3 := hS2.call hst
 clear hst
 refine Gdo O (Ops.mkmap hS3 O ?_)
 intro g w4 hS4
 have hb1 : Rd w4 PB 1 (fun _ => .slice A N c) := Rd.one (hS4.rd 3 O)
 refine Gdo O (Ops.fn1 O O (Gdo O (Ops.ldf_s (j := 0) hb1 (by exact congrArg Value.pointer (ptrAt_zero _).symm) O O O O (Ops.call (sizeR_c _ _ _ _) O O O ?_))))
 rintro _ w4 ⟨rfl, rfl⟩
 have hS5 : St w w4 [CkI 2 none 0 0 [], CkM 132 g [], CkI 2 A22 N N (List.replicate N (-1)), CkI 2 A19 1 1 [-1], Bx 22 1 PB [.slice A N c]] := hS4.nil 2
 have hS5 : St w w4 (ptK PB A N c A22 (List.replicate N (-1)) none 0 (alF n fl cm 0) g [] []) := by
  have h9 := hS5.perm (show List.Perm _ (CkI 2 A19 1 1 [-1] :: ptK PB A N c A22 (List.replicate N (-1)) none 0 (alF n fl cm 0) g [] []) from by
   classical
   refine List.perm_iff_count.2 fun z => ?_
   simp only [ptK, rwM, List.map_nil, List.count_append, List.count_cons, List.count_nil, alF, rngI, List.range_zero, List.filter_nil, List.length_nil]
   have : prV kyV mpV ([] : List MpE) = [] := O
   rw [this]
   omega)
  exact h9.tail
 clear hS4 hS3 hS2 hS1 hb1
 refine Gdc O ?_
 refine Cd.loop (α := Nat × Option Addr × Nat × List MpE) (fun z => [(1, .slice A2 n c2), (2, .pointer PB), (5, .slice A22 N N), (6, .map (some g)), (7, .func (.func 213) #[] #[.pointer PB]), (8, .slice z.2.1 (alF n fl cm z.1).length z.2.2.1), (26, .int .i64 (N : Int)), (27, .int .i64 (z.1 : Int))]) (fun z w' => z.1 ≤ N ∧ BrP n fl (putD n fl cm z.1 0) (fun _ => False) (5 * z.1) z.2.2.2 ∧ St w w' (ptK PB A N c A22 (List.replicate N (-1)) z.2.1 z.2.2.1 (alF n fl cm z.1) g z.2.2.2 [])) (fun z => N - z.1) (0, none, 0, []) ⟨O, O, O, O, O, O, O, O, trivial⟩ ⟨Nat.zero_le _, BrP.zero, hS5⟩ ?_
 clear hS5
 rintro ⟨f, Aa, ca, M⟩ e w5 ⟨hf, hBr, hS⟩
 dsimp only at hf hBr hS ⊢
 have hall : (alF n fl cm f).length ≤ 500 := by
  refine Nat.le_trans (List.length_filter_le _ _) ?_
  rw [rngI, List.length_map, List.length_range]; omega
 refine Gbc O ?_
 refine Cd.cond_p _ O (fun h1 => ?_) (fun h1 => ?_)
 ·have hfN : f < N := by omega
  have hb1 : Rd w5 PB 1 (fun _ => .slice A N c) := Rd.one (hS.rd 1 O)
  have hM5 := hS.oldRows hM
  have hro := hM5.at_ (i := (f : Int)) (by omega) (by omega)
  have hrn := hro.1
  have hlf := hl _ (hgm f hfN)
  have hnn : (rg rs (f : Int)).n = n := by omega
  have hch := cmn_has (n := n) (c := cm) (x := gl fl (f : Int)) hcl
  have hanx := alF_next (n := n) (fl := fl) (c := cm) (f := f)
  refine Gao O (Ops.ldf_s (j := 0) hb1 (by exact congrArg Value.pointer (ptrAt_zero _).symm) O O O O (Gdo O (Ops.idx hM5.top.2 O O O (by omega) (by omega) (Ops.ld_sl hM5.top O (by omega) O O (Ops.call (commonOf_c A2 (rg rs (f : Int)).a n c2 (rg rs (f : Int)).n (rg rs (f : Int)).c cm (gl fl (f : Int)) _ (hS.oldI hC) hro hnn.symm (by omega)) O O O ?_)))))
  rintro _ w6 ⟨A35, c35, rfl, hst⟩
  have hS6 := hS.later hst.below
  have hC6 := hS6.oldI hC
  have h35 := hst.rdI 0 O
  clear hst hS hb1 hM5 hro
  refine Gdo O ?_
  refine Ops.call (Equal_c A35 _ c35 (cmnP cm (gl fl (f : Int))) A2 n c2 cm _ h35 hC6 (by rw [cmnP_len]; omega)) O O O ?_
  rintro _ w7 ⟨rfl, hst⟩
  have hS7 := hS6.later hst.below
  clear hst hS6 h35 hC6
  first | refine Ops.not_p rfl rfl ?_ | refine Ops.not rfl rfl ?_
  refine Gdc O ?_
  refine Cd.cond_p _ O (fun h2 => ?_) (fun h2 => ?_)
  ·have hno : ¬ HasP n cm (gl fl (f : Int)) := fun h => h2 (hch.2 h)
   rw [if_neg hno] at hanx
   refine Gao O (Ops.add O O O (by omega) (Gdn O (tQ ?_)))
   refine ⟨(f + 1, Aa, ca, M), by show N - (f + 1) < N - f; omega, ⟨O, O, O, O, O, ?_, O, O, trivial⟩, by show f + 1 ≤ N; omega, (hBr.skip hno).more (by show 5 * f ≤ 5 * (f + 1); omega), ?_⟩
   ·show Value.slice _ _ _ = _
    rw [hanx]
   show St w w7 (ptK _ _ _ _ _ _ _ _ (alF n fl cm (f + 1)) _ _ _)
   rw [hanx]; exact hS7
  have hyes : HasP n cm (gl fl (f : Int)) := hch.1 (Classical.not_not.1 h2)
  rw [if_pos hyes] at hanx
  refine Gao O (Ops.bs1I hS7 O O O ?_)
  intro A9 w8 hS8
  refine Ops.appI 3 hS8 O (hS8.rdI 0 O) O O O (by omega) (by omega) O ?_
  intro AZ cZ w9 hS9
  have hS9 : St w w9 (ptK PB A N c A22 (List.replicate N (-1)) AZ cZ (alF n fl cm (f + 1)) g M []) := by
   have h9 := hS9.tail
   rw [hanx]
   show St w w9 (_ :: _ :: CkI _ AZ ((alF n fl cm f ++ [(f : Int)]).length) cZ _ :: _)
   rw [List.length_append]
   exact h9
  have hfl1 : (alF n fl cm f).length + 1 = (alF n fl cm (f + 1)).length := by rw [hanx, List.length_append]; rfl
  clear hS8 hS7
  refine Gdo O (Ops.len O O (Gdc O ?_))
  refine Cd.loop (α := Nat × List MpE) (fun z => [(1, .slice A2 n c2), (2, .pointer PB), (5, .slice A22 N N), (6, .map (some g)), (7, .func (.func 213) #[] #[.pointer PB]), (8, .slice AZ (alF n fl cm (f + 1)).length cZ), (26, .int .i64 (N : Int)), (27, .int .i64 (f : Int)), (9, .int .i64 (f : Int)), (44, .int .i64 (n : Int)), (45, .int .i64 (z.1 : Int))]) (fun z w' => z.1 ≤ n ∧ BrP n fl (putD n fl cm f z.1) (fun _ => False) (5 * f + z.1) z.2 ∧ St w w' (ptK PB A N c A22 (List.replicate N (-1)) AZ cZ (alF n fl cm (f + 1)) g z.2 [])) (fun z => n - z.1) (0, M) ⟨O, O, O, O, O, congrArg (fun m => Value.slice AZ m cZ) hfl1, O, O, O, O, O, trivial⟩ ⟨Nat.zero_le _, hBr, hS9⟩ ?_
  clear hS9 hBr
  rintro ⟨i, M⟩ e w10 ⟨hi, hBr, hS⟩
  dsimp only at hi hBr hS ⊢
  refine Gbc O ?_
  refine Cd.cond_p _ O (fun h3 => ?_) (fun h3 => ?_)
  ·have hin : i < n := by omega
   refine Gao O (Ops.call (rest_c PB A N c n rs fl f i _ (hT.later hS.below) (Rd.one (hS.rd 1 O)) (hS.oldRows hM) hfN (by omega) hlf.1 hin (by omega) hlf.2) O O O ?_)
   rintro _ w11 ⟨rfl, hst⟩
   have hS := hS.later hst.below
   have hlen := hBr.len (rstP (gl fl (f : Int)) i)
   have hput := hBr.put (by omega) hin hyes
   generalize hkx : rstP (gl fl (f : Int)) i = kx at *
   have hrx := (St.rdMx (pre := [_, _, _, _]) (x := kx) hS).1
   clear hst
   refine Gdo O ?_
   refine Ops.look (v := .slice (gmS M kx).a (gmS M kx).n (gmS M kx).c) keyLs (hS.rdM 3 rfl) rfl rfl (by unfold gmS; cases getA M kx <;> rfl) rfl ?_
   refine Gdo O (Ops.bs1I hS O O O ?_)
   intro A9 w12 hS12
   have hS12 := St.takeM (pre := [_, _, _, _, _]) (x := kx) hS12
   refine Ops.appI 0 hS12 O (hS12.rdI 1 O) O O O (by omega) (by omega) O ?_
   intro AY cY w13 hS13
   refine Ops.upm O keyLs 5 (a := kx) (u := (⟨AY, (gmS M kx).n + 1, cY⟩, gmX M kx ++ [(f : Int)])) hS13 O O O O ?_
   intro w14 hS14
   have hS15 := (St.putM (M := M) (x := kx) (u := (⟨AY, (gmS M kx).n + 1, cY⟩, gmX M kx ++ [(f : Int)])) (pre := [_, _, _, _, _]) hS14).tail
   refine Gdo O (Ops.add O O O (by omega) (Gdn O (tQ ?_)))
   exact ⟨(i + 1, putA M kx (⟨AY, (gmS M kx).n + 1, cY⟩, gmX M kx ++ [(f : Int)])), by show n - (i + 1) < n - i; omega, ⟨O, O, O, O, O, O, O, O, O, O, O, trivial⟩, by show i + 1 ≤ n; omega, hput _, hS15⟩
  obtain rfl : i = n := by omega
  refine Gax O (thenQ_x (Gfo O (Ops.add O O O (by omega) (Gdn O (tQ ?_)))))
  exact ⟨(f + 1, AZ, cZ, M), by show N - (f + 1) < N - f; omega, ⟨O, O, O, O, O, O, O, O, trivial⟩, by show f + 1 ≤ N; omega, hBr.row.more (by show 5 * f + i ≤ 5 * (f + 1); omega), hS⟩
 obtain rfl : f = N := by omega
 subst hfl
 have hPer := LkH.per n fl cm
 have hBr : BrP n fl (fun y _ => HasP n cm (gl fl (y : Int))) (fun y => 0 ≤ gi (List.replicate fl.length (-1 : Int)) (y : Int)) 2005 M := ((hBr.congr fun y i hy hi => ⟨fun h => h.1, fun h => ⟨h, .inl hy⟩⟩).mono fun y _ h => h.elim).more (by omega)
 have hL0 := lbl_first (n := n) (fl := fl) (c := cm) (LblP.zero fl.length (LkH n fl cm))
 have hnx := fun (L : List Int) (j f : Nat) (hj : j < (alF n fl cm fl.length).length) (hf : gi (alF n fl cm fl.length) (j : Int) = f) h => lbl_next (n := n) (fl := fl) (c := cm) (L := L) hj hf h
 have hmem := fun y : Int => alF_mem (n := n) (fl := fl) (c := cm) (f := fl.length) (y := y)
 generalize alF n fl cm fl.length = al at *
 refine Gax O (thenQ_x (Gfo O (Ops.len O O (Gdc O ?_))))
 refine Cd.loop (α := Nat × List Int × List MpE) (fun z => [(1, .slice A2 n c2), (2, .pointer PB), (5, .slice A22 fl.length fl.length), (6, .map (some g)), (7, .func (.func 213) #[] #[.pointer PB]), (62, .slice Aa al.length ca), (63, .int .i64 (al.length : Int)), (64, .int .i64 (z.1 : Int))]) (fun z w' => z.1 ≤ al.length ∧ LblP fl.length (LkH n fl cm) (bndA fl.length al z.1) z.2.1 ∧ BrP n fl (fun y _ => HasP n cm (gl fl (y : Int))) (fun y => 0 ≤ gi z.2.1 (y : Int)) 2005 z.2.2 ∧ St w w' (ptK PB A fl.length c A22 z.2.1 Aa ca al g z.2.2 [])) (fun z => al.length - z.1) (0, List.replicate fl.length (-1), M) ⟨O, O, O, O, O, O, O, O, trivial⟩ ⟨Nat.zero_le _, hL0, hBr, hS⟩ ?_
 clear hS hBr hL0 hf h1
 rintro ⟨j, L0, M⟩ e w6 ⟨hj, hL0, hBr, hS⟩
 dsimp only at hj hL0 hBr hS ⊢
 refine Gbc O ?_
 refine Cd.cond_p _ O (fun h1 => ?_) (fun h1 => ?_)
 ·have hja : j < al.length := by omega
  have hfm := (hmem _).1 (gi_in hja)
  obtain ⟨f, hf⟩ : ∃ f : Nat, gi al (j : Int) = f := ⟨(gi al (j : Int)).toNat, by omega⟩
  have hbd : bndA fl.length al j = f := by unfold bndA; rw [if_pos hja, hf]; rfl
  rw [hf] at hfm
  rw [hbd] at hL0
  have hLl := hL0.1
  have hKf : LkH n fl cm f f := ⟨hfm.2, .refl (by omega)⟩
  have hRL := hS.rdI 0 O
  refine Gao O (Ops.idx (hS.rdI 2 O).2 O O O (by omega) (by omega) (Ops.ld_int (hS.rdI 2 O) O (by omega) O O (Gdo O ?_)))
  rw [hf]
  refine Ops.idx hRL.2 O O O (by omega) (by omega) (Ops.ld_int hRL O (by omega) O O (Gdc O ?_))
  refine Cd.cond_p _ O (fun h2 => ?_) (fun h2 => ?_)
  ·refine Gao O (Ops.add O O O (by omega) (Gdn O (tQ ?_)))
   exact ⟨(j + 1, L0, M), by show al.length - (j + 1) < al.length - j; omega, ⟨O, O, O, O, O, O, O, O, trivial⟩, by show j + 1 ≤ al.length; omega, hnx _ j f hja hf (hL0.skip hPer (by omega) (.inl h2)), hBr, hS⟩
  have h0 : gi L0 (f : Int) < 0 := by omega
  refine Gao O (Ops.idx hRL.2 O O O (by omega) (by omega) (Ops.st_int 0 hS O O O (by omega) ?_))
  intro w7 hS7
  have hS7 : St w w7 (ptK PB A fl.length c A22 (L0.set f (f : Int)) Aa ca al g M []) := hS7
  refine Gdo O (Ops.bs1I hS7 O O O ?_)
  intro Ao w8 hS8
  have hSr := Srch.start (A := AdH n fl cm) hLl (show f < fl.length by omega) h0 hKf
  have hBr := hBr.mono (G' := fun y => 0 ≤ gi (L0.set f (f : Int)) (y : Int)) fun y _ h => gi_set_ge h
  refine Gdc O ?_
  refine Cd.loop (α := Nat × List Int × List Nat × Option Addr × Nat × List MpE) (fun z => [(1, .slice A2 n c2), (2, .pointer PB), (5, .slice A22 fl.length fl.length), (6, .map (some g)), (7, .func (.func 213) #[] #[.pointer PB]), (62, .slice Aa al.length ca), (63, .int .i64 (al.length : Int)), (64, .int .i64 (j : Int)), (13, .int .i64 (f : Int)), (14, .slice z.2.2.2.1 (z.2.2.1.length - z.1) z.2.2.2.2.1)]) (fun z w' => Srch fl.length (LkH n fl cm) (AdH n fl cm) f L0 z.2.1 z.2.2.1 z.1 ∧ BrP n fl (fun y _ => HasP n cm (gl fl (y : Int))) (fun y => 0 ≤ gi z.2.1 (y : Int)) 2005 z.2.2.2.2.2 ∧ St w w' (CkI 2 z.2.2.2.1 (z.2.2.1.length - z.1) z.2.2.2.2.1 (intL (z.2.2.1.drop z.1)) :: ptK PB A fl.length c A22 z.2.1 Aa ca al g z.2.2.2.2.2 [])) (fun z => fl.length + 1 - z.1) (0, L0.set f (f : Int), [f], Ao, 1, M) ⟨O, O, O, O, O, O, O, O, O, O, trivial⟩ ⟨hSr, hBr, hS8⟩ ?_
  clear hS8 hS7 hS hRL hSr hBr
  rintro ⟨k, L, Q, Ao, co, M⟩ e w9 ⟨hSr, hBr, hS⟩
  dsimp only at hSr hBr hS ⊢
  have hql := hSr.qlen
  have hkl := hSr.kle
  refine Gbo O (Ops.len O O (Gdc O ?_))
  refine Cd.cond_p _ O (fun h3 => ?_) (fun h3 => ?_)
  ·have hkQ : k < Q.length := by omega
   obtain ⟨x, hx⟩ : ∃ x, Q.getD k 0 = x := ⟨_, rfl⟩
   have hxQ : x ∈ Q := by rw [← hx, List.getD_eq_getElem?_getD, List.getElem?_eq_getElem hkQ]; exact List.getElem_mem _
   have hxi := hSr.in_ x hxQ
   have hHx : HasP n cm (gl fl (x : Int)) := (hxi.2.2.1.of hxi.2.2.2)
   have hlx := hl _ (hgm x hxi.1)
   refine Gao O (Ops.len O O (Gdc O ?_))
   refine Cd.loop (α := Nat × List Int × List Nat × Option Addr × Nat × List MpE) (fun z => [(1, .slice A2 n c2), (2, .pointer PB), (5, .slice A22 fl.length fl.length), (6, .map (some g)), (7, .func (.func 213) #[] #[.pointer PB]), (62, .slice Aa al.length ca), (63, .int .i64 (al.length : Int)), (64, .int .i64 (j : Int)), (13, .int .i64 (f : Int)), (14, .slice z.2.2.2.1 (z.2.2.1.length - k) z.2.2.2.2.1), (85, .int .i64 (n : Int)), (86, .int .i64 (z.1 : Int))]) (fun z w' => z.1 ≤ n ∧ Srch fl.length (LkH n fl cm) (AdH n fl cm) f L0 z.2.1 z.2.2.1 k ∧ (k < z.2.2.1.length ∧ z.2.2.1.getD k 0 = x) ∧ BrP n fl (fun y _ => HasP n cm (gl fl (y : Int))) (fun y => 0 ≤ gi z.2.1 (y : Int)) 2005 z.2.2.2.2.2 ∧ (∀ i' y : Nat, i' < z.1 → y < fl.length → HasP n cm (gl fl (y : Int)) → rstP (gl fl (y : Int)) i' = rstP (gl fl (x : Int)) i' → 0 ≤ gi z.2.1 (y : Int)) ∧ St w w' (CkI 2 z.2.2.2.1 (z.2.2.1.length - k) z.2.2.2.2.1 (intL (z.2.2.1.drop k)) :: ptK PB A fl.length c A22 z.2.1 Aa ca al g z.2.2.2.2.2 [])) (fun z => n - z.1) (0, L, Q, Ao, co, M) ⟨O, O, O, O, O, O, O, O, O, O, O, O, trivial⟩ ⟨Nat.zero_le _, hSr, ⟨hkQ, hx⟩, hBr, fun i' y h => absurd h (Nat.not_lt_zero _), hS⟩ ?_
   clear hS hBr hSr hx hxQ hkQ hql hkl h3
   rintro ⟨i, Li, Qi, Ao, co, M⟩ e w10 ⟨hi, hSr, ⟨hkQ, hx⟩, hBr, hdn, hS⟩
   dsimp only at hi hSr hkQ hx hBr hdn hS ⊢
   refine Gbc O ?_
   refine Cd.cond_p _ O (fun h4 => ?_) (fun h4 => ?_)
   ·have hin : i < n := by omega
    have hgo : gi (intL (Qi.drop k)) 0 = (x : Int) := by
     have h9 := intL_at hkQ
     rw [hx] at h9
     rw [← h9]
     unfold intL
     rw [List.map_drop, gi_drop]
    have hdl : (intL (Qi.drop k)).length = Qi.length - k := by simp [intL]
    have hRo := hS.rdI 0 O
    refine Gao O (Ops.idx (i := 0) hRo.2 O O O (by omega) (by omega) ?_)
    refine Ops.ld_int (i := 0) hRo O (by show 0 < _; omega) O O ?_
    refine Gdo O ?_
    rw [hgo]
    refine Ops.call (rest_c PB A fl.length c n rs fl x i _ (hT.later hS.below) (Rd.one (hS.rd 2 O)) (hS.oldRows hM) hxi.1 (by omega) hlx.1 hin (by omega) hlx.2) O O O ?_
    rintro _ w11 ⟨rfl, hst⟩
    have hS := hS.later hst.below
    have hadj := fun y hy => hBr.adj (N := fl.length) hl' hxi.1 hin hHx (y := y) hy
    have hblen := hBr.len (rstP (gl fl (x : Int)) i)
    have hbal := fun (y : Nat) (hy : y < fl.length) (hH : HasP n cm (gl fl (y : Int))) (he : rstP (gl fl (y : Int)) i = rstP (gl fl (x : Int)) i) => he ▸ hBr.al y i hy hin hH
    generalize hkx : rstP (gl fl (x : Int)) i = kx at *
    clear hst hRo
    obtain ⟨sx, hsx⟩ : ∃ sx, gmS M kx = sx := ⟨_, rfl⟩
    obtain ⟨ys, hys⟩ : ∃ ys, gmX M kx = ys := ⟨_, rfl⟩
    have hrd : ∀ {w' : World} {Ao : Option Addr} {no co : Nat} {qs : List Int} {L : List Int}, St w w' (CkI 2 Ao no co qs :: ptK PB A fl.length c A22 L Aa ca al g M []) → RdI w' sx.a sx.n ys := fun h => by
     rw [← hsx, ← hys]
     exact St.rdMx (pre := [_, _, _, _, _]) (x := kx) h
    rw [hys] at hblen hadj hbal
    have hyl := (hrd hS).1
    refine Gdo O ?_
    refine Ops.look (v := .slice sx.a sx.n sx.c) keyLs (hS.rdM 4 rfl) rfl rfl (by rw [← hsx]; unfold gmS; cases getA M kx <;> rfl) rfl ?_
    refine Ops.len O O (Gdc O ?_)
    refine Cd.loop (α := Nat × List Int × List Nat × Option Addr × Nat) (fun z => [(1, .slice A2 n c2), (2, .pointer PB), (5, .slice A22 fl.length fl.length), (6, .map (some g)), (7, .func (.func 213) #[] #[.pointer PB]), (62, .slice Aa al.length ca), (63, .int .i64 (al.length : Int)), (64, .int .i64 (j : Int)), (13, .int .i64 (f : Int)), (14, .slice z.2.2.2.1 (z.2.2.1.length - k) z.2.2.2.2), (85, .int .i64 (n : Int)), (86, .int .i64 (i : Int)), (16, kyV kx), (97, .slice sx.a sx.n sx.c), (98, .int .i64 (sx.n : Int)), (99, .int .i64 (z.1 : Int))]) (fun z w' => z.1 ≤ sx.n ∧ Srch fl.length (LkH n fl cm) (AdH n fl cm) f L0 z.2.1 z.2.2.1 k ∧ (k < z.2.2.1.length ∧ z.2.2.1.getD k 0 = x) ∧ (∀ p : Nat, p < z.1 → 0 ≤ gi z.2.1 (gi ys (p : Int))) ∧ (∀ y : Nat, 0 ≤ gi Li (y : Int) → 0 ≤ gi z.2.1 (y : Int)) ∧ St w w' (CkI 2 z.2.2.2.1 (z.2.2.1.length - k) z.2.2.2.2 (intL (z.2.2.1.drop k)) :: ptK PB A fl.length c A22 z.2.1 Aa ca al g M [])) (fun z => sx.n - z.1) (0, Li, Qi, Ao, co) ⟨O, O, O, O, O, O, O, O, O, O, O, O, O, O, O, O, trivial⟩ ⟨Nat.zero_le _, hSr, ⟨hkQ, hx⟩, fun p h => absurd h (Nat.not_lt_zero _), fun y h => h, hS⟩ ?_
    clear hS hSr hkQ hx hgo hdl
    rintro ⟨q, L, Q, Ao, co⟩ e w12 ⟨hq, hSr, ⟨hkQ, hx⟩, hlab, hmono, hS⟩
    dsimp only at hq hSr hkQ hx hlab hmono hS ⊢
    have hql := hSr.qlen
    have hLl2 := hSr.len
    refine Gbc O ?_
    refine Cd.cond_p _ O (fun h5 => ?_) (fun h5 => ?_)
    ·have hqy : q < ys.length := by omega
     have hry := hrd hS
     obtain ⟨y, hy, hyN, hya⟩ := hadj _ (gi_in hqy)
     have hRL := hS.rdI 1 O
     refine Gao O (Ops.idx hry.2 O O O (by omega) (by omega) (Ops.ld_int hry O (by omega) O O (Gdo O ?_)))
     rw [hy]
     refine Ops.idx hRL.2 O O O (by omega) (by omega) (Ops.ld_int hRL O (by omega) O O (Gdc O ?_))
     refine Cd.cond_p _ O (fun h6 => ?_) (fun h6 => ?_)
     ·have hmt := hSr.meet hyN h6 (hPer.trn _ _ _ hxi.2.2 (hya.link hnd hll))
      refine Gao O (Ops.idx hRL.2 O O O (by omega) (by omega) (Ops.st_int 1 hS O O O (by omega) ?_))
      intro w13 hS13
      refine Gdo O (Ops.bs1I hS13 O O O ?_)
      intro A9 w14 hS14
      refine Ops.appI 1 hS14 O (hS14.rdI 0 O) O O O (by omega) (by omega) O ?_
      intro AZ cZ w15 hS15
      have hS15 := hS15.tail
      have hlq : (Q ++ [y]).length - k = (Q.length - k) + 1 := by rw [List.length_append]; show Q.length + 1 - k = _; omega
      refine Gdo O (Ops.add O O O (by omega) (Gdn O (tQ ?_)))
      refine ⟨(q + 1, L.set y (f : Int), Q ++ [y], AZ, cZ), by show sx.n - (q + 1) < sx.n - q; omega, ⟨O, O, O, O, O, O, O, O, O, congrArg (fun m => Value.slice AZ m cZ) hlq.symm, O, O, O, O, O, O, trivial⟩, by show q + 1 ≤ sx.n; omega, hmt, ⟨by show k < (Q ++ [y]).length; rw [List.length_append]; omega, by show (Q ++ [y]).getD k 0 = x; rw [getD_app hkQ, hx]⟩, fun p hp => ?_, fun z hz => gi_set_ge (hmono z hz), ?_⟩
      ·by_cases ep : p = q
       ·subst ep
        rw [hy]
        have h9 := gi_set_eq (L := L) (y := y) (f := f) (by omega)
        show 0 ≤ gi (L.set y (f : Int)) (y : Int)
        omega
       have hp : p < q + 1 := hp
       obtain ⟨y9, hy9, _, _⟩ := hadj _ (gi_in (show p < ys.length by omega))
       have h9 := hlab p (by omega)
       rw [hy9] at h9 ⊢
       exact gi_set_ge h9
      show St w w15 (CkI _ AZ ((Q ++ [y]).length - k) cZ (intL ((Q ++ [y]).drop k)) :: _)
      rw [hlq, intL_drop_app (by omega)]
      exact hS15
     refine Gao O (Ops.add O O O (by omega) (Gdn O (tQ ?_)))
     refine ⟨(q + 1, L, Q, Ao, co), by show sx.n - (q + 1) < sx.n - q; omega, ⟨O, O, O, O, O, O, O, O, O, O, O, O, O, O, O, O, trivial⟩, by show q + 1 ≤ sx.n; omega, hSr, ⟨hkQ, hx⟩, fun p hp => ?_, hmono, hS⟩
     by_cases ep : p = q
     ·subst ep
      rw [hy]
      show 0 ≤ gi L (y : Int)
      omega
     have hp : p < q + 1 := hp
     exact hlab p (by omega)
    have hall : ∀ y : Nat, (y : Int) ∈ ys → 0 ≤ gi L (y : Int) := fun y hy => by
     obtain ⟨p, hp, e9⟩ := List.mem_iff_getElem.1 hy
     rw [← gi_mem hp] at e9
     have := hlab p (by omega)
     rwa [e9] at this
    have hBr2 := (hBr.mono (G' := fun y => 0 ≤ gi L (y : Int)) fun y _ h => hmono y h).del (x := kx) fun y hy => hall y (hys ▸ hy)
    refine Gax O (thenQ_x (Gfo O ?_))
    refine Ops.dlt keyLs 4 (a := kx) hS O O O ?_
    intro w13 hS13
    have hS13 := St.delM (pre := [_, _, _, _, _]) (x := kx) hS13
    refine Gdo O (Ops.add O O O (by omega) (Gdn O (tQ ?_)))
    refine ⟨(i + 1, L, Q, Ao, co, delA M kx), by show n - (i + 1) < n - i; omega, ⟨O, O, O, O, O, O, O, O, O, O, O, O, trivial⟩, by show i + 1 ≤ n; omega, hSr, ⟨hkQ, hx⟩, hBr2, fun i' y hi' hyN hH he => ?_, hS13⟩
    by_cases ei : i' = i
    ·subst ei
     rcases hbal y hyN hH (he.trans hkx) with h9 | h9
     ·exact hall y h9
     exact hmono y h9
    exact hmono y (hdn i' y (by have hi' : i' < i + 1 := hi'; omega) hyN hH he)
   obtain rfl : i = n := by omega
   have hql := hSr.qlen
   have hnext := hSr.next hkQ fun y hy => by
    rw [hx] at hy
    obtain ⟨_, hHy, i', hi', ha⟩ := hy
    exact hdn i' y hi' ha.2.1 hHy ((rst_same hlx.1 (hl _ (hgm y ha.2.1)).1).2 fun k9 h9 h10 => ha.2.2 k9 h9 h10).symm
   have hkQ2 : k < Qi.length := hkQ
   have hcut := St.cutl (i := 0) (l := 1) hS O (by show 1 ≤ Qi.length - k; omega)
   refine Gax O (thenQ_x (Gfo O ?_))
   refine Ops.cut_l (l := 1) O O O (by omega) ?_
   refine Gdn O (tQ ?_)
   refine ⟨(k + 1, Li, Qi, cutAt Ao co 1, co - 1, M), by show fl.length + 1 - (k + 1) < fl.length + 1 - k; omega, ⟨O, O, O, O, O, O, O, O, O, congrArg (fun m => Value.slice (cutAt Ao co 1) m (co - 1)) (Nat.sub_sub _ _ _), trivial⟩, hnext, hBr, ?_⟩
   show St w w10 (CkI _ (cutAt Ao co 1) (Qi.length - (k + 1)) (co - 1) (intL (Qi.drop (k + 1))) :: _)
   have e9 : intL (Qi.drop (k + 1)) = (intL (Qi.drop k)).drop 1 := by simp [intL]
   rw [e9, ← Nat.sub_sub]
   exact hcut
  have hkQ : k = Q.length := by omega
  subst hkQ
  have hend := hSr.end_ hPer hL0 (by omega) h0 (fun S hS1 hS2 => LkH.ind S hS1 hS2) (fun x y h => h.link hnd hll)
  refine Gax O (thenQ_x (Gfo O (Ops.add O O O (by omega) (Gdn O (tQ ?_)))))
  exact ⟨(j + 1, L, M), by show al.length - (j + 1) < al.length - j; omega, ⟨O, O, O, O, O, O, O, O, trivial⟩, by show j + 1 ≤ al.length; omega, hnx _ j f hja hf hend, hBr, hS.tail⟩
 have hje : j = al.length := by omega
 have hbd : bndA fl.length al j = fl.length := by unfold bndA; rw [if_neg (by omega)]
 rw [hbd] at hL0
 refine Gax O (thenQ_x (Gfr O ?_))
 refine ret1_s O ?_
 exact ⟨A22, L0, O, hL0, hS.sub ((List.nil_sublist _).cons_cons _)⟩
/-
 The program's test of strong connection, walked. Conditions: the library's table of powers of ten holds what the program's text lays there.
-/
def uset (u : Nat → Value) (k : Nat) (v : Value) : Nat → Value := fun j => cond (Nat.beq j k) v (u j)
theorem uset_eq {u : Nat → Value} {k : Nat} {v : Value} (h : u k = v) : u = uset u k v := by
 funext j
 unfold uset
 cases hb : Nat.beq j k with
 | true => rw [Nat.eq_of_beq_eq_true hb, h]; rfl
 | false => rfl
set_option maxHeartbeats 4000000 in
theorem connectionFault_c (A : Option Addr) (N c : Nat) (rs : List SlV) (fl : List (List Int)) (n : Nat) (w : World) (hT : Tab w) (hM : RowsI w A N rs fl) (hN : N ≤ 401) (hn : n ≤ 5) (hl : ∀ x ∈ fl, x.length = n ∧ ∀ e ∈ x, 0 ≤ e ∧ e ≤ 1000000) (hnd : fl.Nodup) :
    Ret Tryz.prog 89 [.slice A N c] w (fun v w' => ∃ A' n' c', v = .slice A' n' c' ∧ (A'.isNone = true ↔ ConP n fl) ∧ St w w' []) := by
  have hfl := hM.len
  have hgm : ∀ f : Nat, f < N → gl fl (f : Int) ∈ fl := fun f hf => by rw [gl_mem (by omega)]; exact List.getElem_mem _
  have hl' : ∀ x ∈ fl, x.length = n ∧ ∀ e ∈ x, 0 ≤ e := fun x hx => ⟨(hl x hx).1, fun e he => ((hl x hx).2 e he).1⟩
  refine Ret.of_cd Tryz.func89 O Tryz.ntmps89 O (post1 O) (Gbo O (Ops.mkmap (St.refl w) O ?_))
  intro g w1 hS1
  have hS1 : St w w1 (CkM 132 g (prV kyV mpV ([] : List MpE)) :: (rwM 2 ([] : List MpE) ++ [])) := hS1
  refine Gdo O (Ops.call (sizeR_c _ _ _ _) O O O ?_)
  rintro _ w1 ⟨rfl, rfl⟩
  refine Gdc O ?_
  refine Cd.loop (α := Nat × List MpE) (fun z => [(0, .slice A N c), (3, .map (some g)), (12, .int .i64 (N : Int)), (13, .int .i64 (z.1 : Int))])
    (fun z w' => z.1 ≤ N ∧ (∀ l u, getA z.2 l = some u → LblP N (LkH n fl l) N u.2) ∧ (∀ a b : Nat, a < z.1 → a < b → b < N → LnkP n fl (fun k => gi (gl fl (a : Int)) (k : Int) = gi (gl fl (b : Int)) (k : Int)) a b) ∧ St w w' (CkM 132 g (prV kyV mpV z.2) :: (rwM 2 z.2 ++ []))) (fun z => N - z.1) (0, []) ⟨rfl, rfl, rfl, rfl, trivial⟩ ⟨Nat.zero_le _, fun l u h => by simp [getA] at h, fun a b h => absurd h (Nat.not_lt_zero _), hS1⟩ ?_
  clear hS1
  rintro ⟨a, M⟩ e w2 ⟨ha, hLb, hdn, hS⟩
  dsimp only at ha hLb hdn hS ⊢
  refine Gbc O ?_
  refine Cd.cond_p _ O (fun h1 => ?_) (fun h1 => ?_)
  · have haN : a < N := by omega
    refine Gao O (Ops.add O O O (by omega) (Gdc O ?_))
    refine Cd.loop (α := Nat × List MpE) (fun z => [(0, .slice A N c), (3, .map (some g)), (12, .int .i64 (N : Int)), (13, .int .i64 (a : Int)), (4, .int .i64 (a : Int)), (5, .int .i64 (z.1 : Int))])
      (fun z w' => (a < z.1 ∧ z.1 ≤ N) ∧ (∀ l u, getA z.2 l = some u → LblP N (LkH n fl l) N u.2) ∧ (∀ b : Nat, a < b → b < z.1 → LnkP n fl (fun k => gi (gl fl (a : Int)) (k : Int) = gi (gl fl (b : Int)) (k : Int)) a b) ∧ St w w' (CkM 132 g (prV kyV mpV z.2) :: (rwM 2 z.2 ++ []))) (fun z => N - z.1) (a + 1, M) ⟨rfl, rfl, rfl, rfl, rfl, rfl, trivial⟩ ⟨⟨Nat.lt_succ_self _, haN⟩, hLb, fun b h h' => by omega, hS⟩ ?_
    clear hS hLb
    rintro ⟨b, M⟩ e w3 ⟨⟨hab, hbN⟩, hLb, hdb, hS⟩
    dsimp only at hab hbN hLb hdb hS ⊢
    refine Gbo O (Ops.call (sizeR_c _ _ _ _) O O O ?_)
    rintro _ w3 ⟨rfl, rfl⟩
    refine Gdc O ?_
    refine Cd.cond_p _ O (fun h2 => ?_) (fun h2 => ?_)
    · have hb : b < N := by omega
      have hM3 := hS.oldRows hM
      have hra := hM3.at_ (i := (a : Int)) (by omega) (by omega)
      have hrb := hM3.at_ (i := (b : Int)) (by omega) (by omega)
      have hlA := hl _ (hgm a haN)
      have hlB := hl _ (hgm b hb)
      have hna : (rg rs (a : Int)).n = n := by rw [← hra.1]; exact hlA.1
      have hnb : (rg rs (b : Int)).n = n := by rw [← hrb.1]; exact hlB.1
      have hlk := cmn_link (n := n) hl' (show a < fl.length by omega) (show b < fl.length by omega)
      have hcl : (cmnP (gl fl (a : Int)) (gl fl (b : Int))).length = n := by rw [cmnP_len]; exact hlA.1
      have hcr : ∀ x ∈ cmnP (gl fl (a : Int)) (gl fl (b : Int)), -1 ≤ x ∧ x ≤ 1000000 := fun x hx => by
        obtain ⟨k, hk, rfl⟩ := List.mem_map.1 hx
        have hk := List.mem_range.1 hk
        split
        · have := hlA.2 _ (gi_in hk); omega
        · omega
      refine Gac O ?_
      refine Cd.draw [xS (A) (N) (c), xI ((a : Int)), xP (ptrAt (A) ((a : Int)).toNat), xS ((rg (rs) ((a : Int))).a) ((rg (rs) ((a : Int))).n) ((rg (rs) ((a : Int))).c), xS (A) (N) (c), xI ((b : Int)), xP (ptrAt (A) ((b : Int)).toNat), xS ((rg (rs) ((b : Int))).a) ((rg (rs) ((b : Int))).n) ((rg (rs) ((b : Int))).c), .pr (fun v w' => ∃ A6 c6, v = .slice A6 n c6 ∧ RdI w' A6 n (cmnP (gl fl (a : Int)) (gl fl (b : Int)))), .pr (fun v w' => ∃ A6 c6, v = .slice A6 n c6 ∧ RdI w' A6 n (cmnP (gl fl (a : Int)) (gl fl (b : Int))))] (by kernel_rfl) (by kernel_rfl) rfl (lx (lx (lx (lx (lx (lx (lx (lx (List.forall_mem_cons.2 ⟨Yd.lasts_pr (fun v w w' h hb => by obtain ⟨A6, c6, hv, hT⟩ := h; exact ⟨A6, c6, hv, hT.later hb⟩), (List.forall_mem_cons.2 ⟨Yd.lasts_pr (fun v w w' h hb => by obtain ⟨A6, c6, hv, hT⟩ := h; exact ⟨A6, c6, hv, hT.later hb⟩), (fun _ h => by cases h)⟩)⟩))))))))) ?_ ?_
      · refine ⟨Dr O, Dr O, fun _ _ hb _ _ => Ops.idx (hM3.top.later hb).2 O O O (by omega) (by omega) (Az O), fun _ _ hb _ _ => Ops.ld_sl (hM3.top.later hb) O (by omega) O O (Az O), Dr O, Dr O, fun _ _ hb _ _ => Ops.idx (hM3.top.later hb).2 O O O (by omega) (by omega) (Az O), fun _ _ hb _ _ => Ops.ld_sl (hM3.top.later hb) O (by omega) O O (Az O), ?_, ?_, trivial⟩
        · intro e1 w1 hb hp hun
          refine Ops.call (commonOf_c (rg rs (a : Int)).a (rg rs (b : Int)).a (rg rs (a : Int)).n (rg rs (a : Int)).c (rg rs (b : Int)).n (rg rs (b : Int)).c (gl fl (a : Int)) (gl fl (b : Int)) _ (hra.later hb) (hrb.later hb) (by omega) (by omega)) O O O ?_
          rintro _ w9 ⟨A6, c6, rfl, hst⟩
          refine Ops.n ?_
          exact After.dn hst.below ⟨A6, c6, by rw [hcl], by have h9 := hst.rdI 0 O; rw [hcl] at h9; exact h9⟩
        · intro e1 w1 hb hp hun
          obtain ⟨A6, c6, h32, hT⟩ := (hp 8 (by decide) rfl _ _ rfl rfl)
          refine Ops.ms O (by exact h32) O (Ops.n ?_)
          exact After.dn (Below.refl _ _) ⟨A6, c6, O, hT⟩
      intro u w4 hb4 hu
      obtain ⟨A6, c6, h6, hR6⟩ := hu 9 _ rfl
      rw [uset_eq h6]
      have hS4 := hS.later hb4
      generalize hcm : cmnP (gl fl (a : Int)) (gl fl (b : Int)) = cm at *
      clear hu hS hM3 hra hrb
      refine Geo O ?_
      refine Ops.call (keyOf_c A6 n c6 cm _ (hT.later hS4.below) hR6 (fun x hx => by have := hcr x hx; omega) (by omega)) O O O ?_
      rintro _ w5 ⟨rfl, hst⟩
      have hS5 := hS4.later hst.below
      have hR6 := hR6.later hst.below
      clear hst hS4
      refine Gdo O ?_
      refine Ops.lookGok (v := .slice (gmS M cm).a (gmS M cm).n (gmS M cm).c) keyLs (x := cm) (hS5.rdM 0 rfl) rfl rfl (by unfold gmS; cases getA M cm <;> rfl) rfl ?_
      refine Gdo O ?_
      first | refine Ops.not_p rfl rfl ?_ | refine Ops.not rfl rfl ?_
      refine Gdc O ?_
      cases hgm2 : getA M cm with
      | none => --dup 2
        refine Cd.cond_t O (Gao O (Ops.call (partsWith_c A N c rs fl n A6 c6 cm _ (hT.later hS5.below) (hS5.oldRows hM) hR6 hN hn hl hnd) O O O ?_))
        rintro _ w6 ⟨A8, L, rfl, hL, hst⟩
        have hS6 := hS5.call hst
        refine Gdo O (Ops.upm O keyLs 1 (a := cm) (u := (⟨A8, N, N⟩, L)) hS6 O O O O ?_)
        intro w7 hS7
        have hrow : RdI w7 A8 N L := hS7.rdI 0 O
        have hS8 : St w w7 (CkM 132 g (prV kyV mpV (putA M cm (⟨A8, N, N⟩, L))) :: (rwM 2 (putA M cm (⟨A8, N, N⟩, L)) ++ [])) := St.putM (M := M) (x := cm) (u := (⟨A8, N, N⟩, L)) (pre := [_]) (by rw [get_none_del hgm2]; exact hS7)
        have hLb8 : ∀ l u, getA (putA M cm (⟨A8, N, N⟩, L)) l = some u → LblP N (LkH n fl l) N u.2 := fun l u h => by
          rw [getA_put] at h
          split at h
          · rename_i e; subst e
            injection h with h
            subst h
            exact hL
          · exact hLb l u h
        clear hS7 hS6 hS5 hst hR6
        have hLl := hL.1
        have hrl := hrow.1
        have hdne := hL.done (LkH.per n fl cm |> fun h => hfl ▸ h) hlk.1 hlk.2.1
        refine Gdc O ?_
        refine Cd.draw [xS (A8) (N) (N), xI ((a : Int)), xP (ptrAt (A8) ((a : Int)).toNat), xI (gi (L) ((a : Int))), xS (A8) (N) (N), xI ((b : Int)), xP (ptrAt (A8) ((b : Int)).toNat), xI (gi (L) ((b : Int))), xB (decide (¬ (gi (L) ((a : Int))) = (gi (L) ((b : Int)))))] (by kernel_rfl) (by kernel_rfl) O (exL O) ?_ ?_
        · exact ⟨Dr O, Dr O, fun _ _ hb _ _ => Ops.idx (hrow.later hb).2 O O O (by omega) (by omega) (Az O), fun _ _ hb _ _ => Ops.ld_int (hrow.later hb) O (by omega) O O (Az O), Dr O, Dr O, fun _ _ hb _ _ => Ops.idx (hrow.later hb).2 O O O (by omega) (by omega) (Az O), fun _ _ hb _ _ => Ops.ld_int (hrow.later hb) O (by omega) O O (Az O), Dr O, trivial⟩
        intro u w9 hb9 _
        have hS9 := hS8.later hb9
        refine Gec O ?_
        refine Cd.cond_p _ O (fun h3 => ?_) (fun h3 => ?_)
        · refine Gao O ?_
          refine Ops.bsL [(a : Int), (b : Int)] hS9 O O (by decide) (by decide) O O ?_
          intro A9 w10 hS10
          refine Gdr O (thenQ_r (Qk_ret (thenQ_r (Qk_ret ?_))))
          refine ret1_s O ?_
          refine ⟨A9, 2, 2, O, ⟨fun h => ?_, fun h => ?_⟩, hS10.none⟩
          · rw [Rd.some_of (hS10.rdI 0 rfl).2 (by decide)] at h
            cases h
          · exact absurd (hdne.2 (hlk.2.2.2 (h a b hab (by omega)))) h3
        · have hok := hlk.2.2.1 (hdne.1 (Classical.not_not.1 h3))
          refine Gao O (Ops.add O O O (by omega) (Gdn O (tQ ?_)))
          exact ⟨(b + 1, putA M cm (⟨A8, N, N⟩, L)), by show N - (b + 1) < N - b; omega, ⟨O, O, O, O, O, O, trivial⟩, ⟨Nat.lt_succ_of_lt hab, hb⟩, hLb8, fun b' h4 h5 => by
            by_cases e9 : b' = b
            · subst e9; exact hok
            · exact hdb b' h4 (by have h5 : b' < b + 1 := h5; omega), hS9⟩
      | some u0 =>
        have hL : LblP N (LkH n fl cm) N (gmX M cm) := by
          rw [(gm_some hgm2).2]
          exact hLb cm u0 hgm2
        have hrow : RdI w5 (gmS M cm).a (gmS M cm).n (gmX M cm) := St.rdMx (pre := [_]) (x := cm) hS5
        refine Cd.cond_f O ?_
        have hLl := hL.1
        have hrl := hrow.1
        have hdne := hL.done (LkH.per n fl cm |> fun h => hfl ▸ h) hlk.1 hlk.2.1
        refine Gac O ?_
        refine Cd.draw [xS ((gmS M cm).a) ((gmS M cm).n) ((gmS M cm).c), xI ((a : Int)), xP (ptrAt ((gmS M cm).a) ((a : Int)).toNat), xI (gi (gmX M cm) ((a : Int))), xS ((gmS M cm).a) ((gmS M cm).n) ((gmS M cm).c), xI ((b : Int)), xP (ptrAt ((gmS M cm).a) ((b : Int)).toNat), xI (gi (gmX M cm) ((b : Int))), xB (decide (¬ (gi (gmX M cm) ((a : Int))) = (gi (gmX M cm) ((b : Int)))))] (by kernel_rfl) (by kernel_rfl) O (exL O) ?_ ?_
        · exact ⟨Dr O, Dr O, fun _ _ hb _ _ => Ops.idx (hrow.later hb).2 O O O (by omega) (by omega) (Az O), fun _ _ hb _ _ => Ops.ld_int (hrow.later hb) O (by omega) O O (Az O), Dr O, Dr O, fun _ _ hb _ _ => Ops.idx (hrow.later hb).2 O O O (by omega) (by omega) (Az O), fun _ _ hb _ _ => Ops.ld_int (hrow.later hb) O (by omega) O O (Az O), Dr O, trivial⟩
        intro u w9 hb9 _
        have hS9 := hS5.later hb9
        refine Gec O ?_
        refine Cd.cond_p _ O (fun h3 => ?_) (fun h3 => ?_)
        · refine Gao O ?_
          refine Ops.bsL [(a : Int), (b : Int)] hS9 O O (by decide) (by decide) O O ?_
          intro A9 w10 hS10
          refine Gdr O (thenQ_r (Qk_ret (thenQ_r (Qk_ret ?_))))
          refine ret1_s O ?_
          refine ⟨A9, 2, 2, O, ⟨fun h => ?_, fun h => ?_⟩, hS10.none⟩
          · rw [Rd.some_of (hS10.rdI 0 rfl).2 (by decide)] at h
            cases h
          · exact absurd (hdne.2 (hlk.2.2.2 (h a b hab (by omega)))) h3
        · have hok := hlk.2.2.1 (hdne.1 (Classical.not_not.1 h3))
          refine Gao O (Ops.add O O O (by omega) (Gdn O (tQ ?_)))
          exact ⟨(b + 1, M), by show N - (b + 1) < N - b; omega, ⟨O, O, O, O, O, O, trivial⟩, ⟨Nat.lt_succ_of_lt hab, hb⟩, hLb, fun b' h4 h5 => by
            by_cases e9 : b' = b
            · subst e9; exact hok
            · exact hdb b' h4 (by have h5 : b' < b + 1 := h5; omega), hS9⟩
    · have hbe : b = N := by omega
      refine Gax O (thenQ_x (Gfo O (Ops.add O O O (by omega) (Gdn O (tQ ?_)))))
      exact ⟨(a + 1, M), by show N - (a + 1) < N - a; omega, ⟨O, O, O, O, trivial⟩, haN, hLb, fun a' b' h3 h4 h5 => by
        by_cases e9 : a' = a
        · subst e9; exact hdb b' h4 (by omega)
        · exact hdn a' b' (by have h3 : a' < a + 1 := h3; omega) h4 h5, hS⟩
  · have hae : a = N := by omega
    refine Gax O (thenQ_x (Gfr O ?_))
    refine ret1_s O ?_
    exact ⟨none, 0, 0, O, ⟨fun _ a' b' h3 h4 => hdn a' b' (by omega) h3 (by omega), fun _ => O⟩, hS.none⟩
/-
 The program's test of diamonds and of polytopes, walked. Conditions: the library's table of powers of ten holds what the program's text lays there.
-/
theorem plcP_mem {xs : List Int} {x e : Int} : e ∈ plcP xs x ↔ (0 ≤ e ∧ e < xs.length) ∧ gi xs e = x := by
 unfold plcP
 rw [List.mem_filter, rngI_mem, decide_eq_true_eq]
theorem rkL_lo {n : Int} {R : List Int} {i e : Int} (h0 : 0 ≤ i) (h1 : i < n) : e ∈ rkL n R (i - 1) ↔ LoP R i e := by
 unfold rkL LoP
 split
 ·rw [plcP_mem]
  exact ⟨fun h => .inr ⟨h.1, by omega, h.2⟩, fun h => h.elim (fun h => by omega) fun h => ⟨h.1, h.2.2⟩⟩
 rw [List.mem_singleton]
 exact ⟨fun h => .inl ⟨h, by omega⟩, fun h => h.elim (fun h => h.1) fun h => by omega⟩
theorem rkL_hi {n : Int} {R : List Int} {i f : Int} (h0 : 0 ≤ i) (h1 : i < n) : f ∈ rkL n R (i + 1) ↔ HiP n R i f := by
 unfold rkL HiP
 split
 ·rw [plcP_mem]
  exact ⟨fun h => .inr ⟨h.1, by omega, h.2⟩, fun h => h.elim (fun h => by omega) fun h => ⟨h.1, h.2.2⟩⟩
 rw [List.mem_singleton]
 exact ⟨fun h => .inl ⟨h, by omega⟩, fun h => h.elim (fun h => h.1) fun h => by omega⟩
theorem rkL_mid {n : Int} {R : List Int} {i : Int} (h0 : 0 ≤ i) (h1 : i < n) : rkL n R i = plcP R i := by
 unfold rkL
 rw [if_pos (by omega)]
theorem rkL_len {n : Int} {R : List Int} {i : Int} (h : R.length ≤ 500) : (rkL n R i).length ≤ 500 := by
 unfold rkL
 split
 ·refine Nat.le_trans (List.length_filter_le _ _) ?_
  rw [rngI, List.length_map, List.length_range]; exact h
 exact (by decide : 1 ≤ 500)
theorem rkL_rng {n : Int} {R : List Int} {i e : Int} (h : e ∈ rkL n R i) : e = -1 ∨ (0 ≤ e ∧ e < R.length) := by
 unfold rkL at h
 split at h
 ·exact .inr (plcP_mem.1 h).1
 exact .inl (List.mem_singleton.1 h)
def cntT (P : Int → Prop) [DecidablePred P] (xs : List Int) (q : Nat) : Nat := ((xs.take q).filter fun x => decide (P x)).length
section
variable {P : Int → Prop} [DecidablePred P] {xs : List Int} {q : Nat}
theorem cntT_le : cntT P xs q ≤ q := by
 unfold cntT
 refine Nat.le_trans (List.length_filter_le _ _) ?_
 rw [List.length_take]; omega
theorem cntT_yes (h : q < xs.length) (hp : P (gi xs (q : Int))) : cntT P xs (q + 1) = cntT P xs q + 1 := by
 unfold cntT
 rw [take_snoc h, List.filter_append, List.length_append]
 simp [hp]
theorem cntT_no (h : q < xs.length) (hp : ¬ P (gi xs (q : Int))) : cntT P xs (q + 1) = cntT P xs q := by
 unfold cntT
 rw [take_snoc h, List.filter_append, List.length_append]
 simp [hp]
end
def btwP (B : List (List Int)) (e f x : Int) : Prop := (e < 0 ∨ e ∈ gl B x) ∧ (f < 0 ∨ x ∈ gl B f)
instance (B : List (List Int)) (e f : Int) : DecidablePred (btwP B e f) := fun x => by unfold btwP; infer_instance
theorem cnt_mid {R : List Int} {B : List (List Int)} {i e f : Int} : cntT (btwP B e f) (plcP R i) (plcP R i).length = (MidP R B i e f).length := by
 unfold cntT MidP plcP
 rw [List.take_length, List.filter_filter]
 congr 1
 refine List.filter_congr fun x _ => ?_
 rw [← Bool.decide_and]
 refine decide_eq_decide.2 ?_
 unfold btwP
 exact ⟨fun h => ⟨h.2, h.1⟩, fun h => ⟨h.2, h.1⟩⟩
set_option maxHeartbeats 4000000 in
theorem diamondFault_c (n : Int) (A D : Option Addr) (cA cD : Nat) (R : List Int) (rs : List SlV) (B : List (List Int)) (w : World) (hR : RdI w A R.length R) (hB : RowsI w D B.length rs B) (hP : PosP n R B) :
  Ret Tryz.prog 88 [.agg #[.int .i64 n, .slice A R.length cA, .slice D B.length cD]] w (fun v w' => ∃ A' n' c', v = .slice A' n' c' ∧ (A'.isNone = true ↔ DiaP n R B) ∧ St w w' []) := by
 have hn := hP.n1
 have hbg := hP.big
 have hle := hP.len
 have hrow := fun (e : Int) (h0 : 0 ≤ e) (h : e < (R.length : Int)) => (hP.at_ h0 h).1
 have hrl : ∀ e : Int, 0 ≤ e → e < R.length → (gl B e).length ≤ 500 := fun e h0 h => by
  have := nodup_le_int (N := R.length) (hrow e h0 h).nodup fun x hx => by have := ((hP.at_ h0 h).2.1 x hx).1; omega
  omega
 refine Ret.of_cd Tryz.func88 O Tryz.ntmps88 O (post1 O) (Gbo O (Ops.box3T (St.refl w) O O ?_))
 intro A1 w1 hS1
 have h1 : Rd w1 A1 3 (fun j => [Value.int .i64 n, .slice A R.length cA, .slice D B.length cD].getD j undef) := hS1.rd 0 O
 have hR := hS1.oldI hR
 have hB := hS1.oldRows hB
 have hS1 := hS1.none
 refine Gdo O (Ops.fld h1 O O O O inferInstance (Ops.ldf_i (j := 0) h1 (by exact congrArg Value.pointer O) O O O O (Gdc O ?_)))
 refine Cd.loop (α := Nat) (fun i => [(1, .pointer A1), (14, .int .i64 n), (15, .int .i64 (i : Int))]) (fun i w' => (i : Int) ≤ n ∧ (∀ i' e f : Int, 0 ≤ i' → i' < (i : Int) → e ∈ rkL n R (i' - 1) → f ∈ rkL n R (i' + 1) → (0 ≤ e → 0 ≤ f → e ∈ gl B f) → (MidP R B i' e f).length = 2) ∧ St w1 w' []) (fun i => n.toNat - i) 0 ⟨O, O, O, trivial⟩ ⟨by show ((0 : Nat) : Int) ≤ n; omega, fun i' e f h h' => by have h' : i' < ((0 : Nat) : Int) := h'; omega, St.refl _⟩ ?_
 rintro i e w2 ⟨hi, hdn, hst⟩
 have h1 := Rd.below h1 hst.below
 have hR := hst.oldI hR
 have hB := hst.oldRows hB
 have hS2 := hS1.later hst.below
 refine Gbc O ?_
 refine Cd.cond_p _ O (fun h2 => ?_) (fun h2 => ?_)
 ·have hmd := rkL_mid (R := R) (show 0 ≤ (i : Int) by omega) h2
  have hmdl := rkL_len (n := n) (i := (i : Int)) hbg
  have hlol := rkL_len (n := n) (i := (i : Int) - 1) hbg
  have hhil := rkL_len (n := n) (i := (i : Int) + 1) hbg
  have hmdm := fun x => plcP_mem (xs := R) (x := (i : Int)) (e := x)
  refine Gao O (Ops.call (ofRank_c A1 A D n R.length cA B.length cD R (i : Int) _ h1 hR (by omega) (by omega)) O O O ?_)
  rintro _ w3 ⟨A4, c4, rfl, hst4⟩
  have h4 := hst4.rdI 0 O
  refine Gdo O (Ops.add O O O (by omega) ?_)
  refine Ops.call (ofRank_c A1 A D n R.length cA B.length cD R ((i : Int) + 1) _ (Rd.below h1 hst4.below) (hst4.oldI hR) (by omega) (by omega)) O O O ?_
  rintro _ w4 ⟨A5, c5, rfl, hst5⟩
  have h5 := hst5.rdI 0 O
  have h4 := h4.later hst5.below
  refine Gdo O (Ops.sub O O O (by omega) ?_)
  refine Ops.call (ofRank_c A1 A D n R.length cA B.length cD R ((i : Int) - 1) _ (Rd.below h1 (hst4.below.trans (hst5.below.mono hst4.below.size))) (hst5.oldI (hst4.oldI hR)) (by omega) (by omega)) O O O ?_
  rintro _ w5 ⟨A6, c6, rfl, hst6⟩
  have h6 := hst6.rdI 0 O
  have h4 := h4.later hst6.below
  have h5 := h5.later hst6.below
  have hb5 := (hst4.below.trans (hst5.below.mono hst4.below.size))
  have hb5 := hb5.trans (hst6.below.mono hb5.size)
  have h1 := Rd.below h1 hb5
  have hB := hB.later hb5
  have hS5 := hS2.later hb5
  have hst5b := hst.later hb5
  clear hst4 hst5 hst6 hst hS2
  obtain ⟨ms, hms⟩ : ∃ ms, rkL n R (i : Int) = ms := ⟨_, rfl⟩
  obtain ⟨los, hlos⟩ : ∃ los, rkL n R ((i : Int) - 1) = los := ⟨_, rfl⟩
  obtain ⟨his, hhis⟩ : ∃ his, rkL n R ((i : Int) + 1) = his := ⟨_, rfl⟩
  rw [hms] at h4 hmdl hmd
  rw [hhis] at h5 hhil
  rw [hlos] at h6 hlol
  have hcn := fun e f => cnt_mid (R := R) (B := B) (i := (i : Int)) (e := e) (f := f)
  rw [← hmd] at hcn
  have hmm : ∀ x ∈ ms, (0 ≤ x ∧ x < R.length) := fun x hx => ((hmdm x).1 (hmd ▸ hx)).1
  have hlr : ∀ x ∈ los, x = -1 ∨ (0 ≤ x ∧ x < R.length) := fun x hx => rkL_rng (hlos ▸ hx)
  have hhr : ∀ x ∈ his, x = -1 ∨ (0 ≤ x ∧ x < R.length) := fun x hx => rkL_rng (hhis ▸ hx)
  rw [hms, hlos, hhis]
  refine Ops.len O O (Gdc O ?_)
  refine Cd.loop (α := Nat) (fun j => [(1, .pointer A1), (14, .int .i64 n), (15, .int .i64 (i : Int)), (3, .int .i64 (i : Int)), (4, .slice A4 ms.length c4), (5, .slice A5 his.length c5), (25, .slice A6 los.length c6), (26, .int .i64 (los.length : Int)), (27, .int .i64 (j : Int))]) (fun j w' => j ≤ los.length ∧ w' = w5 ∧ ∀ p : Nat, p < j → ∀ f ∈ his, (0 ≤ gi los (p : Int) → 0 ≤ f → gi los (p : Int) ∈ gl B f) → (MidP R B i (gi los (p : Int)) f).length = 2) (fun j => los.length - j) 0 ⟨O, O, O, O, O, O, O, O, O, trivial⟩ ⟨Nat.zero_le _, O, fun p h => absurd h (Nat.not_lt_zero _)⟩ ?_
  rintro j e w6 ⟨hj, rfl, hlo⟩
  refine Gbc O ?_
  refine Cd.cond_p _ O (fun h7 => ?_) (fun h7 => ?_)
  ·have hjl : j < los.length := by omega
   refine Gao O (Ops.idx h6.2 O O O (by omega) (by omega) (Ops.ld_int h6 O (by omega) O O ?_))
   refine Gdo O (Ops.len O O (Gdc O ?_))
   have her := hlr _ (gi_in hjl)
   generalize hee : gi los (j : Int) = ee at *
   refine Cd.loop (α := Nat) (fun k => [(1, .pointer A1), (14, .int .i64 n), (15, .int .i64 (i : Int)), (3, .int .i64 (i : Int)), (4, .slice A4 ms.length c4), (5, .slice A5 his.length c5), (25, .slice A6 los.length c6), (26, .int .i64 (los.length : Int)), (27, .int .i64 (j : Int)), (7, .int .i64 ee), (31, .slice A5 his.length c5), (32, .int .i64 (his.length : Int)), (33, .int .i64 (k : Int))]) (fun k w' => k ≤ his.length ∧ w' = w6 ∧ ∀ p : Nat, p < k → (0 ≤ ee → 0 ≤ gi his (p : Int) → ee ∈ gl B (gi his (p : Int))) → (MidP R B i ee (gi his (p : Int))).length = 2) (fun k => his.length - k) 0 ⟨O, O, O, O, O, O, O, O, O, O, O, O, O, trivial⟩ ⟨Nat.zero_le _, O, fun p h => absurd h (Nat.not_lt_zero _)⟩ ?_
   rintro k e w7 ⟨hk, rfl, hhi⟩
   refine Gbc O ?_
   refine Cd.cond_p _ O (fun h8 => ?_) (fun h8 => ?_)
   ·have hkl : k < his.length := by omega
    refine Gao O (Ops.idx h5.2 O O O (by omega) (by omega) (Ops.ld_int h5 O (by omega) O O (Gdo O ?_)))
    have hfr := hhr _ (gi_in hkl)
    generalize hff : gi his (k : Int) = ff at *
    have hstep : ((0 ≤ ee → 0 ≤ ff → ee ∈ gl B ff) → (MidP R B i ee ff).length = 2) → ∀ p : Nat, p < k + 1 → (0 ≤ ee → 0 ≤ gi his (p : Int) → ee ∈ gl B (gi his (p : Int))) → (MidP R B i ee (gi his (p : Int))).length = 2 := fun h p hp => by
     by_cases ep : p = k
     ·subst ep; rw [hff]; exact h
     exact hhi p (by omega)
    refine Ops.split_p 39 O (fun h9 => ?_) (fun h9 => ?_)
    ·refine Ops.g O O O (Gdo O (Ops.g O O O (Gdo O ?_)))
     refine Ops.split_p 43 O (fun h10 => ?_) (fun h10 => ?_)
     ·refine Ops.g O O O (Gdo O (Ops.g O O O (Gdo O (Ops.g O O O ?_))))
      refine Ops.call (isBelow_c A1 A D cA cD n R rs B ee ff _ h1 hB (by omega) (hrow ff h10 (by omega)) (by have := hrl ff h10 (by omega); omega)) O O O ?_
      rintro _ w8 ⟨rfl, rfl⟩
      refine Ops.g O O O ?_
      first | refine Ops.not_p rfl rfl ?_ | refine Ops.not rfl rfl ?_
      refine Gdc O ?_
      refine Cd.cond_p _ O (fun h11 => ?_) (fun h11 => ?_)
      ·refine Gao O (Ops.add O O O (by omega) (Gdn O (tQ ?_)))
       exact ⟨k + 1, by show his.length - (k + 1) < his.length - k; omega, ⟨O, O, O, O, O, O, O, O, O, O, O, O, O, trivial⟩, by omega, O, hstep fun h => absurd (h h9 h10) h11⟩
      have hpre : 0 ≤ ee → 0 ≤ ff → ee ∈ gl B ff := fun _ _ => Classical.not_not.1 h11
      refine Gao O (Ops.len O O (Gdc O ?_))
      refine Cd.loop (α := Nat) (fun q => [(1, .pointer A1), (14, .int .i64 n), (15, .int .i64 (i : Int)), (3, .int .i64 (i : Int)), (4, .slice A4 ms.length c4), (5, .slice A5 his.length c5), (25, .slice A6 los.length c6), (26, .int .i64 (los.length : Int)), (27, .int .i64 (j : Int)), (7, .int .i64 ee), (31, .slice A5 his.length c5), (32, .int .i64 (his.length : Int)), (33, .int .i64 (k : Int)), (9, .int .i64 ff), (10, .int .i64 ((cntT (btwP B ee ff) ms q : Nat) : Int)), (49, .slice A4 ms.length c4), (50, .int .i64 (ms.length : Int)), (51, .int .i64 (q : Int))]) (fun q w' => q ≤ ms.length ∧ w' = w8) (fun q => ms.length - q) 0 ⟨O, O, O, O, O, O, O, O, O, O, O, O, O, O, O, O, O, O, trivial⟩ ⟨Nat.zero_le _, O⟩ ?_
      rintro q e w9 ⟨hq, rfl⟩
      have hcl := cntT_le (P := btwP B ee ff) (xs := ms) (q := q)
      refine Gbc O ?_
      refine Cd.cond_p _ O (fun h12 => ?_) (fun h12 => ?_)
      ·have hqm : q < ms.length := by omega
       have hx := hmm _ (gi_in hqm)
       have hyes := cntT_yes (P := btwP B ee ff) hqm
       have hno := cntT_no (P := btwP B ee ff) hqm
       refine Gao O (Ops.idx h4.2 O O O (by omega) (by omega) (Ops.ld_int h4 O (by omega) O O (Gdo O ?_)))
       generalize hxx : gi ms (q : Int) = xx at *
       refine Ops.split_p 57 O (fun h13 => ?_) (fun h13 => ?_)
       ·refine Ops.k O O O O O (Ops.k O O O O O (Ops.k O O O O O (Gdo O (Ops.g O O O (Gdo O (Ops.g O O O (Gdo O (Ops.g O O O (Gdo O ?_)))))))))
        refine Ops.split_p 65 O (fun h14 => ?_) (fun h14 => ?_)
        ·refine Ops.k O O O O O (Ops.k O O O O O (Ops.k O O O O O (Ops.g O O O (Gdc O ?_))))
         refine Cd.cond_t O ?_
         refine Gao O (Ops.add O O O (by omega) (Gdo O (Ops.add O O O (by omega) (Gdn O (tQ ?_)))))
         exact ⟨q + 1, by show ms.length - (q + 1) < ms.length - q; omega, ⟨O, O, O, O, O, O, O, O, O, O, O, O, O, O, congrArg (fun m : Nat => Value.int .i64 (m : Int)) (hyes ⟨.inl h13, .inl h14⟩).symm, O, O, O, trivial⟩, by omega, O⟩
        refine Ops.g O O O (Gdo O (Ops.g O O O (Gdo O (Ops.g O O O ?_))))
        refine Ops.call (isBelow_c A1 A D cA cD n R rs B xx ff _ h1 hB (by omega) (hrow ff (by omega) (by omega)) (by have := hrl ff (by omega) (by omega); omega)) O O O ?_
        rintro _ w10 ⟨rfl, rfl⟩
        refine Ops.g O O O (Gdc O ?_)
        refine Cd.cond_p _ O (fun h15 => ?_) (fun h15 => ?_)
        ·refine Gao O (Ops.add O O O (by omega) (Gdo O (Ops.add O O O (by omega) (Gdn O (tQ ?_)))))
         exact ⟨q + 1, by show ms.length - (q + 1) < ms.length - q; omega, ⟨O, O, O, O, O, O, O, O, O, O, O, O, O, O, congrArg (fun m : Nat => Value.int .i64 (m : Int)) (hyes ⟨.inl h13, .inr h15⟩).symm, O, O, O, trivial⟩, by omega, O⟩
        refine Gao O (Ops.add O O O (by omega) (Gdn O (tQ ?_)))
        exact ⟨q + 1, by show ms.length - (q + 1) < ms.length - q; omega, ⟨O, O, O, O, O, O, O, O, O, O, O, O, O, O, congrArg (fun m : Nat => Value.int .i64 (m : Int)) (hno fun h => h.2.elim h14 h15).symm, O, O, O, trivial⟩, by omega, O⟩
       refine Ops.g O O O (Gdo O (Ops.g O O O (Gdo O (Ops.g O O O ?_))))
       refine Ops.call (isBelow_c A1 A D cA cD n R rs B ee xx _ h1 hB (by omega) (hrow xx (by omega) (by omega)) (by have := hrl xx (by omega) (by omega); omega)) O O O ?_
       rintro _ w10 ⟨rfl, rfl⟩
       refine Gdo O ?_
       refine Ops.split_p 62 O (fun h16 => ?_) (fun h16 => ?_)
       ·refine Ops.g O O O (Gdo O (Ops.g O O O (Gdo O (Ops.g O O O (Gdo O ?_)))))
        refine Ops.split_p 65 O (fun h14 => ?_) (fun h14 => ?_)
        ·refine Ops.k O O O O O (Ops.k O O O O O (Ops.k O O O O O (Ops.g O O O (Gdc O ?_))))
         refine Cd.cond_t O ?_
         refine Gao O (Ops.add O O O (by omega) (Gdo O (Ops.add O O O (by omega) (Gdn O (tQ ?_)))))
         exact ⟨q + 1, by show ms.length - (q + 1) < ms.length - q; omega, ⟨O, O, O, O, O, O, O, O, O, O, O, O, O, O, congrArg (fun m : Nat => Value.int .i64 (m : Int)) (hyes ⟨.inr h16, .inl h14⟩).symm, O, O, O, trivial⟩, by omega, O⟩
        refine Ops.g O O O (Gdo O (Ops.g O O O (Gdo O (Ops.g O O O ?_))))
        refine Ops.call (isBelow_c A1 A D cA cD n R rs B xx ff _ h1 hB (by omega) (hrow ff (by omega) (by omega)) (by have := hrl ff (by omega) (by omega); omega)) O O O ?_
        rintro _ w11 ⟨rfl, rfl⟩
        refine Ops.g O O O (Gdc O ?_)
        refine Cd.cond_p _ O (fun h15 => ?_) (fun h15 => ?_)
        ·refine Gao O (Ops.add O O O (by omega) (Gdo O (Ops.add O O O (by omega) (Gdn O (tQ ?_)))))
         exact ⟨q + 1, by show ms.length - (q + 1) < ms.length - q; omega, ⟨O, O, O, O, O, O, O, O, O, O, O, O, O, O, congrArg (fun m : Nat => Value.int .i64 (m : Int)) (hyes ⟨.inr h16, .inr h15⟩).symm, O, O, O, trivial⟩, by omega, O⟩
        refine Gao O (Ops.add O O O (by omega) (Gdn O (tQ ?_)))
        exact ⟨q + 1, by show ms.length - (q + 1) < ms.length - q; omega, ⟨O, O, O, O, O, O, O, O, O, O, O, O, O, O, congrArg (fun m : Nat => Value.int .i64 (m : Int)) (hno fun h => h.2.elim h14 h15).symm, O, O, O, trivial⟩, by omega, O⟩
       refine Ops.k O O O O O (Ops.k O O O O O (Ops.k O O O O O (Ops.skipu O O O O (Ops.skipu O O O O (Ops.skipu O O O O (Ops.k O O O O O (Gdc O ?_)))))))
       refine Cd.cond_f O ?_
       refine Gao O (Ops.add O O O (by omega) (Gdn O (tQ ?_)))
       exact ⟨q + 1, by show ms.length - (q + 1) < ms.length - q; omega, ⟨O, O, O, O, O, O, O, O, O, O, O, O, O, O, congrArg (fun m : Nat => Value.int .i64 (m : Int)) (hno fun h => h.1.elim h13 h16).symm, O, O, O, trivial⟩, by omega, O⟩
      have hqe : q = ms.length := by omega
      subst hqe
      have hce := hcn ee ff
      refine Gax O (thenQ_x (Gfc O ?_))
      refine Cd.cond_p _ O (fun h13 => ?_) (fun h13 => ?_)
      ·refine Gao O ?_
       refine Ops.bsL [(i : Int), ee, ff] hS5 O O (by decide) (by decide) O O ?_
       intro A9 w10 hS10
       refine Gdr O (thenQ_r (Qk_ret (thenQ_r (Qk_ret (thenQ_r (Qk_ret ?_))))))
       refine ret1_s O ?_
       refine ⟨A9, 3, 3, O, ⟨fun h => ?_, fun h => ?_⟩, hS10.none⟩
       ·rw [Rd.some_of (hS10.rdI 0 rfl).2 (by decide)] at h
        cases h
       have hbad := h (i : Int) ee ff (by omega) h2 ((rkL_lo (by omega) h2).1 (by rw [hlos, ← hee]; exact gi_in hjl)) ((rkL_hi (by omega) h2).1 (by rw [hhis, ← hff]; exact gi_in hkl)) hpre
       omega
      refine Gao O (Ops.add O O O (by omega) (Gdn O (tQ ?_)))
      exact ⟨k + 1, by show his.length - (k + 1) < his.length - k; omega, ⟨O, O, O, O, O, O, O, O, O, O, O, O, O, trivial⟩, by omega, O, hstep fun _ => by omega⟩
     have hpre : 0 ≤ ee → 0 ≤ ff → ee ∈ gl B ff := fun _ h => absurd h h10
     refine Ops.k O O O O O (Ops.k O O O O O (Ops.k O O O O O (Ops.k O O O O O (Gdc O ?_))))
     refine Cd.cond_f O ?_
     refine Gao O (Ops.len O O (Gdc O ?_))
     refine Cd.loop (α := Nat) (fun q => [(1, .pointer A1), (14, .int .i64 n), (15, .int .i64 (i : Int)), (3, .int .i64 (i : Int)), (4, .slice A4 ms.length c4), (5, .slice A5 his.length c5), (25, .slice A6 los.length c6), (26, .int .i64 (los.length : Int)), (27, .int .i64 (j : Int)), (7, .int .i64 ee), (31, .slice A5 his.length c5), (32, .int .i64 (his.length : Int)), (33, .int .i64 (k : Int)), (9, .int .i64 ff), (10, .int .i64 ((cntT (btwP B ee ff) ms q : Nat) : Int)), (49, .slice A4 ms.length c4), (50, .int .i64 (ms.length : Int)), (51, .int .i64 (q : Int))]) (fun q w' => q ≤ ms.length ∧ w' = w7) (fun q => ms.length - q) 0 ⟨O, O, O, O, O, O, O, O, O, O, O, O, O, O, O, O, O, O, trivial⟩ ⟨Nat.zero_le _, O⟩ ?_
     rintro q e w9 ⟨hq, rfl⟩
     have hcl := cntT_le (P := btwP B ee ff) (xs := ms) (q := q)
     refine Gbc O ?_
     refine Cd.cond_p _ O (fun h12 => ?_) (fun h12 => ?_)
     ·have hqm : q < ms.length := by omega
      have hx := hmm _ (gi_in hqm)
      have hyes := cntT_yes (P := btwP B ee ff) hqm
      have hno := cntT_no (P := btwP B ee ff) hqm
      refine Gao O (Ops.idx h4.2 O O O (by omega) (by omega) (Ops.ld_int h4 O (by omega) O O (Gdo O ?_)))
      generalize hxx : gi ms (q : Int) = xx at *
      refine Ops.split_p 57 O (fun h13 => ?_) (fun h13 => ?_)
      ·refine Ops.k O O O O O (Ops.k O O O O O (Ops.k O O O O O (Gdo O (Ops.g O O O (Gdo O (Ops.g O O O (Gdo O (Ops.g O O O (Gdo O ?_)))))))))
       refine Ops.split_p 65 O (fun h14 => ?_) (fun h14 => ?_)
       ·refine Ops.k O O O O O (Ops.k O O O O O (Ops.k O O O O O (Ops.g O O O (Gdc O ?_))))
        refine Cd.cond_t O ?_
        refine Gao O (Ops.add O O O (by omega) (Gdo O (Ops.add O O O (by omega) (Gdn O (tQ ?_)))))
        exact ⟨q + 1, by show ms.length - (q + 1) < ms.length - q; omega, ⟨O, O, O, O, O, O, O, O, O, O, O, O, O, O, congrArg (fun m : Nat => Value.int .i64 (m : Int)) (hyes ⟨.inl h13, .inl h14⟩).symm, O, O, O, trivial⟩, by omega, O⟩
       refine Ops.g O O O (Gdo O (Ops.g O O O (Gdo O (Ops.g O O O ?_))))
       refine Ops.call (isBelow_c A1 A D cA cD n R rs B xx ff _ h1 hB (by omega) (hrow ff (by omega) (by omega)) (by have := hrl ff (by omega) (by omega); omega)) O O O ?_
       rintro _ w10 ⟨rfl, rfl⟩
       refine Ops.g O O O (Gdc O ?_)
       refine Cd.cond_p _ O (fun h15 => ?_) (fun h15 => ?_)
       ·refine Gao O (Ops.add O O O (by omega) (Gdo O (Ops.add O O O (by omega) (Gdn O (tQ ?_)))))
        exact ⟨q + 1, by show ms.length - (q + 1) < ms.length - q; omega, ⟨O, O, O, O, O, O, O, O, O, O, O, O, O, O, congrArg (fun m : Nat => Value.int .i64 (m : Int)) (hyes ⟨.inl h13, .inr h15⟩).symm, O, O, O, trivial⟩, by omega, O⟩
       refine Gao O (Ops.add O O O (by omega) (Gdn O (tQ ?_)))
       exact ⟨q + 1, by show ms.length - (q + 1) < ms.length - q; omega, ⟨O, O, O, O, O, O, O, O, O, O, O, O, O, O, congrArg (fun m : Nat => Value.int .i64 (m : Int)) (hno fun h => h.2.elim h14 h15).symm, O, O, O, trivial⟩, by omega, O⟩
      refine Ops.g O O O (Gdo O (Ops.g O O O (Gdo O (Ops.g O O O ?_))))
      refine Ops.call (isBelow_c A1 A D cA cD n R rs B ee xx _ h1 hB (by omega) (hrow xx (by omega) (by omega)) (by have := hrl xx (by omega) (by omega); omega)) O O O ?_
      rintro _ w10 ⟨rfl, rfl⟩
      refine Gdo O ?_
      refine Ops.split_p 62 O (fun h16 => ?_) (fun h16 => ?_)
      ·refine Ops.g O O O (Gdo O (Ops.g O O O (Gdo O (Ops.g O O O (Gdo O ?_)))))
       refine Ops.split_p 65 O (fun h14 => ?_) (fun h14 => ?_)
       ·refine Ops.k O O O O O (Ops.k O O O O O (Ops.k O O O O O (Ops.g O O O (Gdc O ?_))))
        refine Cd.cond_t O ?_
        refine Gao O (Ops.add O O O (by omega) (Gdo O (Ops.add O O O (by omega) (Gdn O (tQ ?_)))))
        exact ⟨q + 1, by show ms.length - (q + 1) < ms.length - q; omega, ⟨O, O, O, O, O, O, O, O, O, O, O, O, O, O, congrArg (fun m : Nat => Value.int .i64 (m : Int)) (hyes ⟨.inr h16, .inl h14⟩).symm, O, O, O, trivial⟩, by omega, O⟩
       refine Ops.g O O O (Gdo O (Ops.g O O O (Gdo O (Ops.g O O O ?_))))
       refine Ops.call (isBelow_c A1 A D cA cD n R rs B xx ff _ h1 hB (by omega) (hrow ff (by omega) (by omega)) (by have := hrl ff (by omega) (by omega); omega)) O O O ?_
       rintro _ w11 ⟨rfl, rfl⟩
       refine Ops.g O O O (Gdc O ?_)
       refine Cd.cond_p _ O (fun h15 => ?_) (fun h15 => ?_)
       ·refine Gao O (Ops.add O O O (by omega) (Gdo O (Ops.add O O O (by omega) (Gdn O (tQ ?_)))))
        exact ⟨q + 1, by show ms.length - (q + 1) < ms.length - q; omega, ⟨O, O, O, O, O, O, O, O, O, O, O, O, O, O, congrArg (fun m : Nat => Value.int .i64 (m : Int)) (hyes ⟨.inr h16, .inr h15⟩).symm, O, O, O, trivial⟩, by omega, O⟩
       refine Gao O (Ops.add O O O (by omega) (Gdn O (tQ ?_)))
       exact ⟨q + 1, by show ms.length - (q + 1) < ms.length - q; omega, ⟨O, O, O, O, O, O, O, O, O, O, O, O, O, O, congrArg (fun m : Nat => Value.int .i64 (m : Int)) (hno fun h => h.2.elim h14 h15).symm, O, O, O, trivial⟩, by omega, O⟩
      refine Ops.k O O O O O (Ops.k O O O O O (Ops.k O O O O O (Ops.skipu O O O O (Ops.skipu O O O O (Ops.skipu O O O O (Ops.k O O O O O (Gdc O ?_)))))))
      refine Cd.cond_f O ?_
      refine Gao O (Ops.add O O O (by omega) (Gdn O (tQ ?_)))
      exact ⟨q + 1, by show ms.length - (q + 1) < ms.length - q; omega, ⟨O, O, O, O, O, O, O, O, O, O, O, O, O, O, congrArg (fun m : Nat => Value.int .i64 (m : Int)) (hno fun h => h.1.elim h13 h16).symm, O, O, O, trivial⟩, by omega, O⟩
     have hqe : q = ms.length := by omega
     subst hqe
     have hce := hcn ee ff
     refine Gax O (thenQ_x (Gfc O ?_))
     refine Cd.cond_p _ O (fun h13 => ?_) (fun h13 => ?_)
     ·refine Gao O ?_
      refine Ops.bsL [(i : Int), ee, ff] hS5 O O (by decide) (by decide) O O ?_
      intro A9 w10 hS10
      refine Gdr O (thenQ_r (Qk_ret (thenQ_r (Qk_ret (thenQ_r (Qk_ret ?_))))))
      refine ret1_s O ?_
      refine ⟨A9, 3, 3, O, ⟨fun h => ?_, fun h => ?_⟩, hS10.none⟩
      ·rw [Rd.some_of (hS10.rdI 0 rfl).2 (by decide)] at h
       cases h
      have hbad := h (i : Int) ee ff (by omega) h2 ((rkL_lo (by omega) h2).1 (by rw [hlos, ← hee]; exact gi_in hjl)) ((rkL_hi (by omega) h2).1 (by rw [hhis, ← hff]; exact gi_in hkl)) hpre
      omega
     refine Gao O (Ops.add O O O (by omega) (Gdn O (tQ ?_)))
     exact ⟨k + 1, by show his.length - (k + 1) < his.length - k; omega, ⟨O, O, O, O, O, O, O, O, O, O, O, O, O, trivial⟩, by omega, O, hstep fun _ => by omega⟩
    have hpre : 0 ≤ ee → 0 ≤ ff → ee ∈ gl B ff := fun h _ => absurd h h9
    refine Ops.k O O O O O (Ops.k O O O O O (Gdo O (Ops.k O O O O O (Ops.k O O O O O (Ops.k O O O O O (Ops.k O O O O O (Gdc O ?_)))))))
    refine Cd.cond_f O ?_
    refine Gao O (Ops.len O O (Gdc O ?_))
    refine Cd.loop (α := Nat) (fun q => [(1, .pointer A1), (14, .int .i64 n), (15, .int .i64 (i : Int)), (3, .int .i64 (i : Int)), (4, .slice A4 ms.length c4), (5, .slice A5 his.length c5), (25, .slice A6 los.length c6), (26, .int .i64 (los.length : Int)), (27, .int .i64 (j : Int)), (7, .int .i64 ee), (31, .slice A5 his.length c5), (32, .int .i64 (his.length : Int)), (33, .int .i64 (k : Int)), (9, .int .i64 ff), (10, .int .i64 ((cntT (btwP B ee ff) ms q : Nat) : Int)), (49, .slice A4 ms.length c4), (50, .int .i64 (ms.length : Int)), (51, .int .i64 (q : Int))]) (fun q w' => q ≤ ms.length ∧ w' = w7) (fun q => ms.length - q) 0 ⟨O, O, O, O, O, O, O, O, O, O, O, O, O, O, O, O, O, O, trivial⟩ ⟨Nat.zero_le _, O⟩ ?_
    rintro q e w9 ⟨hq, rfl⟩
    have hcl := cntT_le (P := btwP B ee ff) (xs := ms) (q := q)
    refine Gbc O ?_
    refine Cd.cond_p _ O (fun h12 => ?_) (fun h12 => ?_)
    ·have hqm : q < ms.length := by omega
     have hx := hmm _ (gi_in hqm)
     have hyes := cntT_yes (P := btwP B ee ff) hqm
     have hno := cntT_no (P := btwP B ee ff) hqm
     refine Gao O (Ops.idx h4.2 O O O (by omega) (by omega) (Ops.ld_int h4 O (by omega) O O (Gdo O ?_)))
     generalize hxx : gi ms (q : Int) = xx at *
     refine Ops.split_p 57 O (fun h13 => ?_) (fun h13 => ?_)
     ·refine Ops.k O O O O O (Ops.k O O O O O (Ops.k O O O O O (Gdo O (Ops.g O O O (Gdo O (Ops.g O O O (Gdo O (Ops.g O O O (Gdo O ?_)))))))))
      refine Ops.split_p 65 O (fun h14 => ?_) (fun h14 => ?_)
      ·refine Ops.k O O O O O (Ops.k O O O O O (Ops.k O O O O O (Ops.g O O O (Gdc O ?_))))
       refine Cd.cond_t O ?_
       refine Gao O (Ops.add O O O (by omega) (Gdo O (Ops.add O O O (by omega) (Gdn O (tQ ?_)))))
       exact ⟨q + 1, by show ms.length - (q + 1) < ms.length - q; omega, ⟨O, O, O, O, O, O, O, O, O, O, O, O, O, O, congrArg (fun m : Nat => Value.int .i64 (m : Int)) (hyes ⟨.inl h13, .inl h14⟩).symm, O, O, O, trivial⟩, by omega, O⟩
      refine Ops.g O O O (Gdo O (Ops.g O O O (Gdo O (Ops.g O O O ?_))))
      refine Ops.call (isBelow_c A1 A D cA cD n R rs B xx ff _ h1 hB (by omega) (hrow ff (by omega) (by omega)) (by have := hrl ff (by omega) (by omega); omega)) O O O ?_
      rintro _ w10 ⟨rfl, rfl⟩
      refine Ops.g O O O (Gdc O ?_)
      refine Cd.cond_p _ O (fun h15 => ?_) (fun h15 => ?_)
      ·refine Gao O (Ops.add O O O (by omega) (Gdo O (Ops.add O O O (by omega) (Gdn O (tQ ?_)))))
       exact ⟨q + 1, by show ms.length - (q + 1) < ms.length - q; omega, ⟨O, O, O, O, O, O, O, O, O, O, O, O, O, O, congrArg (fun m : Nat => Value.int .i64 (m : Int)) (hyes ⟨.inl h13, .inr h15⟩).symm, O, O, O, trivial⟩, by omega, O⟩
      refine Gao O (Ops.add O O O (by omega) (Gdn O (tQ ?_)))
      exact ⟨q + 1, by show ms.length - (q + 1) < ms.length - q; omega, ⟨O, O, O, O, O, O, O, O, O, O, O, O, O, O, congrArg (fun m : Nat => Value.int .i64 (m : Int)) (hno fun h => h.2.elim h14 h15).symm, O, O, O, trivial⟩, by omega, O⟩
     refine Ops.g O O O (Gdo O (Ops.g O O O (Gdo O (Ops.g O O O ?_))))
     refine Ops.call (isBelow_c A1 A D cA cD n R rs B ee xx _ h1 hB (by omega) (hrow xx (by omega) (by omega)) (by have := hrl xx (by omega) (by omega); omega)) O O O ?_
     rintro _ w10 ⟨rfl, rfl⟩
     refine Gdo O ?_
     refine Ops.split_p 62 O (fun h16 => ?_) (fun h16 => ?_)
     ·refine Ops.g O O O (Gdo O (Ops.g O O O (Gdo O (Ops.g O O O (Gdo O ?_)))))
      refine Ops.split_p 65 O (fun h14 => ?_) (fun h14 => ?_)
      ·refine Ops.k O O O O O (Ops.k O O O O O (Ops.k O O O O O (Ops.g O O O (Gdc O ?_))))
       refine Cd.cond_t O ?_
       refine Gao O (Ops.add O O O (by omega) (Gdo O (Ops.add O O O (by omega) (Gdn O (tQ ?_)))))
       exact ⟨q + 1, by show ms.length - (q + 1) < ms.length - q; omega, ⟨O, O, O, O, O, O, O, O, O, O, O, O, O, O, congrArg (fun m : Nat => Value.int .i64 (m : Int)) (hyes ⟨.inr h16, .inl h14⟩).symm, O, O, O, trivial⟩, by omega, O⟩
      refine Ops.g O O O (Gdo O (Ops.g O O O (Gdo O (Ops.g O O O ?_))))
      refine Ops.call (isBelow_c A1 A D cA cD n R rs B xx ff _ h1 hB (by omega) (hrow ff (by omega) (by omega)) (by have := hrl ff (by omega) (by omega); omega)) O O O ?_
      rintro _ w11 ⟨rfl, rfl⟩
      refine Ops.g O O O (Gdc O ?_)
      refine Cd.cond_p _ O (fun h15 => ?_) (fun h15 => ?_)
      ·refine Gao O (Ops.add O O O (by omega) (Gdo O (Ops.add O O O (by omega) (Gdn O (tQ ?_)))))
       exact ⟨q + 1, by show ms.length - (q + 1) < ms.length - q; omega, ⟨O, O, O, O, O, O, O, O, O, O, O, O, O, O, congrArg (fun m : Nat => Value.int .i64 (m : Int)) (hyes ⟨.inr h16, .inr h15⟩).symm, O, O, O, trivial⟩, by omega, O⟩
      refine Gao O (Ops.add O O O (by omega) (Gdn O (tQ ?_)))
      exact ⟨q + 1, by show ms.length - (q + 1) < ms.length - q; omega, ⟨O, O, O, O, O, O, O, O, O, O, O, O, O, O, congrArg (fun m : Nat => Value.int .i64 (m : Int)) (hno fun h => h.2.elim h14 h15).symm, O, O, O, trivial⟩, by omega, O⟩
     refine Ops.k O O O O O (Ops.k O O O O O (Ops.k O O O O O (Ops.skipu O O O O (Ops.skipu O O O O (Ops.skipu O O O O (Ops.k O O O O O (Gdc O ?_)))))))
     refine Cd.cond_f O ?_
     refine Gao O (Ops.add O O O (by omega) (Gdn O (tQ ?_)))
     exact ⟨q + 1, by show ms.length - (q + 1) < ms.length - q; omega, ⟨O, O, O, O, O, O, O, O, O, O, O, O, O, O, congrArg (fun m : Nat => Value.int .i64 (m : Int)) (hno fun h => h.1.elim h13 h16).symm, O, O, O, trivial⟩, by omega, O⟩
    have hqe : q = ms.length := by omega
    subst hqe
    have hce := hcn ee ff
    refine Gax O (thenQ_x (Gfc O ?_))
    refine Cd.cond_p _ O (fun h13 => ?_) (fun h13 => ?_)
    ·refine Gao O ?_
     refine Ops.bsL [(i : Int), ee, ff] hS5 O O (by decide) (by decide) O O ?_
     intro A9 w10 hS10
     refine Gdr O (thenQ_r (Qk_ret (thenQ_r (Qk_ret (thenQ_r (Qk_ret ?_))))))
     refine ret1_s O ?_
     refine ⟨A9, 3, 3, O, ⟨fun h => ?_, fun h => ?_⟩, hS10.none⟩
     ·rw [Rd.some_of (hS10.rdI 0 rfl).2 (by decide)] at h
      cases h
     have hbad := h (i : Int) ee ff (by omega) h2 ((rkL_lo (by omega) h2).1 (by rw [hlos, ← hee]; exact gi_in hjl)) ((rkL_hi (by omega) h2).1 (by rw [hhis, ← hff]; exact gi_in hkl)) hpre
     omega
    refine Gao O (Ops.add O O O (by omega) (Gdn O (tQ ?_)))
    exact ⟨k + 1, by show his.length - (k + 1) < his.length - k; omega, ⟨O, O, O, O, O, O, O, O, O, O, O, O, O, trivial⟩, by omega, O, hstep fun _ => by omega⟩
   refine Gax O (thenQ_x (Gfo O (Ops.add O O O (by omega) (Gdn O (tQ ?_)))))
   exact ⟨j + 1, by show los.length - (j + 1) < los.length - j; omega, ⟨O, O, O, O, O, O, O, O, O, trivial⟩, by omega, O, fun p hp f hf => by
    by_cases ep : p = j
    ·subst ep
     rw [hee]
     obtain ⟨q, hq, e9⟩ := List.mem_iff_getElem.1 hf
     rw [← gi_mem hq] at e9
     have := hhi q (by omega)
     rwa [e9] at this
    exact hlo p (by omega) f hf⟩
  refine Gax O (thenQ_x (Gfo O (Ops.add O O O (by omega) (Gdn O (tQ ?_)))))
  exact ⟨i + 1, by show n.toNat - (i + 1) < n.toNat - i; omega, ⟨O, O, O, trivial⟩, by show ((i + 1 : Nat) : Int) ≤ n; omega, fun i' e f h0 h' he hf hpre => by
   by_cases ei : i' = (i : Int)
   ·subst ei
    rw [hlos] at he; rw [hhis] at hf
    obtain ⟨q, hq, e9⟩ := List.mem_iff_getElem.1 he
    rw [← gi_mem hq] at e9
    have := hlo q (by omega) f hf
    rw [e9] at this
    exact this hpre
   exact hdn i' e f h0 (by have h' : i' < ((i + 1 : Nat) : Int) := h'; omega) he hf hpre, hst5b⟩
 refine Gax O (thenQ_x (Gfr O ?_))
 refine ret1_s O ?_
 exact ⟨none, 0, 0, O, ⟨fun _ i' e f h0 h3 h4 h5 h6 => hdn i' e f h0 (by omega) ((rkL_lo h0 h3).2 h4) ((rkL_hi h0 h3).2 h5) h6, fun _ => O⟩, hS2⟩
theorem flgP_fit {n : Nat} {R : List Int} {B : List (List Int)} (hn : 1 ≤ n) (hb : R.length ≤ 500) : ∀ x ∈ flgP n R B, x.length = n ∧ ∀ e ∈ x, 0 ≤ e ∧ e < (R.length : Int) := fun x hx => by
 obtain ⟨h1, h2, _⟩ := (flgP_mem hn).1 hx
 refine ⟨h1, fun e he => ?_⟩
 obtain ⟨k, hk, rfl⟩ := List.mem_iff_getElem.1 he
 rw [← gi_mem hk]
 exact (h2 k (by omega)).1
theorem bool_dec (b : Bool) : b = decide (b = true) := by cases b <;> rfl
theorem isPolytope_c (n : Nat) (A D : Option Addr) (cA cD : Nat) (R : List Int) (rs : List SlV) (B : List (List Int)) (Af : Option Addr) (cf : Nat) (rsF : List SlV) (w : World) (hT : Tab w) (hR : RdI w A R.length R) (hB : RowsI w D B.length rs B) (hP : PosP n R B) (hF : RowsI w Af (flgP n R B).length rsF (flgP n R B)) (hf4 : (flgP n R B).length ≤ 400) :
  Ret Tryz.prog 82 [.agg #[.int .i64 n, .slice A R.length cA, .slice D B.length cD], .slice Af (flgP n R B).length cf] w (fun v w' => ∃ b : Bool, v = .bool b ∧ (b = true ↔ PlyP n R B) ∧ St w w' []) := by
 have hn := hP.n1
 have hbg := hP.big
 have hfit := flgP_fit (n := n) (R := R) (B := B) (by omega) hbg
 have hfit2 : ∀ x ∈ flgP n R B, x.length = n ∧ ∀ e ∈ x, 0 ≤ e ∧ e ≤ 1000000 := fun x hx => ⟨(hfit x hx).1, fun e he => by have := (hfit x hx).2 e he; omega⟩
 have hnd : (flgP n R B).Nodup := (flgP_SL n R B).nodup
 refine Ret.of_cd Tryz.func82 O Tryz.ntmps82 O (post1 O) (Gbo O (Ops.box3T (St.refl w) O O ?_))
 intro A1 w1 hS1
 have h1 : Rd w1 A1 3 (fun j => [Value.int .i64 n, .slice A R.length cA, .slice D B.length cD].getD j undef) := hS1.rd 0 O
 have hR := hS1.oldI hR
 have hB := hS1.oldRows hB
 have hF := hS1.oldRows hF
 have hT := hT.later hS1.below
 have hS1 := hS1.none
 refine Gdo O (Ops.len O O (Gdo O ?_))
 refine Ops.split_p 8 O (fun h2 => ?_) (fun h2 => ?_)
 ·have hne : flgP n R B ≠ [] := fun h => by rw [h] at h2; exact absurd h2 (by decide)
  refine Ops.g O O O (Ops.ld_agg 2 h1 O O O ?_)
  refine Ops.g O O O (Gdo O (Ops.g O O O ?_))
  refine Ops.call (isPure_c n A D cA R.length B.length cD Af (flgP n R B).length cf rsF (flgP n R B) _ hF hbg (fun l hl => ⟨by have := (hfit l hl).1; omega, (hfit l hl).2⟩) (by omega)) O O O ?_
  rintro _ w2 ⟨b, rfl, hb, hst⟩
  have h1 := Rd.below h1 hst.below
  have hR := hst.oldI hR
  have hB := hst.oldRows hB
  have hF := hst.oldRows hF
  have hT := hT.later hst.below
  have hS1 := hS1.later hst.below
  have hpu : b = true ↔ PurP n R B := hb
  clear hst hb
  rw [bool_dec b]
  refine Gdo O ?_
  refine Ops.split_p 13 O (fun h3 => ?_) (fun h3 => ?_)
  ·refine Ops.g O O O (Ops.ld_agg 2 h1 O O O (Ops.g O O O (Ops.call (diamondFault_c n A D cA cD R rs B _ hR hB hP) O O O ?_)))
   rintro _ w3 ⟨A9, n9, c9, rfl, hd, hst⟩
   have hF := hst.oldRows hF
   have hT := hT.later hst.below
   have hS1 := hS1.later hst.below
   clear hst
   refine Ops.g O O O (Ops.eqNil O O O ?_)
   rw [bool_dec A9.isNone]
   refine Gdo O ?_
   refine Ops.split_p 18 O (fun h4 => ?_) (fun h4 => ?_)
   ·refine Ops.g O O O (Gdo O (Ops.g O O O ?_))
    refine Ops.call (connectionFault_c Af (flgP n R B).length cf rsF (flgP n R B) n _ hT hF (by omega) (by omega) hfit2 hnd) O O O ?_
    rintro _ w4 ⟨A8, n8, c8, rfl, hc, hst⟩
    have hS1 := hS1.later hst.below
    refine Ops.g O O O (Ops.eqNil O O O (Gdr O (ret1_b O ?_)))
    exact ⟨A8.isNone, O, ⟨fun h => ⟨hne, hpu.1 h3, hd.1 h4, hc.1 h⟩, fun h => hc.2 h.2.2.2⟩, hS1⟩
   refine Ops.k O O O O O (Ops.k O O O O O (Ops.k O O O O O (Gdr O ?_)))
   refine ret1_b O ?_
   exact ⟨false, rfl, ⟨fun h => (by cases h), fun h => absurd (hd.2 h.2.2.1) h4⟩, hS1⟩
  refine Ops.k O O O O O (Ops.k O O O O O (Ops.k O O O O O (Gdo O (Ops.k O O O O O (Ops.k O O O O O (Ops.k O O O O O (Gdr O ?_)))))))
  refine ret1_b O ?_
  exact ⟨false, rfl, ⟨fun h => (by cases h), fun h => absurd (hpu.2 h.2.1) h3⟩, hS1⟩
 refine Ops.k O O O O O (Ops.k O O O O O (Ops.k O O O O O (Gdo O (Ops.k O O O O O (Ops.k O O O O O (Ops.k O O O O O (Gdo O (Ops.k O O O O O (Ops.k O O O O O (Ops.k O O O O O (Gdr O ?_)))))))))))
 refine ret1_b O ?_
 exact ⟨false, rfl, ⟨fun h => (by cases h), fun h => absurd (List.length_pos_iff.2 h.1) (by omega)⟩, hS1⟩
/-
 The program's test of polytopality, and all faces, walked. Conditions: the library's table of powers of ten holds what the program's text lays there.
-/
noncomputable def flM (M : List (List Int)) : List (List Int) := flgP M.length (fpR M M.length) (fpB M)
noncomputable def ptC (M : List (List Int)) : Int := if 500 < offP M M.length ∨ 400 < (flM M).length then 3 else 0
def GoodP (M : List (List Int)) : Prop := offP M M.length ≤ 500 ∧ (flM M).length = (gl M 0).length ∧ PlyP M.length (fpR M M.length) (fpB M)
theorem posP_of {M : List (List Int)} (hM : Mani M) (h : offP M M.length ≤ 500) : PosP (M.length : Int) (fpR M M.length) (fpB M) := fp_pos hM h
theorem isPolytopal_c (A : Option Addr) (n c : Nat) (rs : List SlV) (M : List (List Int)) (w : World) (hT : Tab w) (hR : RowsI w A n rs M) (hM : Mani M) :
  Ret Tryz.prog 94 [.agg #[.slice A n c]] w (fun v w' => ∃ b : Bool, v = .tuple #[.bool b, .int .i64 (ptC M)] ∧ (b = true ↔ GoodP M) ∧ St w w' []) := by
 have hl := hR.len
 have h5 := hM.1
 have h4 := hM.2.1
 have hRl := fpR_len M M.length
 have hBl := fpB_len M
 have hr0 := hR.rowLen (k := 0) (by omega) (by omega)
 refine Ret.of_cd Tryz.func94 O Tryz.ntmps94 O (post2 O) (Gbo O (Ops.box1 (St.refl w) O O ?_))
 intro A1 w1 hS1
 refine Gdo O (Ops.ld_agg 0 (hS1.rd 0 O) O O O (Ops.call (facePoset_c A n c rs M _ (hS1.oldRows hR) hM) O O O ?_))
 rintro _ w2 (⟨hbig, rfl, hst⟩ | ⟨hbig, AR, cR, AD, cD, rsD, rfl, hrD, hst⟩)
 ·have hS2 := hS1.later hst.below
  refine Gdo O (Ops.newP hS2 O ?_)
  intro A4 w3 hS3
  refine Ops.st_agg 3 0 hS3 O O O O O O O ?_
  intro w4 hS4
  refine Gdo O ?_
  first | refine Ops.not_p rfl rfl ?_ | refine Ops.not rfl rfl ?_
  refine Gdc O (Cd.cond_t O (Gar O (ret2_bi O O ?_)))
  unfold ptC
  rw [if_pos (.inl hbig)]
  exact ⟨false, rfl, ⟨fun h => (by cases h), fun h => by have := h.1; omega⟩, hS4.none⟩
 have hP := posP_of hM hbig
 have hS2 := hS1.call hst
 clear hst hS1
 refine Gdo O (Ops.newP hS2 O ?_)
 intro A4 w3 hS3
 refine Ops.st_agg 3 0 hS3 O O O O O O O ?_
 intro w4 hS4
 have hS4 : St w w4 (poB A4 (M.length : Int) AR (offP M M.length) cR AD (offP M M.length) cD :: (CkI 2 AR (offP M M.length) cR (fpR M M.length) :: ((mat 32 2 AD (offP M M.length) cD rsD (fpB M) ++ []) ++ [Bx 24 1 A1 [.slice A n c]]))) := hS4
 have hR4 : RdI w4 AR (fpR M M.length).length (fpR M M.length) := by rw [hRl]; exact hS4.rdI 1 O
 have hB4 : RowsI w4 AD (fpB M).length rsD (fpB M) := by
  rw [hBl]
  have h9 := hS4.sub (show (mat 32 2 AD (offP M M.length) cD rsD (fpB M)).Sublist _ from List.Sublist.cons _ (List.Sublist.cons _ (by rw [List.append_nil]; exact List.sublist_append_left _ _)))
  exact h9.rowsI1 hBl
 have hb4 := hS4.rd 0 O
 have hb1 : Rd w4 A1 1 (fun _ => .slice A n c) := by
  have h9 := hS4.sub (show List.Sublist [Bx 24 1 A1 [.slice A n c]] _ from List.Sublist.cons _ (List.Sublist.cons _ (List.sublist_append_right _ _)))
  exact Rd.one (h9.rd 0 O)
 refine Gdo O ?_
 first | refine Ops.not_p rfl rfl ?_ | refine Ops.not rfl rfl ?_
 refine Gdc O (Cd.cond_f O (Gao O (Ops.ld_agg 2 hb4 O O O ?_)))
 refine Ops.call (flagsOf_c M.length AR AD cR cD (fpR M M.length) rsD (fpB M) _ hR4 hB4 hP) O (by rw [hRl, hBl]; rfl) O ?_
 rintro _ w5 ⟨Af, cf, rsf, rfl, hrf, hst⟩
 have hS5 := hS4.later hst.below
 have hR5 := hR4.later hst.below
 have hB5 := hB4.later hst.below
 have hb5 := Rd.below hb4 hst.below
 have hb1 := Rd.below hb1 hst.below
 by_cases hfl : (flgP M.length (fpR M M.length) (fpB M)).length ≤ 400
 ·
  have hL : flgL M.length (fpR M M.length) (fpB M) = flgP M.length (fpR M M.length) (fpB M) := by unfold flgL; rw [if_pos hfl]
  have hK : flgK M.length (fpR M M.length) (fpB M) = 0 := by unfold flgK; rw [if_pos hfl]
  have hpt : ptC M = 0 := by unfold ptC; rw [if_neg (by show ¬ (500 < offP M M.length ∨ 400 < (flgP M.length (fpR M M.length) (fpB M)).length); omega)]
  rw [hL] at hrf hst ⊢
  rw [hK, hpt]
  have hF5 : RowsI w5 Af (flgP M.length (fpR M M.length) (fpB M)).length rsf (flgP M.length (fpR M M.length) (fpB M)) := by
   rw [List.append_nil] at hst
   exact hst.rowsI1 O
  refine Gdo O ?_
  refine Ops.split_p 22 O (fun _ => ?_) (fun h => absurd O h)
  refine Ops.g O O O (Gdo O (Ops.g O O O ?_))
  refine Ops.call (sizeR_c _ _ _ _) O O O ?_
  rintro _ w5 ⟨rfl, rfl⟩
  refine Ops.g O O O (Ops.call (flags_c A1 A n c rs M _ _ hb1 O (hS5.oldRows hR) (by omega)) O O O ?_)
  rintro _ w5 ⟨rfl, rfl⟩
  refine Ops.g O O O (Gdo O ?_)
  refine Ops.split_p 28 O (fun h6 => ?_) (fun h6 => ?_)
  ·refine Ops.g O O O (Ops.ld_agg 2 hb5 O O O ?_)
   refine Ops.g O O O (Gdo O (Ops.g O O O ?_))
   refine Ops.call (isPolytope_c M.length AR AD cR cD (fpR M M.length) rsD (fpB M) Af cf rsf _ (hT.later hS5.below) hR5 hB5 hP hF5 hfl) O (by rw [hRl, hBl]; rfl) O ?_
   rintro _ w6 ⟨b, rfl, hb, hst2⟩
   refine Gdr O (ret2_bi O O ?_)
   refine ⟨b, O, hb.trans ⟨fun h => ⟨hbig, ?_, h⟩, fun h => h.2.2⟩, (hS5.later hst2.below).none⟩
   show (flgP M.length (fpR M M.length) (fpB M)).length = _
   omega
  refine Ops.k O O O O O (Ops.k O O O O O (Ops.k O O O O O (Gdr O ?_)))
  refine ret2_bi O O ?_
  refine ⟨false, rfl, ⟨fun h => (by cases h), fun h => ?_⟩, hS5.none⟩
  have h9 : (flgP M.length (fpR M M.length) (fpB M)).length = (gl M 0).length := h.2.1
  omega
 have hL : flgL M.length (fpR M M.length) (fpB M) = [] := by unfold flgL; rw [if_neg hfl]
 have hK : flgK M.length (fpR M M.length) (fpB M) = 3 := by unfold flgK; rw [if_neg hfl]
 have hpt : ptC M = 3 := by unfold ptC; rw [if_pos (.inr (by show 400 < (flgP M.length (fpR M M.length) (fpB M)).length; omega))]
 rw [hL] at hrf hst ⊢
 rw [hK, hpt]
 refine Gdo O ?_
 refine Ops.split_p 22 O (fun h => absurd h (by decide)) (fun _ => ?_)
 refine Ops.k O O O O O (Ops.k O O O O O (Ops.k O O O O O (Ops.k O O O O O (Gdo O (Ops.k O O O O O (Ops.k O O O O O (Ops.k O O O O O (Gdr O ?_))))))))
 refine ret2_bi O O ?_
 refine ⟨false, rfl, ⟨fun h => (by cases h), fun h => ?_⟩, hS5.none⟩
 have h9 : (flgP M.length (fpR M M.length) (fpB M)).length = (gl M 0).length := h.2.1
 omega
/-
 All faces of a polytopal maniplex, walked in the program. Conditions: the library's table of powers of ten holds what the program's text lays there.
-/
section
variable {P : Program} {N : Nat} {ops : Array Oper} {K : Env → World → Prop} {rest : List Oper} {e : Env} {w0 w w' : World} {ks : List Ck} {d : Nat} {ty : TypeId} {pos : String} {af : Array Edge}
end
/-
 A statement whose order Go leaves open, by a property of what is done so far.
-/
def backB (l : List Oper) : Bool := l.zipIdx.all fun p => (aft p.1).all fun ed => Nat.blt ed.on p.2
theorem deps_of {o : Oper} {S : Nat → Bool} (h : ∀ ed ∈ aft o, S ed.on = true) (k : Nat) (hk : (aft o).any (fun ed => Nat.beq ed.on k) = true) : S k = true := by
 obtain ⟨ed, hed, hb⟩ := List.any_eq_true.1 hk
 rw [← Nat.eq_of_beq_eq_true hb]
 exact h ed hed
section
variable {P : Program} {N : Nat} {e : Env} {w : World}
theorem Cd.drawS {id : Nat} {l : List Oper} {Q : Post} (hm : P.follows .mixedOrders = true) (hbk : backB l = true) (I : (Nat → Bool) → Env → World → Prop) (h0 : ∀ w1, Below w.heap.size w w1 → I (fun _ => false) e w1)
    (hstep : ∀ (S : Nat → Bool) (i : Nat) (o : Oper) (e1 : Env) (w1 : World), l[i]? = some o → S i = false → (∀ ed ∈ aft o, S ed.on = true) → (∀ (k : Nat) (o' : Oper), S k = true → l[k]? = some o' → ∀ ed ∈ aft o', S ed.on = true) → I S e1 w1 → Ops P N l.toArray (fun e2 w2 => I (fun k => Nat.beq k i || S k) e2 w2) [o] e1 w1)
    (hend : ∀ (S : Nat → Bool) (e1 : Env) (w1 : World), (∀ i, i < l.length → S i = true) → I S e1 w1 → Q .normal e1 w1) : Cd P N (.region id l.toArray true) Q e w := .mk' fun a ha => by
  have hback : ∀ (i : Nat) (o : Oper), l[i]? = some o → ∀ ed ∈ aft o, ed.on < i := by
    intro i o ho ed hed
    simp only [backB, List.all_eq_true] at hbk
    have := hbk (o, i) (by
      obtain ⟨hi, hio⟩ := List.getElem?_eq_some_iff.1 ho
      rw [List.mem_iff_getElem?]
      exact ⟨i, by simp [ho]⟩)
    simpa [Nat.blt_eq] using this ed hed
  refine wp_region_any hm ?_
  have key : ∀ (fuel : Nat) (listed : Array Bool) (a1 : Act) (e1 : Env) (w1 : World), Rep N a1 e1 → listed.size = l.length →
      (∀ (i : Nat) (o : Oper), listed.getD i false = true → l[i]? = some o → ∀ ed ∈ aft o, listed.getD ed.on false = true) → I (fun k => listed.getD k false) e1 w1 → (l.length - fuel ≤ (List.range l.length).countP fun i => listed.getD i false) →
      wpAny P .any l.toArray (low N Q) fuel listed a1 w1 := by
    have hfin : ∀ (listed : Array Bool) (a1 : Act) (e1 : Env) (w1 : World), Rep N a1 e1 → I (fun k => listed.getD k false) e1 w1 → (∀ i, i < l.length → listed.getD i false = true) → low N Q .normal a1 w1 :=
      fun listed a1 e1 w1 hr hI hall => ⟨e1, hr, hend _ e1 w1 hall hI⟩
    have hready : ∀ (listed : Array Bool), listed.size = l.length → Region.ready .any l.toArray listed = [] → ∀ i, i < l.length → listed.getD i false = true := by
      intro listed hsz hnil i
      induction i using Nat.strongRecOn with
      | _ i ih =>
        intro hi
        cases hli : listed.getD i false with
        | true => rfl
        | false =>
          exfalso
          have : i ∈ Region.ready .any l.toArray listed := by
            rw [mem_ready]
            refine ⟨?_, l[i], by simp [hi], fun ed hed hbd => ih ed.on (hback i _ (List.getElem?_eq_getElem hi) ed (mem_aft.2 ⟨hed, hbd⟩)) (by have := hback i _ (List.getElem?_eq_getElem hi) ed (mem_aft.2 ⟨hed, hbd⟩); omega)⟩
            rw [Array.getD_eq_getD_getElem?, Array.getElem?_eq_getElem (by omega)] at hli ⊢
            exact hli
          rw [hnil] at this
          cases this
    intro fuel
    induction fuel with
    | zero =>
      intro listed a1 e1 w1 hr hsz hcl hI hcnt
      have hall : ∀ i, i < l.length → listed.getD i false = true := by
        have h4 : (List.range l.length).countP (fun i => listed.getD i false) = (List.range l.length).length := by
          have := List.countP_le_length (p := fun i => listed.getD i false) (l := List.range l.length)
          simp at this hcnt ⊢; omega
        rw [List.countP_eq_length] at h4
        intro i hi
        exact h4 i (by simpa using hi)
      refine ⟨?_, hfin listed a1 e1 w1 hr hI hall⟩
      rw [List.eq_nil_iff_forall_not_mem]
      intro i hi
      obtain ⟨h5, o, ho, _⟩ := mem_ready.1 hi
      have hil : i < l.length := by
        rcases Nat.lt_or_ge i l.length with h | h
        · exact h
        · simp [List.getElem?_eq_none h] at ho
      have h6 := hall i hil
      rw [Array.getD_eq_getD_getElem?, Array.getElem?_eq_getElem (by omega)] at h5 h6
      simp at h5 h6
      rw [h5] at h6; cases h6
    | succ fuel ih =>
      intro listed a1 e1 w1 hr hsz hcl hI hcnt
      refine ⟨fun hnil => hfin listed a1 e1 w1 hr hI (hready listed hsz hnil), fun i hi => ?_⟩
      obtain ⟨hun, o, ho, haf⟩ := mem_ready.1 hi
      have ho' : l[i]? = some o := by simpa using ho
      have hil : i < l.length := (List.getElem?_eq_some_iff.1 ho').1
      have hrd : ∀ ed ∈ aft o, listed.getD ed.on false = true := fun ed hed => haf ed (mem_aft.1 hed).1 (mem_aft.1 hed).2
      have hun' : listed.getD i false = false := by
        have h5 := hun
        rw [Array.getD_eq_getD_getElem?, Array.getElem?_eq_getElem (by omega)] at h5 ⊢
        exact h5
      have hgs : ∀ k, (listed.setIfInBounds i true).getD k false = if k = i then true else listed.getD k false := by
        intro k
        rw [Array.getD_eq_getD_getElem?, Array.getElem?_setIfInBounds]
        by_cases hki : k = i
        · subst hki; rw [if_pos rfl, if_pos (by omega), if_pos rfl]; rfl
        · rw [if_neg (fun e => hki e.symm), if_neg hki, ← Array.getD_eq_getD_getElem?]
      have hS : (fun k => (listed.setIfInBounds i true).getD k false) = fun k => Nat.beq k i || listed.getD k false := by
        funext k
        rw [hgs]
        by_cases hki : k = i
        · subst hki; rw [if_pos rfl, Nat.beq_refl]; rfl
        · rw [if_neg hki]
          have : Nat.beq k i = false := by
            cases hb : Nat.beq k i with
            | false => rfl
            | true => exact absurd (Nat.eq_of_beq_eq_true hb) hki
          rw [this]; rfl
      have hst := hstep (fun k => listed.getD k false) i o e1 w1 ho' hun' hrd (fun k o' hk hok => hcl k o' hk hok) hI
      have hwl := hst.run a1 hr
      have hnext : ∀ a2 w2, (∃ e2, Rep N a2 e2 ∧ I (fun k => Nat.beq k i || listed.getD k false) e2 w2) → wpAny P .any l.toArray (low N Q) fuel (listed.setIfInBounds i true) a2 w2 := by
        intro a2 w2 ⟨e2, hr2, hI2⟩
        refine ih _ a2 e2 w2 hr2 (by simpa using hsz) (fun k o' hk hok ed hed => ?_) (by rw [hS]; exact hI2) ?_
        · rw [hgs]
          by_cases hei : ed.on = i
          · rw [if_pos hei]
          · rw [if_neg hei]
            by_cases hki : k = i
            · subst hki
              rw [ho'] at hok; cases hok
              exact hrd ed hed
            · rw [hgs, if_neg hki] at hk
              exact hcl k o' hk hok ed hed
        · have hcount : (List.range l.length).countP (fun k => (listed.setIfInBounds i true).getD k false) = (List.range l.length).countP (fun k => listed.getD k false) + 1 :=
            countP_one (fun k => listed.getD k false) (fun k => (listed.setIfInBounds i true).getD k false) i hun' hgs _ List.nodup_range (by simpa using hil)
          rw [hcount]; omega
      unfold wpOp
      rw [ho]
      unfold wpList at hwl
      show if _ then _ else _
      by_cases hw : Region.wanted o (yielded l.toArray a1.tmps) = true
      · rw [if_pos hw] at hwl ⊢
        rcases hwl with h5 | ⟨_, a0, w0, h5⟩
        · refine .inl (Oper.wp_conv h5 (fun a2 w2 hx => ?_) (fun x a w hx hq => hx hq.1))
          exact hnext a2 w2 hx.2
        · exact absurd h5.1 (by simp)
      · rw [if_neg hw] at hwl ⊢
        exact hnext _ _ hwl.2
  refine key l.length (Array.replicate l.length false) a e _ ha (by simp) (fun i o hi => ?_) (by
    have : (fun k => (Array.replicate l.length false).getD k false) = fun _ => false := by
      funext k
      rw [Array.getD_eq_getD_getElem?, Array.getElem?_replicate]
      split <;> rfl
    rw [this]; exact h0 _ ⟨⟨rfl, rfl, rfl, Nat.le_refl _, fun _ _ => rfl⟩, fun _ => Nat.le_add_right _ _⟩) (by omega)
  exfalso
  rw [Array.getD_eq_getD_getElem?, Array.getElem?_replicate] at hi
  split at hi <;> simp at hi
end
/-
 The reference's way to the flags of a poset, walked.
-/
def aliS (n : Nat) (R : List Int) (B : List (List Int)) (f : Nat) (x : Nat) : Prop := (f ≤ x ∧ gi R (x : Int) = (n : Int) - 1) ∨ ∃ g : Nat, (g : Int) ∈ upsP R B (x : Int) ∧ alvP n R B (g : Int) ∧ f ≤ g
def aliT (n : Nat) (R : List Int) (B : List (List Int)) (f j : Nat) (x : Nat) : Prop := aliS n R B (f + 1) x ∨ (x = f ∧ gi R (x : Int) = (n : Int) - 1) ∨ (alvP n R B (f : Int) ∧ (x : Int) ∈ (gl B (f : Int)).take j ∧ gi R (f : Int) = gi R (x : Int) + 1)
section
variable {n : Nat} {R : List Int} {B : List (List Int)}
theorem aliS_ge (hP : PosP n R B) {f x : Nat} (hf : f ≤ x) (hx : x < R.length) : aliS n R B f x ↔ alvP n R B (x : Int) := by
 have hr := hP.ri (e := (x : Int)) (by omega) (by omega)
 constructor
 ·rintro (h | ⟨g, h1, h2, _⟩)
  ·exact alv_top h.2
  have h3 := upsP_mem.1 h1
  have := hP.ri h3.1.1 h3.1.2
  exact (alv_up (by omega) (by omega)).2 ⟨_, h1, h2⟩
 intro h
 by_cases c : gi R (x : Int) = (n : Int) - 1
 ·exact .inl ⟨hf, c⟩
 obtain ⟨g, h1, h2⟩ := (alv_up (by omega) (by omega)).1 h
 have h3 := ups_gt hP h1
 obtain ⟨g', rfl⟩ : ∃ g' : Nat, g = g' := ⟨g.toNat, by omega⟩
 exact .inr ⟨g', h1, h2, by omega⟩
theorem aliS_top (hP : PosP n R B) {x : Nat} (hx : x < R.length) : ¬ aliS n R B R.length x := by
 rintro (h | ⟨g, h1, _, h2⟩)
 ·omega
 have := ups_gt hP h1; omega
theorem aliT_self (hP : PosP n R B) {f j : Nat} (hf : f < R.length) : aliT n R B f j f ↔ alvP n R B (f : Int) := by
 rw [← aliS_ge hP (Nat.le_refl f) hf]
 constructor
 ·rintro (h | h | h)
  ·rcases h with h | ⟨g, h1, h2, h3⟩
   ·omega
   exact .inr ⟨g, h1, h2, by omega⟩
  ·exact .inl ⟨Nat.le_refl _, h.2⟩
  have := ((hP.at_ (e := (f : Int)) (by omega) (by omega)).2.1 _ (List.mem_of_mem_take h.2.1)).1; omega
 rintro (h | ⟨g, h1, h2, h3⟩)
 ·exact .inr (.inl ⟨O, h.2⟩)
 have := ups_gt hP h1
 exact .inl (.inr ⟨g, h1, h2, by omega⟩)
theorem aliT_done (hP : PosP n R B) {f j : Nat} (hf : f < R.length) (hj : ¬ alvP n R B (f : Int) ∨ (gl B (f : Int)).length ≤ j) {x : Nat} (hx : x < R.length) : aliT n R B f j x ↔ aliS n R B f x := by
 constructor
 ·rintro (h | h | h)
  ·rcases h with h | ⟨g, h1, h2, h3⟩
   ·exact .inl ⟨by omega, h.2⟩
   exact .inr ⟨g, h1, h2, by omega⟩
  ·exact .inl ⟨by omega, h.2⟩
  exact .inr ⟨f, upsP_mem.2 ⟨by omega, h.2.2, List.mem_of_mem_take h.2.1⟩, h.1, Nat.le_refl _⟩
 rintro (h | ⟨g, h1, h2, h3⟩)
 ·by_cases e : x = f
  ·exact .inr (.inl ⟨e, h.2⟩)
  exact .inl (.inl ⟨by omega, h.2⟩)
 by_cases e : g = f
 ·subst e
  have h4 := upsP_mem.1 h1
  rcases hj with hj | hj
  ·exact absurd h2 hj
  exact .inr (.inr ⟨h2, by rw [List.take_of_length_le hj]; exact h4.2.2, h4.2.1⟩)
 exact .inl (.inr ⟨g, h1, h2, by omega⟩)
theorem aliT_next {f j : Nat} (hj : j < (gl B (f : Int)).length) {x : Nat} : aliT n R B f (j + 1) x ↔ aliT n R B f j x ∨ (alvP n R B (f : Int) ∧ (x : Int) = gi (gl B (f : Int)) (j : Int) ∧ gi R (f : Int) = gi R (x : Int) + 1) := by
 have e9 : (gl B (f : Int)).take (j + 1) = (gl B (f : Int)).take j ++ [gi (gl B (f : Int)) (j : Int)] := by
  rw [List.take_succ_eq_append_getElem hj, gi_mem hj]
 unfold aliT
 rw [e9, List.mem_append, List.mem_singleton]
 constructor
 ·rintro (h | h | ⟨h1, h2 | h2, h3⟩)
  ·exact .inl (.inl h)
  ·exact .inl (.inr (.inl h))
  ·exact .inl (.inr (.inr ⟨h1, h2, h3⟩))
  exact .inr ⟨h1, h2, h3⟩
 rintro ((h | h | ⟨h1, h2, h3⟩) | ⟨h1, h2, h3⟩)
 ·exact .inl h
 ·exact .inr (.inl h)
 ·exact .inr (.inr ⟨h1, .inl h2, h3⟩)
 exact .inr (.inr ⟨h1, .inr h2, h3⟩)
end
def MkB (N : Nat) (L : List Bool) (P : Nat → Prop) : Prop := L.length = N ∧ ∀ x : Nat, x < N → (gb L (x : Int) = true ↔ P x)
theorem MkB.set {N : Nat} {L : List Bool} {P P' : Nat → Prop} (h : MkB N L P) {y : Nat} (hy : y < N) (hP : ∀ x, x < N → (P' x ↔ P x ∨ x = y)) : MkB N (L.set y true) P' := by
 refine ⟨by rw [List.length_set]; exact h.1, fun x hx => ?_⟩
 have := gb_set (S := L) (x := (y : Int)) (y := (x : Int)) (b := true) (by omega) (by rw [h.1]; omega) (by omega)
 rw [Int.toNat_natCast] at this
 rw [this, hP x hx, ← h.2 x hx]
 by_cases e : x = y
 ·subst e; simp
 rw [if_neg (by omega)]
 exact ⟨fun h => .inl h, fun h => h.resolve_right e⟩
theorem MkB.congr {N : Nat} {L : List Bool} {P P' : Nat → Prop} (h : MkB N L P) (hP : ∀ x, x < N → (P' x ↔ P x)) : MkB N L P' := ⟨h.1, fun x hx => (h.2 x hx).trans (hP x hx).symm⟩
set_option maxHeartbeats 2000000 in
theorem l03Alive_c (n : Nat) (A D : Option Addr) (cA cD : Nat) (R : List Int) (rs : List SlV) (B : List (List Int)) (w : World) (hR : RdI w A R.length R) (hB : RowsI w D B.length rs B) (hP : PosP n R B) :
  Ret Tryz.prog 202 [.agg #[.int .i64 n, .slice A R.length cA, .slice D B.length cD]] w (fun v w' => ∃ A' L, v = .slice A' R.length R.length ∧ MkB R.length L (fun x => alvP n R B (x : Int)) ∧ St w w' [CkB 4 A' R.length R.length L]) := by
 have hn := hP.n1
 have hbg := hP.big
 have hle := hP.len
 have hrow := fun (f : Nat) (h : f < R.length) => hP.at_ (e := (f : Int)) (by omega) (by omega)
 have hrl : ∀ f : Nat, f < R.length → (gl B (f : Int)).length ≤ 500 := fun f h => by
  have := nodup_le_int (N := R.length) (hrow f h).1.nodup fun x hx => by have := ((hrow f h).2.1 x hx).1; omega
  omega
 have hself := fun f j (h : f < R.length) => aliT_self (n := n) (j := j) hP h
 have hdone := fun f j x (h : f < R.length) hj (hx : x < R.length) => aliT_done (n := n) (j := j) hP h hj hx
 have htop := fun x (h : x < R.length) => aliS_top (n := n) hP h
 have hge := fun x (h : x < R.length) => aliS_ge (n := n) (f := 0) hP (Nat.zero_le _) h
 have hri := fun (x : Nat) (h : x < R.length) => hP.ri (e := (x : Int)) (by omega) (by omega)
 obtain ⟨N, hN⟩ : ∃ N, R.length = N := ⟨_, rfl⟩
 rw [hN] at hR hbg hle hrow hrl hself hdone htop hge hri ⊢
 rw [hle] at hB ⊢
 refine Ret.of_cd Tryz.func202 O Tryz.ntmps202 O (post1 O) (Gbo O (Ops.box3T (St.refl w) O O ?_))
 intro A1 w1 hS1
 have h1 : Rd w1 A1 3 (fun j => [Value.int .i64 (n : Int), .slice A N cA, .slice D N cD].getD j undef) := hS1.rd 0 O
 have hR := hS1.oldI hR; have hB := hS1.oldRows hB
 refine Gdo O (Ops.fld h1 O O O O inferInstance (Ops.ldf_s (j := 1) h1 (by exact congrArg Value.pointer O) O O O O (Ops.len O O (Ops.mkB (v := false) N (St.refl w1) O O (by omega) ?_))))
 intro A3 w2 hT2
 have h1b := Rd.below h1 hT2.below
 refine Gdo O (Ops.fld h1b O O O O inferInstance (Ops.ldf_s (j := 1) h1b (by exact congrArg Value.pointer O) O O O O ?_))
 have hM0 : MkB N (List.replicate N false) (aliS n R B N) := ⟨by simp, fun x hx => ⟨fun h => (by rw [gb_rep] at h; cases h), fun h => absurd h (htop x hx)⟩⟩
 clear h1b
 refine Ops.len O O (Ops.sub O O O (by omega) (Gdc O ?_))
 refine Cd.loop (α := Nat × List Bool) (fun z => [(1, .pointer A1), (3, .slice A3 N N), (4, .int .i64 ((z.1 : Int) - 1))]) (fun z w' => z.1 ≤ N ∧ MkB N z.2 (aliS n R B z.1) ∧ St w1 w' [CkB 4 A3 N N z.2]) (fun z => z.1) (N, List.replicate N false) ⟨O, O, O, trivial⟩ ⟨Nat.le_refl _, hM0, hT2⟩ ?_
 clear hT2 hM0
 rintro ⟨E', L⟩ e w3 ⟨hE, hL, hT⟩
 dsimp only at hE hL hT ⊢
 refine Gbc O ?_
 refine Cd.cond_p _ O (fun h2 => ?_) (fun h2 => ?_)
 ·obtain ⟨f, rfl⟩ : ∃ f, E' = f + 1 := ⟨E' - 1, by omega⟩
  have hfN : f < N := by omega
  rw [show ((f + 1 : Nat) : Int) - 1 = (f : Int) by omega]
  have h1c := Rd.below h1 hT.below
  have hRc := hR.later hT.below
  have hrf := hri f hfN
  refine Gaj 3 O ?_
  refine Cd.join (α := List Bool) (fun _ => [(1, .pointer A1), (3, .slice A3 N N), (4, .int .i64 (f : Int))]) (fun L' w' => MkB N L' (aliT n R B f 0) ∧ St w1 w' [CkB 4 A3 N N L']) ?_ ?_
  ·refine Gbc O ?_
   refine Cd.draw [xP (ptrAt (A1) 1), xS (A) (N) (cA), xI ((f : Int)), xP (ptrAt (A) ((f : Int)).toNat), xI (gi (R) ((f : Int))), xP (ptrAt (A1) 0), xI ((n : Int)), xI (((n : Int)) - ((1 : Int))), xB (decide ((gi (R) ((f : Int))) = (((n : Int)) - ((1 : Int)))))] (by kernel_rfl) (by kernel_rfl) O (exL O) ?_ ?_
   ·exact ⟨fun _ _ hb _ _ => Ops.fld (h1c.below hb) O O O O inferInstance (Az O), fun _ _ hb _ _ => Ops.ldf_s (h1c.below hb) O O O O O (Az O), Dr O, fun _ _ hb _ _ => Ops.idx (hRc.later hb).2 O O O (by omega) (by omega) (Az O), fun _ _ hb _ _ => Ops.ld_int (hRc.later hb) O (by omega) O O (Az O), fun _ _ hb _ _ => Ops.fld (h1c.below hb) O O O O inferInstance (Az O), fun _ _ hb _ _ => Ops.ldf_i (h1c.below hb) O O O O O (Az O), fun _ _ _ _ _ => Ops.sub O O O (by omega) (Az O), Dr O, trivial⟩
   intro u w4 hb4 _
   have hT4 := hT.later hb4
   clear hT h1c hRc
   refine Gec O ?_
   refine Cd.cond_p _ O (fun h3 => ?_) (fun h3 => ?_)
   ·refine Gao O (Ops.idx (hT4.rdB 0 O).2 O O O (by omega) (by omega) (Ops.st_bool 0 hT4 O O O (by omega) ?_))
    intro w5 hT5
    rw [Int.toNat_natCast] at hT5
    refine Gdn O (tQ ?_)
    refine ⟨L.set f true, ⟨O, O, O, trivial⟩, hL.set hfN fun x hx => ?_, hT5⟩
    unfold aliT
    rw [List.take_zero]
    constructor
    ·rintro (h | h | h)
     ·exact .inl h
     ·exact .inr h.1
     cases h.2.1
    rintro (h | h)
    ·exact .inl h
    subst h; exact .inr (.inl ⟨rfl, h3⟩)
   refine Gan O (tQ ?_)
   refine ⟨L, ⟨O, O, O, trivial⟩, hL.congr fun x hx => ?_, hT4⟩
   unfold aliT
   rw [List.take_zero]
   constructor
   ·rintro (h | h | h)
    ·exact h
    ·exact absurd (h.1 ▸ h.2) h3
    cases h.2.1
   exact fun h => .inl h
  clear hT hL h1c hRc
  rintro L e w5 ⟨hL, hT⟩
  have hro5 := hrow f hfN
  have hrl5 := hrl f hfN
  refine Gac O ?_
  refine Cd.loop (α := Nat × List Bool) (fun z => [(1, .pointer A1), (3, .slice A3 N N), (4, .int .i64 (f : Int)), (5, .int .i64 (z.1 : Int))]) (fun z w' => z.1 ≤ (gl B (f : Int)).length ∧ MkB N z.2 (aliT n R B f z.1) ∧ St w1 w' [CkB 4 A3 N N z.2]) (fun z => (gl B (f : Int)).length - z.1) (0, L) ⟨O, O, O, O, trivial⟩ ⟨Nat.zero_le _, hL, hT⟩ ?_
  clear hT hL
  rintro ⟨j, L⟩ e w6 ⟨hj, hL, hT⟩
  dsimp only at hj hL hT ⊢
  have h1c := Rd.below h1 hT.below
  have hBc := hB.later hT.below
  have hro := hBc.at_ (i := (f : Int)) (by omega) (by omega)
  have hrn := hro.1
  have hLl := hL.1
  have hgf := (hL.2 f hfN).trans (hself f j hfN)
  refine Gbo O (Ops.fld h1c O O O O inferInstance (Ops.ldf_s (j := 2) h1c (by exact congrArg Value.pointer O) O O O O (Gdo O (Ops.idx hBc.top.2 O O O (by omega) (by omega) (Ops.ld_sl hBc.top O (by omega) O O ?_)))))
  refine Ops.len O O (Gdo O ?_)
  refine Ops.split_p 39 O (fun h3 => ?_) (fun h3 => ?_)
  ·have hjl : j < (gl B (f : Int)).length := by omega
   refine Ops.g O O O (Gdo O (Ops.g O O O (Gdo O (Ops.g O O O ?_))))
   refine Ops.idx (hT.rdB 0 O).2 O O O (by omega) (by omega) (Ops.g O O O (Ops.ld_bool (hT.rdB 0 O) O (by omega) O O ?_))
   generalize hgb : gb L (f : Int) = bb at *
   rw [show bb = decide (bb = true) by cases bb <;> rfl]
   refine Gdc O ?_
   refine Cd.cond_p _ O (fun h4 => ?_) (fun h4 => ?_)
   ·have hal := hgf.1 h4
    have hdm := hro5.2.1 _ (gi_in hjl)
    have hnx := fun x => aliT_next (n := n) (R := R) (B := B) (f := f) (x := x) hjl
    have hRc := hR.later hT.below
    obtain ⟨d, hd⟩ : ∃ d : Nat, gi (gl B (f : Int)) (j : Int) = d := ⟨(gi (gl B (f : Int)) (j : Int)).toNat, by omega⟩
    rw [hd] at hdm hnx
    have hrd := hri d (by omega)
    refine Gao O (Ops.fld h1c O O O O inferInstance (Ops.ldf_s (j := 2) h1c (by exact congrArg Value.pointer O) O O O O (Gdo O (Ops.idx hBc.top.2 O O O (by omega) (by omega) (Ops.ld_sl hBc.top O (by omega) O O (Gdo O (Ops.idx hro.2 O O O (by omega) (by omega) (Ops.ld_int hro O (by omega) O O ?_))))))))
    rw [hd]
    refine Gdc O ?_
    refine Cd.draw [xP (ptrAt (A1) 1), xS (A) (N) (cA), xI ((d : Int)), xP (ptrAt (A) ((d : Int)).toNat), xI (gi (R) ((d : Int))), xP (ptrAt (A1) 1), xS (A) (N) (cA), xI ((f : Int)), xP (ptrAt (A) ((f : Int)).toNat), xI (gi (R) ((f : Int))), xI ((gi (R) ((f : Int))) - ((1 : Int))), xB (decide ((gi (R) ((d : Int))) = ((gi (R) ((f : Int))) - ((1 : Int)))))] (by kernel_rfl) (by kernel_rfl) O (exL O) ?_ ?_
    ·exact ⟨fun _ _ hb _ _ => Ops.fld (h1c.below hb) O O O O inferInstance (Az O), fun _ _ hb _ _ => Ops.ldf_s (h1c.below hb) O O O O O (Az O), Dr O, fun _ _ hb _ _ => Ops.idx (hRc.later hb).2 O O O (by omega) (by omega) (Az O), fun _ _ hb _ _ => Ops.ld_int (hRc.later hb) O (by omega) O O (Az O), fun _ _ hb _ _ => Ops.fld (h1c.below hb) O O O O inferInstance (Az O), fun _ _ hb _ _ => Ops.ldf_s (h1c.below hb) O O O O O (Az O), Dr O, fun _ _ hb _ _ => Ops.idx (hRc.later hb).2 O O O (by omega) (by omega) (Az O), fun _ _ hb _ _ => Ops.ld_int (hRc.later hb) O (by omega) O O (Az O), fun _ _ _ _ _ => Ops.sub O O O (by omega) (Az O), Dr O, trivial⟩
    intro u w7 hb7 _
    have hT7 := hT.later hb7
    refine Gec O ?_
    refine Cd.cond_p _ O (fun h5 => ?_) (fun h5 => ?_)
    ·refine Gao O (Ops.idx (hT7.rdB 0 O).2 O O O (by omega) (by omega) (Ops.st_bool 0 hT7 O O O (by omega) ?_))
     intro w8 hT8
     rw [Int.toNat_natCast] at hT8
     refine Gdo O (Ops.add O O O (by omega) (Gdn O (tQ ?_)))
     refine ⟨(j + 1, L.set d true), by show (gl B (f : Int)).length - (j + 1) < (gl B (f : Int)).length - j; omega, ⟨O, O, O, O, trivial⟩, by show j + 1 ≤ _; omega, hL.set (by omega) fun x hx => ?_, hT8⟩
     rw [hnx x]
     constructor
     ·rintro (h | h)
      ·exact .inl h
      exact .inr (by omega)
     rintro (h | h)
     ·exact .inl h
     subst h; exact .inr ⟨hal, rfl, by omega⟩
    refine Gao O (Ops.add O O O (by omega) (Gdn O (tQ ?_)))
    refine ⟨(j + 1, L), by show (gl B (f : Int)).length - (j + 1) < (gl B (f : Int)).length - j; omega, ⟨O, O, O, O, trivial⟩, by show j + 1 ≤ _; omega, hL.congr fun x hx => ?_, hT7⟩
    rw [hnx x]
    constructor
    ·rintro (h | h)
     ·exact h
     have h9 := h.2.1
     have h10 := h.2.2
     rw [h9] at h10
     omega
    exact fun h => .inl h
   have hal : ¬ alvP n R B (f : Int) := fun h => h4 (hgf.2 h)
   refine Gax O (thenQ_x (Gfo O (Ops.sub O O O (by omega) (Gdn O (tQ ?_)))))
   exact ⟨(f, L), by show f < f + 1; omega, ⟨O, O, O, trivial⟩, by show f ≤ N; omega, hL.congr fun x hx => (hdone f j x hfN (.inl hal) hx).symm, hT⟩
  refine Ops.k O O O O O (Ops.k O O O O O (Ops.k O O O O O (Ops.k O O O O O (Gdc O ?_))))
  refine Cd.cond_f O ?_
  refine Gax O (thenQ_x (Gfo O (Ops.sub O O O (by omega) (Gdn O (tQ ?_)))))
  exact ⟨(f, L), by show f < f + 1; omega, ⟨O, O, O, trivial⟩, by show f ≤ N; omega, hL.congr fun x hx => (hdone f j x hfN (.inr (by omega)) hx).symm, hT⟩
 obtain rfl : E' = 0 := by omega
 refine Gax O (thenQ_x (Gfr O ?_))
 refine ret1_s O ?_
 have h9 := hS1.none.call hT
 exact ⟨A3, L, O, hL.congr fun x hx => (hge x hx).symm, h9⟩
/-
 The reference's flags of a poset: its recursive function, walked.
-/
theorem cap_cap (G X : List (List Int)) : cap (cap G ++ X) = cap (G ++ X) := by
 unfold cap
 by_cases h : G.length ≤ 401
 ·rw [List.take_of_length_le h]
 rw [List.take_append_of_le_length (by rw [List.length_take]; omega), List.take_append_of_le_length (by omega), List.take_take, Nat.min_self]
section
variable (n : Nat) (R : List Int) (B : List (List Int))
def nxT (st : List Int) (m : Nat) : List Int := (rngI m).filter fun e => decide (gi R e = (st.length : Int) ∧ alvP n R B e ∧ (st.length = 0 ∨ gi st ((st.length : Int) - 1) ∈ gl B e))
def exS : Nat → List Int → List (List Int)
 | 0, st => [st]
 | k + 1, st => (nxT n R B st R.length).flatMap fun e => exS k (st ++ [e])
end
section
variable {n : Nat} {R : List Int} {B : List (List Int)}
theorem nxT_next (st : List Int) (m : Nat) : nxT n R B st (m + 1) = if gi R (m : Int) = (st.length : Int) ∧ alvP n R B (m : Int) ∧ (st.length = 0 ∨ gi st ((st.length : Int) - 1) ∈ gl B (m : Int)) then nxT n R B st m ++ [(m : Int)] else nxT n R B st m := by
 have e9 : rngI (m + 1) = rngI m ++ [(m : Int)] := by
  unfold rngI
  rw [List.range_succ, List.map_append]; rfl
 unfold nxT
 rw [e9, List.filter_append]
 by_cases c : gi R (m : Int) = (st.length : Int) ∧ alvP n R B (m : Int) ∧ (st.length = 0 ∨ gi st ((st.length : Int) - 1) ∈ gl B (m : Int))
 ·rw [if_pos c, List.filter_cons_of_pos (by simpa using c)]; rfl
 rw [if_neg c, List.filter_cons_of_neg (by simpa using c)]; simp
theorem exS_ext : ∀ (k : Nat) (st : List Int) (e : Int), 0 < st.length → gi st ((st.length : Int) - 1) = e → (0 ≤ e ∧ e < R.length) → gi R e = (st.length : Int) - 1 → st.length + k = n → exS n R B k st = (extP R B k e).map (st ++ ·)
 | 0, st, e, _, _, _, _, _ => by simp [exS, extP]
 | k + 1, st, e, h0, hl, he, hr, hk => by
  rw [exS, ups_prune (n := n) (by omega) (by omega), List.map_flatMap]
  have hn : nxT n R B st R.length = (upsP R B e).filter fun f => decide (alvP n R B f) := by
   refine SA.eq (List.Pairwise.filter _ (rngI_SA _)) (List.Pairwise.filter _ (upsP_SA _ _ _)) fun y => ?_
   unfold nxT
   rw [List.mem_filter, List.mem_filter, rngI_mem, upsP_mem, decide_eq_true_eq, decide_eq_true_eq, hl]
   constructor
   ·rintro ⟨h1, h2, h3, h4⟩
    exact ⟨⟨h1, by omega, h4.resolve_left (by omega)⟩, h3⟩
   ·rintro ⟨⟨h1, h2, h4⟩, h3⟩
    exact ⟨h1, by omega, h3, .inr h4⟩
  rw [hn]
  refine flat_cg fun f hf => ?_
  have hf := upsP_mem.1 (List.mem_filter.1 hf).1
  have hlen : (st ++ [f]).length = st.length + 1 := by simp
  rw [exS_ext k (st ++ [f]) f (by omega) (by
   rw [hlen, show ((st.length + 1 : Nat) : Int) - 1 = (st.length : Int) by omega, gi_mem (by omega)]; simp) hf.1 (by rw [hlen]; omega) (by omega), List.map_map]
  refine List.map_congr_left fun y _ => ?_
  show (st ++ [f]) ++ y = st ++ (f :: y)
  rw [List.append_assoc]; rfl
theorem exS_all (hn : 1 ≤ n) : exS n R B n [] = flgP n R B := by
 obtain ⟨k, rfl⟩ : ∃ k, n = k + 1 := ⟨n - 1, by omega⟩
 rw [bot_prune, exS]
 have hb : nxT (k + 1) R B [] R.length = (botP R).filter fun f => decide (alvP (k + 1) R B f) := by
  refine SA.eq (List.Pairwise.filter _ (rngI_SA _)) (List.Pairwise.filter _ (List.Pairwise.filter _ (rngI_SA _))) fun y => ?_
  unfold nxT
  rw [List.mem_filter, List.mem_filter, rngI_mem, botP_mem, decide_eq_true_eq, decide_eq_true_eq]
  exact ⟨fun h => ⟨⟨h.1, h.2.1⟩, h.2.2.1⟩, fun h => ⟨h.1.1, h.1.2, h.2, .inl O⟩⟩
 rw [hb]
 refine flat_cg fun f hf => ?_
 have hf := botP_mem.1 (List.mem_filter.1 hf).1
 rw [List.nil_append, exS_ext k [f] f (by simp) (by simp [gi]) hf.1 (by rw [hf.2]; rfl) (by simp; omega)]
 rfl
end
theorem post_ext {Q : Post} {e : Env} {w : World} {F : List (Nat × Value)} (hM : Mt e F) (h : Q .normal (ext e F) w) : Q .normal e w := by rwa [ext_of_mt hM] at h
theorem mem_rdB {w0 w : World} {ks : List Ck} {t : TypeId} {A : Option Addr} {n c : Nat} {xs : List Bool} (h : St w0 w ks) (hm : CkB t A n c xs ∈ ks) : RdB w A n xs := by
 obtain ⟨i, hi, e⟩ := List.mem_iff_getElem.1 hm
 exact h.rdB i (by rw [List.getElem?_eq_getElem hi, e])
theorem perm_j {α : Type} (s m : α) (X K : List α) : (s :: m :: (X ++ K)).Perm (m :: ((X ++ [s]) ++ K)) := by
 classical
 refine List.perm_iff_count.2 fun z => ?_
 simp only [List.count_append, List.count_cons, List.count_nil]
 omega
theorem perm_k {α : Type} (p s : α) (X K : List α) : (p :: s :: (X ++ K)).Perm (X ++ (p :: s :: K)) := by
 classical
 refine List.perm_iff_count.2 fun z => ?_
 simp only [List.count_append, List.count_cons]
 omega
set_option maxHeartbeats 4000000 in
theorem l03Extend_c (w0 : World) (n : Nat) (AR AD : Option Addr) (cR cD : Nat) (R : List Int) (rsB : List SlV) (B : List (List Int)) (N : Nat) (hN : R.length = N) (hR : RdI w0 AR N R) (hB : RowsI w0 AD N rsB B) (hP : PosP n R B) (Aa : Option Addr) (La : List Bool) (hLa : MkB N La (fun x => alvP n R B (x : Int))) :
    ∀ (k r : Nat) (st : List Int) (As : Option Addr) (cs : Nat) (ks1 : List Ck) (w : World) (A : Option Addr) (c : Nat) (rs : List SlV) (F : List (List Int)), r + k = n → st.length = r → (∀ x ∈ st, 0 ≤ x ∧ x < (N : Int)) → CkB 4 Aa N N La ∈ ks1 → rs.length = F.length → F.length ≤ 401 →
      St w0 w (CkI 2 As r cs st :: (mat 32 2 A F.length c rs F ++ ks1)) →
      Ret Tryz.prog 201 [.agg #[.int .i64 n, .slice AR N cR, .slice AD N cD], .slice Aa N N, .slice As r cs, .slice A F.length c] w (fun v w' => ∃ A' c' rs', v = .slice A' (cap (F ++ exS n R B k st)).length c' ∧ rs'.length = (cap (F ++ exS n R B k st)).length ∧ St w0 w' (mat 32 2 A' (cap (F ++ exS n R B k st)).length c' rs' (cap (F ++ exS n R B k st)) ++ ks1)) := by
  have hn := hP.n1
  have hbg := hP.big
  have hle := hP.len
  have hrow := fun (f : Nat) (h : f < R.length) => hP.at_ (e := (f : Int)) (by omega) (by omega)
  have hrl : ∀ f : Nat, f < R.length → (gl B (f : Int)).length ≤ 500 := fun f h => by
    have := nodup_le_int (N := R.length) (hrow f h).1.nodup fun x hx => by have := ((hrow f h).2.1 x hx).1; omega
    omega
  have hri := fun (x : Nat) (h : x < R.length) => hP.ri (e := (x : Int)) (by omega) (by omega)
  rw [hN] at hbg hle hrl hri
  have hLl := hLa.1
  intro k
  induction k with
  | zero =>
    intro r st As cs ks1 w A c rs F hk hst hsr hAl hrs hF hS
    refine Ret.of_cd Tryz.func201 O Tryz.ntmps201 O (post1 O) (Gbo O (Ops.box3T hS O O ?_))
    intro A4 w1 hS1
    refine Gdo O (Ops.len O O (Gdc O ?_))
    refine Cd.cond_p _ O (fun h1 => ?_) (fun h1 => ?_)
    · have hc : cap (F ++ exS n R B 0 st) = F := by
        have h9 : cap F = F := cap_all hF
        rw [cap_full (l := F) _ (by rw [h9]; omega), h9]
      refine Gar O (ret1_s O ?_)
      rw [hc]
      exact ⟨A, c, rs, O, hrs, hS1.tail.tail⟩
    refine Gao O (Ops.len O O (Gdo O ?_))
    refine Ops.fld (hS1.rd 0 O) O O O O inferInstance (Ops.ldf_i (j := 0) (hS1.rd 0 O) (by exact congrArg Value.pointer O) O O O O (Gdc O (Cd.cond_pt O (by omega) ?_)))
    have hc : cap (F ++ exS n R B 0 st) = F ++ [st] := cap_all (by rw [exS, List.length_append]; show F.length + 1 ≤ 401; omega)
    have hS1 := hS1.tail
    refine Gao O (Ops.bs1R hS1 O O O ?_)
    intro A9 w2 hS2
    refine Ops.appR 2 hS2 O (hS2.rdR 0 O) O O O (by omega) (by omega) O ?_
    intro AZ cZ w3 hS3
    have hS3 := hS3.tail
    refine Gdr O (ret1_s O ?_)
    rw [hc]
    refine ⟨AZ, cZ, rs ++ [⟨As, r, cs⟩], by rw [List.length_append]; rfl, by simp [hrs], ?_⟩
    have hS4 : St w0 w3 (CkI 2 As r cs st :: CkR 32 AZ (F.length + 1) cZ (rs ++ [⟨As, r, cs⟩]) :: (rowsCk 2 rs F ++ ks1)) := hS3
    have hS4 := hS4.perm (perm_j _ _ _ _)
    rw [← rowsCk_snoc hrs] at hS4
    rw [List.length_append]
    exact hS4
  | succ k ih =>
    intro r st As cs ks1 w A c rs F hk hst hsr hAl hrs hF hS
    refine Ret.of_cd Tryz.func201 O Tryz.ntmps201 O (post1 O) (Gbo O (Ops.box3T hS O O ?_))
    intro A4 w1 hS1
    refine Gdo O (Ops.len O O (Gdc O ?_))
    refine Cd.cond_p _ O (fun h1 => ?_) (fun h1 => ?_)
    · have hc : cap (F ++ exS n R B (k + 1) st) = F := by
        have h9 : cap F = F := cap_all hF
        rw [cap_full (l := F) _ (by rw [h9]; omega), h9]
      refine Gar O (ret1_s O ?_)
      rw [hc]
      exact ⟨A, c, rs, O, hrs, hS1.tail.tail⟩
    refine Gao O (Ops.len O O (Gdo O ?_))
    refine Ops.fld (hS1.rd 0 O) O O O O inferInstance (Ops.ldf_i (j := 0) (hS1.rd 0 O) (by exact congrArg Value.pointer O) O O O O (Gdc O (Cd.cond_pf O (by omega) ?_)))
    have hS1 : St w0 w1 (poB A4 (n : Int) AR N cR AD N cD :: CkI 2 As r cs st :: (mat 32 2 A F.length c rs F ++ ks1)) := hS1
    have hS2 := hS1.perm (perm_k _ _ _ _)
    have hF0 : cap (F ++ (nxT n R B st 0).flatMap fun e => exS n R B k (st ++ [e])) = F := by
      show cap (F ++ []) = F
      rw [List.append_nil, cap_all hF]
    clear hS1 hS
    refine Gac O ?_
    refine Cd.loop (α := Nat × Option Addr × Nat × List SlV) (fun z => [(1, .slice Aa N N), (2, .slice As r cs), (3, .slice z.2.1 (cap (F ++ (nxT n R B st z.1).flatMap fun e => exS n R B k (st ++ [e]))).length z.2.2.1), (4, .pointer A4), (9, .int .i64 (r : Int)), (10, .int .i64 (z.1 : Int))])
      (fun z w' => z.1 ≤ N ∧ z.2.2.2.length = (cap (F ++ (nxT n R B st z.1).flatMap fun e => exS n R B k (st ++ [e]))).length ∧ St w0 w' (mat 32 2 z.2.1 (cap (F ++ (nxT n R B st z.1).flatMap fun e => exS n R B k (st ++ [e]))).length z.2.2.1 z.2.2.2 (cap (F ++ (nxT n R B st z.1).flatMap fun e => exS n R B k (st ++ [e]))) ++ (poB A4 (n : Int) AR N cR AD N cD :: CkI 2 As r cs st :: ks1))) (fun z => N - z.1) (0, A, c, rs) ⟨rfl, rfl, congrArg (fun m : List (List Int) => Value.slice A m.length c) hF0.symm, rfl, rfl, rfl, trivial⟩ ⟨Nat.zero_le _, by show rs.length = _; rw [hF0]; exact hrs, by show St w0 w1 (mat _ _ A (cap _).length c rs (cap _) ++ _); rw [hF0]; exact hS2⟩ ?_
    clear hS2 hrs
    rintro ⟨q, A, c, rs⟩ e w2 ⟨hq, hrs, hS⟩
    dsimp only at hq hrs hS ⊢
    have hnx := nxT_next (n := n) (R := R) (B := B) st q
    have hcl := cap_len (F ++ (nxT n R B st q).flatMap fun e => exS n R B k (st ++ [e]))
    have hcc := cap_cap (F ++ (nxT n R B st q).flatMap fun e => exS n R B k (st ++ [e]))
    generalize hG : (F ++ (nxT n R B st q).flatMap fun e => exS n R B k (st ++ [e])) = G at *
    have hbx : ∀ {w' : World} {A : Option Addr} {c : Nat} {rs : List SlV} {F : List (List Int)}, St w0 w' (mat 32 2 A F.length c rs F ++ (poB A4 (n : Int) AR N cR AD N cD :: CkI 2 As r cs st :: ks1)) → Rd w' A4 3 (fun q => [Value.int .i64 (n : Int), .slice AR N cR, .slice AD N cD].getD q undef) := fun h => (h.sub (List.sublist_append_right _ _)).rd 0 O
    have hbs : ∀ {w' : World} {A : Option Addr} {c : Nat} {rs : List SlV} {F : List (List Int)}, St w0 w' (mat 32 2 A F.length c rs F ++ (poB A4 (n : Int) AR N cR AD N cD :: CkI 2 As r cs st :: ks1)) → RdI w' As r st := fun h => (h.sub (List.sublist_append_right _ _)).rdI 1 O
    have hba : ∀ {w' : World} {A : Option Addr} {c : Nat} {rs : List SlV} {F : List (List Int)}, St w0 w' (mat 32 2 A F.length c rs F ++ (poB A4 (n : Int) AR N cR AD N cD :: CkI 2 As r cs st :: ks1)) → RdB w' Aa N La := fun h => mem_rdB h (List.mem_append_right _ (List.mem_cons_of_mem _ (List.mem_cons_of_mem _ hAl)))
    have h1x := hbx hS
    refine Gbo O (Ops.fld h1x O O O O inferInstance (Ops.ldf_s (j := 1) h1x (by exact congrArg Value.pointer O) O O O O ?_))
    refine Ops.len O O (Gdc O ?_)
    refine Cd.cond_p _ O (fun h3 => ?_) (fun h3 => ?_)
    · have hqN : q < N := by omega
      have hR2 := hS.oldI hR
      have hB2 := hS.oldRows hB
      have hst2 := hbs hS
      have hAa := hba hS
      have hgq := hLa.2 q hqN
      have hriq := hri q hqN
      have hrlq := hrl q (by omega)
      have hroq := hB2.at_ (i := (q : Int)) (by omega) (by omega)
      have hrn := hroq.1
      have hskip : ¬ (gi R (q : Int) = (st.length : Int) ∧ alvP n R B (q : Int) ∧ (st.length = 0 ∨ gi st ((st.length : Int) - 1) ∈ gl B (q : Int))) → F ++ ((nxT n R B st (q + 1)).flatMap fun e => exS n R B k (st ++ [e])) = G := fun h => by
        rw [hnx, if_neg h]; exact hG
      have hcase : ¬ gi R (q : Int) = (r : Int) ∨ (gi R (q : Int) = (r : Int) ∧ gb La (q : Int) = false) ∨ (gi R (q : Int) = (r : Int) ∧ gb La (q : Int) = true ∧ (r : Int) = 0) ∨ (gi R (q : Int) = (r : Int) ∧ gb La (q : Int) = true ∧ ¬ (r : Int) = 0) := by
        by_cases a : gi R (q : Int) = (r : Int)
        · cases gb La (q : Int)
          · exact .inr (.inl ⟨a, O⟩)
          · by_cases b : (r : Int) = 0
            · exact .inr (.inr (.inl ⟨a, O, b⟩))
            · exact .inr (.inr (.inr ⟨a, O, b⟩))
        · exact .inl a
      rcases hcase with a1 | ⟨a1, a2⟩ | ⟨a1, a2, a3⟩ | ⟨a1, a2, a3⟩
      · --dup 4
        have hsk := hskip (fun h => a1 (by rw [h.1, hst]))
        refine Gac O ?_
        refine Cd.draw [xP (ptrAt (A4) 1), xS (AR) (N) (cR), xI ((q : Int)), xP (ptrAt (AR) ((q : Int)).toNat), xI (gi (R) ((q : Int))), xI ((r : Int)), xB (decide ((gi (R) ((q : Int))) = ((r : Int)))), xB (false), xU, xU, xU, xU, xB (false), xB (false), xU, xU, xU, xU, xU, xU, xU, xU, xU, xU, xU, xU, xU, xU, xU, xB (false)] (by kernel_rfl) (by kernel_rfl) O (exL O) ?_ ?_
        · exact ⟨fun _ _ hb _ _ => Ops.fld (h1x.below hb) O O O O inferInstance (Az O), fun _ _ hb _ _ => Ops.ldf_s (h1x.below hb) O O O O O (Az O), Dr O, fun _ _ hb _ _ => Ops.idx (hR2.later hb).2 O O O (by omega) (by omega) (Az O), fun _ _ hb _ _ => Ops.ld_int (hR2.later hb) O (by omega) O O (Az O), Dr O, Dr O, fun _ _ _ _ _ => Dk O (by exact congrArg Value.bool (decide_eq_false a1)), Dr O, Dr O, Dr O, Dr O, Dr O, fun _ _ _ _ _ => Dk O (by exact congrArg Value.bool (O)), Dr O, Dr O, Dr O, Dr O, Dr O, Dr O, Dr O, Dr O, Dr O, Dr O, Dr O, Dr O, Dr O, Dr O, Dr O, Dr O, trivial⟩
        intro u w3 hb3 _
        refine Gec O (Cd.cond_f O ?_)
        refine Gao O (Ops.add O O O (by omega) (Gdn O (tQ ?_)))
        exact ⟨(q + 1, A, c, rs), by show N - (q + 1) < N - q; omega, ⟨O, O, congrArg (fun m : List (List Int) => Value.slice A (cap m).length c) hsk.symm, O, O, O, trivial⟩, by show q + 1 ≤ N; omega, by show rs.length = (cap _).length; rw [hsk]; exact hrs, by show St w0 w3 (mat _ _ A (cap _).length c rs (cap _) ++ _); rw [hsk]; exact hS.later hb3⟩
      · have hsk := hskip (fun h => by have := hgq.2 h.2.1; rw [a2] at this; cases this)
        refine Gac O ?_
        refine Cd.draw [xP (ptrAt (A4) 1), xS (AR) (N) (cR), xI ((q : Int)), xP (ptrAt (AR) ((q : Int)).toNat), xI (gi (R) ((q : Int))), xI ((r : Int)), xB (decide ((gi (R) ((q : Int))) = ((r : Int)))), xB (true), xS (Aa) (N) (N), xI ((q : Int)), xP (ptrAt (Aa) ((q : Int)).toNat), xB (gb (La) ((q : Int))), xB (gb (La) ((q : Int))), xB (false), xU, xU, xU, xU, xU, xU, xU, xU, xU, xU, xU, xU, xU, xU, xU, xB (false)] (by kernel_rfl) (by kernel_rfl) O (exL O) ?_ ?_
        · exact ⟨fun _ _ hb _ _ => Ops.fld (h1x.below hb) O O O O inferInstance (Az O), fun _ _ hb _ _ => Ops.ldf_s (h1x.below hb) O O O O O (Az O), Dr O, fun _ _ hb _ _ => Ops.idx (hR2.later hb).2 O O O (by omega) (by omega) (Az O), fun _ _ hb _ _ => Ops.ld_int (hR2.later hb) O (by omega) O O (Az O), Dr O, Dr O, fun _ _ _ _ _ => Dk O (by exact congrArg Value.bool (decide_eq_true a1)), Dr O, Dr O, fun _ _ hb _ _ => Ops.g O O O (Ops.idx (hAa.later hb).2 O O O (by omega) (by omega) (Az O)), fun _ _ hb _ _ => Ops.g O O O (Ops.ld_bool (hAa.later hb) O (by omega) O O (Az O)), Dr O, fun _ _ _ _ _ => Dk O (by exact congrArg Value.bool (a2)), Dr O, Dr O, Dr O, Dr O, Dr O, Dr O, Dr O, Dr O, Dr O, Dr O, Dr O, Dr O, Dr O, Dr O, Dr O, Dr O, trivial⟩
        intro u w3 hb3 _
        refine Gec O (Cd.cond_f O ?_)
        refine Gao O (Ops.add O O O (by omega) (Gdn O (tQ ?_)))
        exact ⟨(q + 1, A, c, rs), by show N - (q + 1) < N - q; omega, ⟨O, O, congrArg (fun m : List (List Int) => Value.slice A (cap m).length c) hsk.symm, O, O, O, trivial⟩, by show q + 1 ≤ N; omega, by show rs.length = (cap _).length; rw [hsk]; exact hrs, by show St w0 w3 (mat _ _ A (cap _).length c rs (cap _) ++ _); rw [hsk]; exact hS.later hb3⟩
      · have hyes : gi R (q : Int) = (st.length : Int) ∧ alvP n R B (q : Int) ∧ (st.length = 0 ∨ gi st ((st.length : Int) - 1) ∈ gl B (q : Int)) := ⟨by omega, hgq.1 a2, .inl (by omega)⟩
        refine Gac O ?_
        refine Cd.draw [xP (ptrAt (A4) 1), xS (AR) (N) (cR), xI ((q : Int)), xP (ptrAt (AR) ((q : Int)).toNat), xI (gi (R) ((q : Int))), xI ((r : Int)), xB (decide ((gi (R) ((q : Int))) = ((r : Int)))), xB (true), xS (Aa) (N) (N), xI ((q : Int)), xP (ptrAt (Aa) ((q : Int)).toNat), xB (gb (La) ((q : Int))), xB (gb (La) ((q : Int))), xB (true), xI ((r : Int)), xB (decide (((r : Int)) = ((0 : Int)))), xB (true), xU, xU, xU, xU, xU, xU, xU, xU, xU, xU, xU, xB (true), xB (true)] (by kernel_rfl) (by kernel_rfl) O (exL O) ?_ ?_
        · exact ⟨fun _ _ hb _ _ => Ops.fld (h1x.below hb) O O O O inferInstance (Az O), fun _ _ hb _ _ => Ops.ldf_s (h1x.below hb) O O O O O (Az O), Dr O, fun _ _ hb _ _ => Ops.idx (hR2.later hb).2 O O O (by omega) (by omega) (Az O), fun _ _ hb _ _ => Ops.ld_int (hR2.later hb) O (by omega) O O (Az O), Dr O, Dr O, fun _ _ _ _ _ => Dk O (by exact congrArg Value.bool (decide_eq_true a1)), Dr O, Dr O, fun _ _ hb _ _ => Ops.g O O O (Ops.idx (hAa.later hb).2 O O O (by omega) (by omega) (Az O)), fun _ _ hb _ _ => Ops.g O O O (Ops.ld_bool (hAa.later hb) O (by omega) O O (Az O)), Dr O, fun _ _ _ _ _ => Dk O (by exact congrArg Value.bool (a2)), Dr O, Dr O, fun _ _ _ _ _ => Dk O (by exact congrArg Value.bool (decide_eq_true a3)), Dr O, Dr O, Dr O, Dr O, Dr O, Dr O, Dr O, Dr O, Dr O, Dr O, Dr O, Dr O, Dr O, trivial⟩
        intro u w3 hb3 _
        have hS := hS.later hb3
        refine Gec O (Cd.cond_t O ?_)
        have hnx2 := hnx
        rw [if_pos hyes] at hnx2
        have hGn : F ++ ((nxT n R B st (q + 1)).flatMap fun e => exS n R B k (st ++ [e])) = G ++ exS n R B k (st ++ [(q : Int)]) := by
          rw [hnx2, List.flatMap_append, ← List.append_assoc, hG]; simp
        have hccq := hcc (exS n R B k (st ++ [(q : Int)]))
        have hsr2 : ∀ x ∈ st ++ [(q : Int)], 0 ≤ x ∧ x < (N : Int) := fun x hx => by
          rcases List.mem_append.1 hx with h | h
          · exact hsr x h
          · obtain rfl := List.mem_singleton.1 h; omega
        generalize hH : cap G = H at *
        refine Cd.drawP [6, 8] [.ex (.agg #[.int .i64 (n : Int), .slice AR N cR, .slice AD N cD]), yS (Aa) (N) (N), yS (As) (r) (cs), .pr (fun v w' => ∃ A9 c9, v = .slice A9 r c9 ∧ St w0 w' (CkI 2 A9 r c9 st :: (mat 32 2 A H.length c rs H ++ (poB A4 (n : Int) AR N cR AD N cD :: CkI 2 As r cs st :: ks1)))), yI ((q : Int)), .pr (fun v w' => ∃ A9, v = .slice A9 1 1 ∧ RdI w' A9 1 [(q : Int)]), .pr (fun v w' => ∃ AZ cZ, v = .slice AZ (r + 1) cZ ∧ St w0 w' (CkI 2 AZ (r + 1) cZ (st ++ [(q : Int)]) :: (mat 32 2 A H.length c rs H ++ (poB A4 (n : Int) AR N cR AD N cD :: CkI 2 As r cs st :: ks1)))), yS (A) (H.length) (c), .pr (fun v w' => ∃ A' c' rs', v = .slice A' (cap (G ++ exS n R B k (st ++ [(q : Int)]))).length c' ∧ rs'.length = (cap (G ++ exS n R B k (st ++ [(q : Int)]))).length ∧ St w0 w' (mat 32 2 A' (cap (G ++ exS n R B k (st ++ [(q : Int)]))).length c' rs' (cap (G ++ exS n R B k (st ++ [(q : Int)]))) ++ (poB A4 (n : Int) AR N cR AD N cD :: CkI 2 As r cs st :: ks1))), .pr (fun v w' => ∃ A' c' rs', v = .slice A' (cap (G ++ exS n R B k (st ++ [(q : Int)]))).length c' ∧ rs'.length = (cap (G ++ exS n R B k (st ++ [(q : Int)]))).length ∧ St w0 w' (mat 32 2 A' (cap (G ++ exS n R B k (st ++ [(q : Int)]))).length c' rs' (cap (G ++ exS n R B k (st ++ [(q : Int)]))) ++ (poB A4 (n : Int) AR N cR AD N cD :: CkI 2 As r cs st :: ks1)))] (by kernel_rfl) (by kernel_rfl) (ly (ly (ly (List.forall_mem_cons.2 ⟨Ye.lasts_pr (fun v w w' h hb => by obtain ⟨A9, c9, hv, hT⟩ := h; exact ⟨A9, c9, hv, hT.later hb⟩), (ly (List.forall_mem_cons.2 ⟨Ye.lasts_pr (fun v w w' h hb => by obtain ⟨A9, hv, hT⟩ := h; exact ⟨A9, hv, hT.later hb⟩), (List.forall_mem_cons.2 ⟨Ye.lasts_pr (fun v w w' h hb => by obtain ⟨AZ, cZ, hv, hT⟩ := h; exact ⟨AZ, cZ, hv, hT.later hb⟩), (ly (List.forall_mem_cons.2 ⟨Ye.lasts_pr (fun v w w' h hb => by obtain ⟨A', c', rs', hv, hr', hT⟩ := h; exact ⟨A', c', rs', hv, hr', hT.later hb⟩), (List.forall_mem_cons.2 ⟨Ye.lasts_pr (fun v w w' h hb => by obtain ⟨A', c', rs', hv, hr', hT⟩ := h; exact ⟨A', c', rs', hv, hr', hT.later hb⟩), (fun _ h => by cases h)⟩)⟩))⟩)⟩))⟩)))) ?_ ?_
        · refine ⟨?_, DrP O, DrP O, ?_, DrP O, ?_, ?_, ?_, ?_, ?_, trivial⟩
          · intro e1 w1 cc hlo hhi hb0 hp hun hq
            show Ops _ _ _ _ _ _ _
            have hX : Rd w1 A4 3 (fun q => [Value.int .i64 (n : Int), .slice AR N cR, .slice AD N cD].getD q undef) := by { have hhi := le_of_hi hhi (b := 1) (by kernel_rfl); rcases (show cc = 0 ∨ cc = 1 by omega) with h | h; { exact Rd.below (hbx hS) (hb0 h) }; { subst h; obtain ⟨AZ, cZ, _, hT⟩ := hq 6 _ _ (by kernel_rfl) (by kernel_rfl) (by kernel_rfl) rfl rfl (by kernel_rfl); exact hbx hT.tail } }
            refine Ops.ld_agg 2 hX O O O (Ops.n (p0_ O (by exact O)))
          · refine cP fun e1 w1 hb hp hun hq => ?_
            refine Ops.call (l01Own_c As r cs st _ (hbs (hS.later hb)) (by omega)) O O O ?_
            rintro _ w9 ⟨A9, c9, rfl, hst9⟩
            refine Ops.n ?_
            exact AfterP.dn O hst9.below ⟨A9, c9, O, (hS.later hb).call hst9⟩
          · intro e1 w1 cc hlo hhi hb0 hp hun hq
            show Ops _ _ _ _ _ _ _
            refine Ops.bs1I (St.refl _) O O O ?_
            intro A9 w9 hst9
            refine Ops.n ?_
            exact AfterP.dn O hst9.below ⟨A9, O, hst9.rdI 0 O⟩
          · refine cPT fun e1 w1 hb hp hun hq => ?_
            obtain ⟨A8, c8, h65, hT⟩ := (hp 3 _ _ (by kernel_rfl) rfl rfl (by kernel_rfl))
            obtain ⟨A9, h67, hT9⟩ := (hp 5 _ _ (by kernel_rfl) rfl rfl (by kernel_rfl))
            refine Ops.appI 0 hT O hT9 (by exact h65) (by exact h67) O (by omega) (by omega) O ?_
            intro AZ cZ wZ hZ
            refine Ops.n ?_
            exact AfterU.dn O ⟨AZ, cZ, O, hZ⟩
          · intro e1 w1 cc hlo hhi hb0 hp hun hq
            show Ops _ _ _ _ _ _ _
            refine Ops.ms O (by exact hun 9 _ O (by kernel_rfl)) O (Ops.n (p0_ O (by exact O)))
          · refine dPT 1 fun e1 w1 hp hun hq => ?_
            have hph := hp 6 _ _ (by kernel_rfl) O O (by kernel_rfl)
            obtain ⟨AZ, cZ, h68, hT⟩ := (hp 6 _ _ (by kernel_rfl) rfl rfl (by kernel_rfl))
            refine Ops.call (ih (r + 1) (st ++ [(q : Int)]) AZ cZ (poB A4 (n : Int) AR N cR AD N cD :: CkI 2 As r cs st :: ks1) _ A c rs H (by omega) (by rw [List.length_append, hst]; rfl) hsr2 (List.mem_cons_of_mem _ (List.mem_cons_of_mem _ hAl)) hrs (by omega) hT) O (by exact congrArg (fun v => [Value.agg #[.int .i64 (n : Int), .slice AR N cR, .slice AD N cD], .slice Aa N N, v, .slice A H.length c]) h68) O ?_
            rintro _ w9 ⟨A', c', rs', rfl, hr', hT'⟩
            rw [hccq] at hr' hT' ⊢
            refine Ops.n ?_
            exact AfterU.dn O ⟨A', c', rs', O, hr', hT'⟩
          · refine dP 2 fun e1 w1 hp hun hq => ?_
            have hph := hp 8 _ _ (by kernel_rfl) O O (by kernel_rfl)
            obtain ⟨A', c', rs', h70, hr', hT⟩ := (hp 8 _ _ (by kernel_rfl) rfl rfl (by kernel_rfl))
            refine Ops.ms O (by exact h70) O (Ops.n ?_)
            exact AfterP.dn O (Below.refl _ _) ⟨A', c', rs', O, hr', hT⟩
        intro u4 w4 _ hu4 _ _
        obtain ⟨A', c', rs', hv3, hr', hT⟩ := hu4 9 _ rfl (by kernel_rfl)
        rw [← hGn] at hv3 hr' hT
        refine post_ext (F := [(1, .slice Aa N N), (2, .slice As r cs), (3, .slice A' (cap (F ++ ((nxT n R B st (q + 1)).flatMap fun e => exS n R B k (st ++ [e])))).length c'), (4, .pointer A4), (9, .int .i64 (r : Int)), (10, .int .i64 (q : Int))]) ⟨O, O, hv3, O, O, O, trivial⟩ ?_
        refine Geo O (Ops.add O O O (by omega) (Gdn O (tQ ?_)))
        exact ⟨(q + 1, A', c', rs'), by show N - (q + 1) < N - q; omega, ⟨O, O, O, O, O, O, trivial⟩, by show q + 1 ≤ N; omega, hr', hT⟩
      · refine Gac O ?_
        refine Cd.draw [xP (ptrAt (A4) 1), xS (AR) (N) (cR), xI ((q : Int)), xP (ptrAt (AR) ((q : Int)).toNat), xI (gi (R) ((q : Int))), xI ((r : Int)), xB (decide ((gi (R) ((q : Int))) = ((r : Int)))), xB (true), xS (Aa) (N) (N), xI ((q : Int)), xP (ptrAt (Aa) ((q : Int)).toNat), xB (gb (La) ((q : Int))), xB (gb (La) ((q : Int))), xB (true), xI ((r : Int)), xB (decide (((r : Int)) = ((0 : Int)))), xB (false), xP (ptrAt (A4) 2), xS (AD) (N) (cD), xI ((q : Int)), xP (ptrAt (AD) ((q : Int)).toNat), xS ((rg (rsB) ((q : Int))).a) ((rg (rsB) ((q : Int))).n) ((rg (rsB) ((q : Int))).c), xS (As) (r) (cs), xI ((r : Int)), xI (((r : Int)) - ((1 : Int))), xP (ptrAt (As) (((r : Int)) - ((1 : Int))).toNat), xI (gi (st) (((r : Int)) - ((1 : Int)))), xB (decide (gi st ((r : Int) - 1) ∈ gl B (q : Int))), xB (decide (gi st ((r : Int) - 1) ∈ gl B (q : Int))), xB (decide (gi st ((r : Int) - 1) ∈ gl B (q : Int)))] (by kernel_rfl) (by kernel_rfl) O (exL O) ?_ ?_
        · refine ⟨fun _ _ hb _ _ => Ops.fld (h1x.below hb) O O O O inferInstance (Az O), fun _ _ hb _ _ => Ops.ldf_s (h1x.below hb) O O O O O (Az O), Dr O, fun _ _ hb _ _ => Ops.idx (hR2.later hb).2 O O O (by omega) (by omega) (Az O), fun _ _ hb _ _ => Ops.ld_int (hR2.later hb) O (by omega) O O (Az O), Dr O, Dr O, fun _ _ _ _ _ => Dk O (by exact congrArg Value.bool (decide_eq_true a1)), Dr O, Dr O, fun _ _ hb _ _ => Ops.g O O O (Ops.idx (hAa.later hb).2 O O O (by omega) (by omega) (Az O)), fun _ _ hb _ _ => Ops.g O O O (Ops.ld_bool (hAa.later hb) O (by omega) O O (Az O)), Dr O, fun _ _ _ _ _ => Dk O (by exact congrArg Value.bool (a2)), Dr O, Dr O, fun _ _ _ _ _ => Dk O (by exact congrArg Value.bool (decide_eq_false a3)), fun _ _ hb _ _ => Ops.g O O O (Ops.fld (h1x.below hb) O O O O inferInstance (Az O)), fun _ _ hb _ _ => Ops.g O O O (Ops.ldf_s (h1x.below hb) O O O O O (Az O)), Dr O, fun _ _ hb _ _ => Ops.g O O O (Ops.idx (hB2.top.later hb).2 O O O (by omega) (by omega) (Az O)), fun _ _ hb _ _ => Ops.g O O O (Ops.ld_sl (hB2.top.later hb) O (by omega) O O (Az O)), Dr O, Dr O, fun _ _ _ _ _ => Ops.g O O O (Ops.sub O O O (by omega) (Az O)), fun _ _ hb _ _ => Ops.g O O O (Ops.idx (hst2.later hb).2 O O O (by omega) (by omega) (Az O)), fun _ _ hb _ _ => Ops.g O O O (Ops.ld_int (hst2.later hb) O (by omega) O O (Az O)), ?_, Dr O, Dr O, trivial⟩
          · intro e1 w1 hb hp hun
            refine Ops.g O O O (Ops.call (l01Has_c _ _ _ _ _ _ (hroq.later hb) (by omega)) O O O ?_)
            rintro _ w2 ⟨rfl, hst⟩
            subst hst
            refine Ops.n (d0 (by exact O))
        intro u w3 hb3 _
        have hS := hS.later hb3
        refine Gec O ?_
        refine Cd.cond_p _ O (fun h5 => ?_) (fun h5 => ?_)
        · have hyes : gi R (q : Int) = (st.length : Int) ∧ alvP n R B (q : Int) ∧ (st.length = 0 ∨ gi st ((st.length : Int) - 1) ∈ gl B (q : Int)) := ⟨by omega, hgq.1 a2, .inr (by rw [hst]; exact h5)⟩
          have hnx2 := hnx
          rw [if_pos hyes] at hnx2
          have hGn : F ++ ((nxT n R B st (q + 1)).flatMap fun e => exS n R B k (st ++ [e])) = G ++ exS n R B k (st ++ [(q : Int)]) := by
            rw [hnx2, List.flatMap_append, ← List.append_assoc, hG]; simp
          have hccq := hcc (exS n R B k (st ++ [(q : Int)]))
          have hsr2 : ∀ x ∈ st ++ [(q : Int)], 0 ≤ x ∧ x < (N : Int) := fun x hx => by
            rcases List.mem_append.1 hx with h | h
            · exact hsr x h
            · obtain rfl := List.mem_singleton.1 h; omega
          generalize hH : cap G = H at *
          refine Cd.drawP [6, 8] [.ex (.agg #[.int .i64 (n : Int), .slice AR N cR, .slice AD N cD]), yS (Aa) (N) (N), yS (As) (r) (cs), .pr (fun v w' => ∃ A9 c9, v = .slice A9 r c9 ∧ St w0 w' (CkI 2 A9 r c9 st :: (mat 32 2 A H.length c rs H ++ (poB A4 (n : Int) AR N cR AD N cD :: CkI 2 As r cs st :: ks1)))), yI ((q : Int)), .pr (fun v w' => ∃ A9, v = .slice A9 1 1 ∧ RdI w' A9 1 [(q : Int)]), .pr (fun v w' => ∃ AZ cZ, v = .slice AZ (r + 1) cZ ∧ St w0 w' (CkI 2 AZ (r + 1) cZ (st ++ [(q : Int)]) :: (mat 32 2 A H.length c rs H ++ (poB A4 (n : Int) AR N cR AD N cD :: CkI 2 As r cs st :: ks1)))), yS (A) (H.length) (c), .pr (fun v w' => ∃ A' c' rs', v = .slice A' (cap (G ++ exS n R B k (st ++ [(q : Int)]))).length c' ∧ rs'.length = (cap (G ++ exS n R B k (st ++ [(q : Int)]))).length ∧ St w0 w' (mat 32 2 A' (cap (G ++ exS n R B k (st ++ [(q : Int)]))).length c' rs' (cap (G ++ exS n R B k (st ++ [(q : Int)]))) ++ (poB A4 (n : Int) AR N cR AD N cD :: CkI 2 As r cs st :: ks1))), .pr (fun v w' => ∃ A' c' rs', v = .slice A' (cap (G ++ exS n R B k (st ++ [(q : Int)]))).length c' ∧ rs'.length = (cap (G ++ exS n R B k (st ++ [(q : Int)]))).length ∧ St w0 w' (mat 32 2 A' (cap (G ++ exS n R B k (st ++ [(q : Int)]))).length c' rs' (cap (G ++ exS n R B k (st ++ [(q : Int)]))) ++ (poB A4 (n : Int) AR N cR AD N cD :: CkI 2 As r cs st :: ks1)))] (by kernel_rfl) (by kernel_rfl) (ly (ly (ly (List.forall_mem_cons.2 ⟨Ye.lasts_pr (fun v w w' h hb => by obtain ⟨A9, c9, hv, hT⟩ := h; exact ⟨A9, c9, hv, hT.later hb⟩), (ly (List.forall_mem_cons.2 ⟨Ye.lasts_pr (fun v w w' h hb => by obtain ⟨A9, hv, hT⟩ := h; exact ⟨A9, hv, hT.later hb⟩), (List.forall_mem_cons.2 ⟨Ye.lasts_pr (fun v w w' h hb => by obtain ⟨AZ, cZ, hv, hT⟩ := h; exact ⟨AZ, cZ, hv, hT.later hb⟩), (ly (List.forall_mem_cons.2 ⟨Ye.lasts_pr (fun v w w' h hb => by obtain ⟨A', c', rs', hv, hr', hT⟩ := h; exact ⟨A', c', rs', hv, hr', hT.later hb⟩), (List.forall_mem_cons.2 ⟨Ye.lasts_pr (fun v w w' h hb => by obtain ⟨A', c', rs', hv, hr', hT⟩ := h; exact ⟨A', c', rs', hv, hr', hT.later hb⟩), (fun _ h => by cases h)⟩)⟩))⟩)⟩))⟩)))) ?_ ?_
          · refine ⟨?_, DrP O, DrP O, ?_, DrP O, ?_, ?_, ?_, ?_, ?_, trivial⟩
            · intro e1 w1 cc hlo hhi hb0 hp hun hq
              show Ops _ _ _ _ _ _ _
              have hX : Rd w1 A4 3 (fun q => [Value.int .i64 (n : Int), .slice AR N cR, .slice AD N cD].getD q undef) := by { have hhi := le_of_hi hhi (b := 1) (by kernel_rfl); rcases (show cc = 0 ∨ cc = 1 by omega) with h | h; { exact Rd.below (hbx hS) (hb0 h) }; { subst h; obtain ⟨AZ, cZ, _, hT⟩ := hq 6 _ _ (by kernel_rfl) (by kernel_rfl) (by kernel_rfl) rfl rfl (by kernel_rfl); exact hbx hT.tail } }
              refine Ops.ld_agg 2 hX O O O (Ops.n (p0_ O (by exact O)))
            · refine cP fun e1 w1 hb hp hun hq => ?_
              refine Ops.call (l01Own_c As r cs st _ (hbs (hS.later hb)) (by omega)) O O O ?_
              rintro _ w9 ⟨A9, c9, rfl, hst9⟩
              refine Ops.n ?_
              exact AfterP.dn O hst9.below ⟨A9, c9, O, (hS.later hb).call hst9⟩
            · intro e1 w1 cc hlo hhi hb0 hp hun hq
              show Ops _ _ _ _ _ _ _
              refine Ops.bs1I (St.refl _) O O O ?_
              intro A9 w9 hst9
              refine Ops.n ?_
              exact AfterP.dn O hst9.below ⟨A9, O, hst9.rdI 0 O⟩
            · refine cPT fun e1 w1 hb hp hun hq => ?_
              obtain ⟨A8, c8, h65, hT⟩ := (hp 3 _ _ (by kernel_rfl) rfl rfl (by kernel_rfl))
              obtain ⟨A9, h67, hT9⟩ := (hp 5 _ _ (by kernel_rfl) rfl rfl (by kernel_rfl))
              refine Ops.appI 0 hT O hT9 (by exact h65) (by exact h67) O (by omega) (by omega) O ?_
              intro AZ cZ wZ hZ
              refine Ops.n ?_
              exact AfterU.dn O ⟨AZ, cZ, O, hZ⟩
            · intro e1 w1 cc hlo hhi hb0 hp hun hq
              show Ops _ _ _ _ _ _ _
              refine Ops.ms O (by exact hun 9 _ O (by kernel_rfl)) O (Ops.n (p0_ O (by exact O)))
            · refine dPT 1 fun e1 w1 hp hun hq => ?_
              have hph := hp 6 _ _ (by kernel_rfl) O O (by kernel_rfl)
              obtain ⟨AZ, cZ, h68, hT⟩ := (hp 6 _ _ (by kernel_rfl) rfl rfl (by kernel_rfl))
              refine Ops.call (ih (r + 1) (st ++ [(q : Int)]) AZ cZ (poB A4 (n : Int) AR N cR AD N cD :: CkI 2 As r cs st :: ks1) _ A c rs H (by omega) (by rw [List.length_append, hst]; rfl) hsr2 (List.mem_cons_of_mem _ (List.mem_cons_of_mem _ hAl)) hrs (by omega) hT) O (by exact congrArg (fun v => [Value.agg #[.int .i64 (n : Int), .slice AR N cR, .slice AD N cD], .slice Aa N N, v, .slice A H.length c]) h68) O ?_
              rintro _ w9 ⟨A', c', rs', rfl, hr', hT'⟩
              rw [hccq] at hr' hT' ⊢
              refine Ops.n ?_
              exact AfterU.dn O ⟨A', c', rs', O, hr', hT'⟩
            · refine dP 2 fun e1 w1 hp hun hq => ?_
              have hph := hp 8 _ _ (by kernel_rfl) O O (by kernel_rfl)
              obtain ⟨A', c', rs', h70, hr', hT⟩ := (hp 8 _ _ (by kernel_rfl) rfl rfl (by kernel_rfl))
              refine Ops.ms O (by exact h70) O (Ops.n ?_)
              exact AfterP.dn O (Below.refl _ _) ⟨A', c', rs', O, hr', hT⟩
          intro u4 w4 _ hu4 _ _
          obtain ⟨A', c', rs', hv3, hr', hT⟩ := hu4 9 _ rfl (by kernel_rfl)
          rw [← hGn] at hv3 hr' hT
          refine post_ext (F := [(1, .slice Aa N N), (2, .slice As r cs), (3, .slice A' (cap (F ++ ((nxT n R B st (q + 1)).flatMap fun e => exS n R B k (st ++ [e])))).length c'), (4, .pointer A4), (9, .int .i64 (r : Int)), (10, .int .i64 (q : Int))]) ⟨O, O, hv3, O, O, O, trivial⟩ ?_
          refine Geo O (Ops.add O O O (by omega) (Gdn O (tQ ?_)))
          exact ⟨(q + 1, A', c', rs'), by show N - (q + 1) < N - q; omega, ⟨O, O, O, O, O, O, trivial⟩, by show q + 1 ≤ N; omega, hr', hT⟩
        · have hsk := hskip (fun h => by rcases h.2.2 with h6 | h6; { omega }; { rw [hst] at h6; exact h5 h6 })
          refine Gao O (Ops.add O O O (by omega) (Gdn O (tQ ?_)))
          exact ⟨(q + 1, A, c, rs), by show N - (q + 1) < N - q; omega, ⟨O, O, congrArg (fun m : List (List Int) => Value.slice A (cap m).length c) hsk.symm, O, O, O, trivial⟩, by show q + 1 ≤ N; omega, by show rs.length = (cap _).length; rw [hsk]; exact hrs, by show St w0 w3 (mat _ _ A (cap _).length c rs (cap _) ++ _); rw [hsk]; exact hS⟩
    · have hqe : q = N := by omega
      subst hqe
      have hfin : F ++ exS n R B (k + 1) st = G := by rw [← hG, exS, hN]
      refine Gax O (thenQ_x (Gfr O ?_))
      refine ret1_s O ?_
      rw [hfin]
      exact ⟨A, c, rs, O, hrs, hS.sub ((List.Sublist.refl _).append (((List.Sublist.refl ks1).cons _).cons _))⟩
/-
 Two lots of memory of one's own, made beside one another.
-/
theorem St.merge {w0 w : World} {ks ks' : List Ck} (h : St w0 w ks) (h' : St w0 w ks') (hk : ∀ k ∈ ks, isM k.vs = false) (hk' : ∀ k ∈ ks', isM k.vs = false) (he : ∀ k ∈ ks, ∀ k' ∈ ks', k.e ≠ k'.e) : St w0 w (ks ++ ks') := by
 refine ⟨h.below, fun k hm => ?_, ?_⟩
 ·rcases List.mem_append.1 hm with hm | hm
  ·exact h.own k hm
  exact h'.own k hm
 rw [List.filterMap_append, List.nodup_append]
 refine ⟨h.apart, h'.apart, fun a ha b hb => ?_⟩
 rintro rfl
 obtain ⟨k, hm, hka⟩ := List.mem_filterMap.1 ha
 obtain ⟨k', hm', hkb⟩ := List.mem_filterMap.1 hb
 have one : ∀ {q : Ck}, OwnC w0.heap.size w q → q.blk = some a → ∃ cur, w.heap[a]? = some (.cells cur q.e (0, 0)) := fun {q} ho hq => by
  obtain ⟨_, _, _, ⟨h1, _⟩ | ⟨g, o, cur, h1, _, h2, _⟩⟩ := ho
  ·unfold Ck.blk at hq; rw [h1] at hq; cases hq
  unfold Ck.blk at hq
  rw [h1] at hq
  obtain rfl : g = a := Option.some.inj hq
  exact ⟨cur, h2⟩
 obtain ⟨c1, e1⟩ := one ((h.own k hm).toC (hk k hm)) hka
 obtain ⟨c2, e2⟩ := one ((h'.own k' hm').toC (hk' k' hm')) hkb
 rw [e1] at e2
 injection e2 with e2
 injection e2 with _ e2 _
 exact he k hm k' hm' e2
/-
 The reference's flags, face poset, test of purity, walked.
-/
theorem eq_4 {a b c d b' c' d' : Value} (h1 : b = b') (h2 : c = c') (h3 : d = d') : [a, b, c, d] = [a, b', c', d'] := by rw [h1, h2, h3]
set_option maxHeartbeats 1000000 in
theorem l03Flags_c (n : Nat) (A D : Option Addr) (cA cD : Nat) (R : List Int) (rs : List SlV) (B : List (List Int)) (w : World) (hR : RdI w A R.length R) (hB : RowsI w D B.length rs B) (hP : PosP n R B) :
  Ret Tryz.prog 142 [.agg #[.int .i64 n, .slice A R.length cA, .slice D B.length cD]] w (fun v w' => ∃ A' c' rs', v = .tuple #[.slice A' (cap (flgP n R B)).length c', .bool (decide ((flgP n R B).length ≤ 400))] ∧ rs'.length = (cap (flgP n R B)).length ∧ St w w' (mat 32 2 A' (cap (flgP n R B)).length c' rs' (cap (flgP n R B)) ++ [])) := by
 have hn := hP.n1
 have hle := hP.len
 have hall := exS_all (n := n) (R := R) (B := B) (by omega)
 have hcf := cap_few' (l := flgP n R B)
 obtain ⟨N, hN⟩ : ∃ N, R.length = N := ⟨_, rfl⟩
 have hal := fun (w : World) hR hB => l03Alive_c n A D cA cD R rs B w hR hB hP
 have hex := fun (w : World) La hR hB Aa hLa => l03Extend_c w n A D cA cD R rs B N hN hR hB hP Aa La hLa
 rw [hle] at hB hal
 rw [hN] at hR hB hal
 rw [hle, hN]
 refine Ret.of_cd Tryz.func142 O Tryz.ntmps142 O (post2 O) (Gbo O (Ops.box3T (St.refl w) O O ?_))
 intro A1 wB hS1
 have h1 : Rd wB A1 3 (fun j => [Value.int .i64 (n : Int), .slice A N cA, .slice D N cD].getD j undef) := hS1.rd 0 O
 have hR := hS1.oldI hR; have hB := hS1.oldRows hB
 have hS1 := hS1.none
 refine Gdc O ?_
 refine Cd.drawP [5] [.ex (.agg #[.int .i64 (n : Int), .slice A N cA, .slice D N cD]), .ex (.agg #[.int .i64 (n : Int), .slice A N cA, .slice D N cD]), .pr (fun v w' => ∃ A7 L, v = .slice A7 N N ∧ MkB N L (fun x => alvP n R B (x : Int)) ∧ St wB w' [CkB 4 A7 N N L]), .pr (fun v w' => ∃ A8, v = .slice A8 0 0 ∧ St wB w' [CkI 2 A8 0 0 []]), .pr (fun v w' => ∃ A9, v = .slice A9 0 0 ∧ St wB w' [CkR 32 A9 0 0 []]), .pr (fun v w' => ∃ A' c' rs', v = .slice A' (cap (flgP n R B)).length c' ∧ rs'.length = (cap (flgP n R B)).length ∧ St wB w' (mat 32 2 A' (cap (flgP n R B)).length c' rs' (cap (flgP n R B)) ++ [])), .pr (fun v w' => ∃ A' c' rs', v = .slice A' (cap (flgP n R B)).length c' ∧ rs'.length = (cap (flgP n R B)).length ∧ St wB w' (mat 32 2 A' (cap (flgP n R B)).length c' rs' (cap (flgP n R B)) ++ []))] (by kernel_rfl) (by kernel_rfl) (ly (ly (List.forall_mem_cons.2 ⟨Ye.lasts_pr (fun v w w' h hb => by obtain ⟨A7, L, hv, hL, hT⟩ := h; exact ⟨A7, L, hv, hL, hT.later hb⟩), (List.forall_mem_cons.2 ⟨Ye.lasts_pr (fun v w w' h hb => by obtain ⟨A8, hv, hT⟩ := h; exact ⟨A8, hv, hT.later hb⟩), (List.forall_mem_cons.2 ⟨Ye.lasts_pr (fun v w w' h hb => by obtain ⟨A9, hv, hT⟩ := h; exact ⟨A9, hv, hT.later hb⟩), (List.forall_mem_cons.2 ⟨Ye.lasts_pr (fun v w w' h hb => by obtain ⟨A', c', rs', hv, hr', hT⟩ := h; exact ⟨A', c', rs', hv, hr', hT.later hb⟩), (List.forall_mem_cons.2 ⟨Ye.lasts_pr (fun v w w' h hb => by obtain ⟨A', c', rs', hv, hr', hT⟩ := h; exact ⟨A', c', rs', hv, hr', hT.later hb⟩), (fun _ h => by cases h)⟩)⟩)⟩)⟩)⟩))) ?_ ?_
 ·refine ⟨cP fun _ _ hb _ _ _ => Ops.ld_agg 2 (Rd.below h1 hb) O O O (AzP O O), cP fun _ _ hb _ _ _ => Ops.ld_agg 2 (Rd.below h1 hb) O O O (AzP O O), ?_, ?_, ?_, ?_, ?_, trivial⟩
  ·refine cP fun e1 w1 hb hp hun hq => ?_
   refine Ops.call (hal _ (hR.later hb) (hB.later hb)) O O O ?_
   rintro _ w9 ⟨A7, L, rfl, hL, hst⟩
   refine Ops.n ?_
   exact AfterP.dn O hst.below ⟨A7, L, O, hL, by have := ((St.refl wB).later hb).call hst; rwa [List.append_nil] at this⟩
  ·refine cP fun e1 w1 hb hp hun hq => ?_
   refine Ops.bs0 (St.refl _) O ?_
   intro A8 w9 hst
   refine Ops.n ?_
   exact AfterP.dn O hst.below ⟨A8, O, by have := ((St.refl wB).later hb).call hst; rwa [List.append_nil] at this⟩
  ·refine cP fun e1 w1 hb hp hun hq => ?_
   refine Ops.bs0 (St.refl _) O ?_
   intro A9 w9 hst
   refine Ops.n ?_
   exact AfterP.dn O hst.below ⟨A9, O, by have := ((St.refl wB).later hb).call hst; rwa [List.append_nil] at this⟩
  ·refine cPT fun e1 w1 hb hp hun hq => ?_
   obtain ⟨A7, L, h7, hL, hT7⟩ := (hp 2 _ _ (by kernel_rfl) rfl rfl (by kernel_rfl))
   obtain ⟨A8, h8, hT8⟩ := (hp 3 _ _ (by kernel_rfl) rfl rfl (by kernel_rfl))
   obtain ⟨A9, h9, hT9⟩ := (hp 4 _ _ (by kernel_rfl) rfl rfl (by kernel_rfl))
   have hM1 := hT9.merge hT7 (fun k hk => by obtain rfl := List.mem_singleton.1 hk; rfl) (fun k hk => by obtain rfl := List.mem_singleton.1 hk; exact isM_B _) (fun k hk k' hk' => by obtain rfl := List.mem_singleton.1 hk; obtain rfl := List.mem_singleton.1 hk'; exact (by decide : ¬ (32 = 4)))
   have hM2 := hT8.merge hM1 (fun k hk => by obtain rfl := List.mem_singleton.1 hk; rfl) (fun k hk => by rcases List.mem_cons.1 hk with rfl | hk; { rfl }; { obtain rfl := List.mem_singleton.1 hk; exact isM_B _ }) (fun k hk k' hk' => by obtain rfl := List.mem_singleton.1 hk; rcases List.mem_cons.1 hk' with rfl | hk'; { exact (by decide : ¬ (2 = 32)) }; { obtain rfl := List.mem_singleton.1 hk'; exact (by decide : ¬ (2 = 4)) })
   refine Ops.call (hex wB L hR hB A7 hL n 0 [] A8 0 [CkB 4 A7 N N L] _ A9 0 [] [] (by omega) rfl (fun x hx => by cases hx) (List.mem_singleton.2 rfl) rfl (Nat.zero_le _) hM2) rfl (by exact eq_4 h7 h8 h9) rfl ?_
   rintro _ w9 ⟨A', c', rs', rfl, hr', hT'⟩
   rw [List.nil_append, hall] at hr' hT' ⊢
   refine Ops.n ?_
   exact AfterU.dn O ⟨A', c', rs', O, hr', hT'.sub ((List.Sublist.refl _).append (List.nil_sublist _))⟩
  refine dP 1 fun e1 w1 hp hun hq => ?_
  have hph := hp 5 _ _ (by kernel_rfl) O O (by kernel_rfl)
  obtain ⟨A', c', rs', h10, hr', hT⟩ := (hp 5 _ _ (by kernel_rfl) rfl rfl (by kernel_rfl))
  refine Ops.ms O (by exact h10) O (Ops.n ?_)
  exact AfterP.dn O (Below.refl _ _) ⟨A', c', rs', O, hr', hT⟩
 intro u w2 _ hu _ _
 obtain ⟨A', c', rs', hv, hr', hT⟩ := hu 6 _ rfl (by kernel_rfl)
 refine post_ext (F := [(4, .slice A' (cap (flgP n R B)).length c')]) ⟨hv, trivial⟩ ?_
 refine Geo O (Ops.len O O (Gdr O ?_))
 refine ret2_sb O O ?_
 refine ⟨A', c', rs', ?_, hr', (by rw [List.append_nil] at hT; exact hS1.none.call hT)⟩
 show Value.tuple #[_, Value.bool (decide _)] = _
 rw [show decide ((((cap (flgP n R B)).length : Nat) : Int) ≤ 400) = decide ((flgP n R B).length ≤ 400) from decide_eq_decide.2 (by omega)]
theorem specFacePoset_c (A : Option Addr) (n c : Nat) (rs : List SlV) (M : List (List Int)) (w : World) (hR : RowsI w A n rs M) (hn : n ≤ 9223372036854775807) (hM : Mani M) :
    Ret Tryz.prog 163 [.agg #[.slice A n c]] w (fun v w' =>
      (500 < offP M M.length ∧ v = .tuple #[.agg #[.int .i64 0, .slice none 0 0, .slice none 0 0], .int .i64 3] ∧ St w w' []) ∨
      (offP M M.length ≤ 500 ∧ ∃ AR c AD d rs, v = .tuple #[.agg #[.int .i64 (M.length : Int), .slice AR (offP M M.length) c, .slice AD (offP M M.length) d], .int .i64 0] ∧ rs.length = offP M M.length ∧ St w w' (CkI 2 AR (offP M M.length) c (fpR M M.length) :: (mat 32 2 AD (offP M M.length) d rs (fpB M) ++ [])))) := by
  refine Ret.of_cd Tryz.func163 O Tryz.ntmps163 O (postc2 O O) (Gbo O (Ops.box1 (St.refl w) O O ?_))
  intro A1 w1 hS1
  refine Ops.newP hS1 O ?_
  intro A2 w2 hS2
  refine Gdo O (Ops.ld_agg 0 (hS2.rd 1 O) O O O (Ops.call (l02Is_c A n c rs M _ (hS2.oldRows hR) hn) O O O ?_))
  rintro _ w3 ⟨rfl, hst⟩
  have hS3 := hS2.later hst.below
  first | refine Ops.not_p rfl rfl ?_ | refine Ops.not rfl rfl ?_
  refine Gdc O ?_
  refine Cd.cond_pf O (fun h => h hM) ?_
  refine Gao O (Ops.ld_agg 0 (hS3.rd 1 O) O O O (Ops.call (l03Poset_c A n c rs M _ (hS3.oldRows hR) hM) O O O ?_))
  rintro _ w4 ⟨AR, cR, AD, cD, rsD, rfl, hrD, hst4⟩
  have hS4 := (hS3.call hst4).perm List.perm_append_comm
  refine Ops.newP hS4 O ?_
  intro A4 w5 hS5
  refine Ops.st_agg 3 0 hS5 O O O O O O O ?_
  intro w6 hS6
  have hS6 : St w w6 (poB A4 (M.length : Int) AR (offP M M.length) cR AD (offP M M.length) cD :: poB A2 0 none 0 0 none 0 0 :: Bx 24 1 A1 [.slice A n c] :: (CkI 2 AR (offP M M.length) cR (fpR M M.length) :: (mat 32 2 AD (offP M M.length) cD rsD (fpB M) ++ []))) := hS6
  refine Gdo O (Ops.fld (hS6.rd 0 O) O O O O inferInstance (Ops.ldf_s (j := 1) (hS6.rd 0 O) (by exact congrArg Value.pointer O) O O O O ?_))
  refine Ops.len O O (Gdc O ?_)
  refine Cd.cond_p _ O (fun h1 => ?_) (fun h1 => ?_)
  · refine Gao O (Ops.bldP0 (by exact inferInstance) (by exact inferInstance) (by exact inferInstance) O (Ops.st_agg 3 1 hS6 O O O O O O O ?_))
    intro w7 hS7
    refine Gdr O (retc2_r O (hS7.rd 1 O) O ?_)
    exact .inl ⟨by omega, O, hS7.none⟩
  refine Gao O (Ops.ld_agg 2 (hS6.rd 0 O) O O O (Ops.st_agg 3 1 hS6 O O O O O O O ?_))
  intro w7 hS7
  refine Gdr O (retc2_r O (hS7.rd 1 O) O ?_)
  exact .inr ⟨by omega, AR, cR, AD, cD, rsD, O, hrD, hS7.tail.tail.tail⟩
/-
 The reference's tests of purity and of diamonds, walked.
-/
theorem gb_getElem {L : List Bool} {x : Nat} (h : x < L.length) : gb L (x : Int) = L[x] := by
 unfold gb
 rw [Int.toNat_natCast, List.getD_eq_getElem?_getD, List.getElem?_eq_getElem h, Option.getD_some]
theorem cnt_set : ∀ (L : List Bool) (x : Nat) (h : x < L.length), L[x] = false → (L.set x true).count false + 1 = L.count false
 | b :: r, 0, _, e => by
  have e : b = false := e
  subst e
  simp [List.set_cons_zero]
 | b :: r, x + 1, h, e => by
  have h : x + 1 < r.length + 1 := h
  have ih := cnt_set r x (by omega) e
  simp only [List.set_cons_succ, List.count_cons]
  omega
theorem set_same (L : List Bool) (x : Nat) (h : x < L.length) (e : L[x] = true) : L.set x true = L := by
 apply List.ext_getElem (by simp)
 intro i h1 h2
 rw [List.getElem_set]
 split
 ·rename_i h3; subst h3; exact e.symm
 rfl
set_option maxHeartbeats 1000000 in
theorem l03Pure_c (n : Int) (A D : Option Addr) (cA N m cD : Nat) (Af : Option Addr) (nf cf : Nat) (rs : List SlV) (fl : List (List Int)) (w : World) (hF : RowsI w Af nf rs fl) (hN : N ≤ 500) (hr : ∀ l ∈ fl, l.length ≤ 1000 ∧ ∀ x ∈ l, 0 ≤ x ∧ x < (N : Int)) (hnf : nf ≤ 100000) :
  Ret Tryz.prog 143 [.agg #[.int .i64 n, .slice A N cA, .slice D m cD], .slice Af nf cf] w (fun v w' => ∃ b : Bool, v = .bool b ∧ (b = true ↔ ∀ x : Int, 0 ≤ x → x < (N : Int) → ∃ l ∈ fl, x ∈ l) ∧ St w w' []) := by
 have hfl := hF.len
 refine Ret.of_cd Tryz.func143 O Tryz.ntmps143 O (post1 O) (Gbo O (Ops.box3T (St.refl w) O O ?_))
 intro A1 w1 hS1
 have h1 : Rd w1 A1 3 (fun j => [Value.int .i64 n, .slice A N cA, .slice D m cD].getD j undef) := hS1.rd 0 O
 refine Gdo O (Ops.fld h1 O O O O inferInstance (Ops.ldf_s h1 O O O O O (Ops.len O O (Ops.mkB (v := false) N hS1 O O (by omega) ?_))))
 intro A5 w2 hS2
 have hS2 : St w w2 [CkB 4 A5 N N (pnt (mk0 N) (fl.take 0).flatten), poB A1 n A N cA D m cD] := hS2
 refine Gdc O ?_
 refine Cd.loop (α := Nat × Nat) (fun z => [(1, .slice Af nf cf), (2, .pointer A1), (5, .slice A5 N N), (6, .int .i64 (z.2 : Int)), (7, .int .i64 (z.1 : Int))]) (fun z w' => z.1 ≤ nf ∧ z.2 + (pnt (mk0 N) (fl.take z.1).flatten).count false = N ∧ St w w' [CkB 4 A5 N N (pnt (mk0 N) (fl.take z.1).flatten), poB A1 n A N cA D m cD]) (fun z => nf - z.1) (0, 0) ⟨O, O, O, O, O, trivial⟩ ⟨Nat.zero_le _, by simp [pnt, mk0], hS2⟩ ?_
 clear hS2 hS1 h1
 rintro ⟨i, k⟩ e w3 ⟨hi, hk, hS⟩
 dsimp only at hi hk hS ⊢
 refine Gbo O (Ops.len O O (Gdc O ?_))
 refine Cd.cond_p _ O (fun h2 => ?_) (fun h2 => ?_)
 ·have hiF : i < fl.length := by omega
  have hmem : gl fl (i : Int) ∈ fl := by rw [gl_mem hiF]; exact List.getElem_mem _
  have hri := hr _ hmem
  have hrn := ((hS.oldRows hF).at_ (i := (i : Int)) (by omega) (by omega)).1
  refine Gac O ?_
  refine Cd.loop (α := Nat × Nat) (fun z => [(1, .slice Af nf cf), (2, .pointer A1), (5, .slice A5 N N), (6, .int .i64 (z.2 : Int)), (7, .int .i64 (i : Int)), (8, .int .i64 (z.1 : Int))]) (fun z w' => z.1 ≤ (rg rs (i : Int)).n ∧ z.2 + (pnt (mk0 N) ((fl.take i).flatten ++ (gl fl (i : Int)).take z.1)).count false = N ∧ St w w' [CkB 4 A5 N N (pnt (mk0 N) ((fl.take i).flatten ++ (gl fl (i : Int)).take z.1)), poB A1 n A N cA D m cD]) (fun z => (rg rs (i : Int)).n - z.1) (0, k) ⟨O, O, O, O, O, O, trivial⟩ ⟨Nat.zero_le _, by rw [List.take_zero, List.append_nil]; exact hk, by rw [List.take_zero, List.append_nil]; exact hS⟩ ?_
  clear hS hk
  rintro ⟨j, k⟩ e w4 ⟨hj, hk, hS⟩
  dsimp only at hj hk hS ⊢
  have hM := hS.oldRows hF
  have hro := hM.at_ (i := (i : Int)) (by omega) (by omega)
  have hpl := pnt0_len N ((fl.take i).flatten ++ (gl fl (i : Int)).take j)
  refine Gbo O (Ops.idx hM.top.2 O O O (by omega) (by omega) (Ops.ld_sl hM.top O (by omega) O O ?_))
  refine Ops.len O O (Gdc O ?_)
  refine Cd.cond_p _ O (fun h3 => ?_) (fun h3 => ?_)
  ·have hjl : j < (gl fl (i : Int)).length := by omega
   have hx := hri.2 _ (gi_in hjl)
   obtain ⟨x, hxx⟩ : ∃ x : Nat, gi (gl fl (i : Int)) (j : Int) = x := ⟨(gi (gl fl (i : Int)) (j : Int)).toNat, by omega⟩
   have hnx : pnt (mk0 N) ((fl.take i).flatten ++ (gl fl (i : Int)).take (j + 1)) = (pnt (mk0 N) ((fl.take i).flatten ++ (gl fl (i : Int)).take j)).set x true := by
    rw [take_snoc hjl, ← List.append_assoc, pnt_snoc, hxx, Int.toNat_natCast]
   rw [hxx] at hx
   generalize pnt (mk0 N) ((fl.take i).flatten ++ (gl fl (i : Int)).take j) = L at *
   have hgx := gb_getElem (L := L) (x := x) (by omega)
   have hcs := cnt_set L x (by omega)
   have hss := set_same L x (by omega)
   rw [← hgx] at hcs hss
   refine Gao O (Ops.idx hM.top.2 O O O (by omega) (by omega) (Ops.ld_sl hM.top O (by omega) O O (Gdo O (Ops.idx hro.2 O O O (by omega) (by omega) (Ops.ld_int hro O (by omega) O O ?_)))))
   rw [hxx]
   refine Ops.idx (hS.rdB 0 O).2 O O O (by omega) (by omega) (Ops.ld_bool (hS.rdB 0 O) O (by omega) O O ?_)
   generalize hbb : gb L (x : Int) = bb at *
   cases bb with
   | false => --dup 2
    have hcs := hcs O
    first | refine Ops.not_p rfl rfl ?_ | refine Ops.not rfl rfl ?_
    refine Gdc O (Cd.cond_t O (Gao O (Ops.idx hM.top.2 O O O (by omega) (by omega) (Ops.ld_sl hM.top O (by omega) O O (Gdo O (Ops.idx hro.2 O O O (by omega) (by omega) (Ops.ld_int hro O (by omega) O O ?_)))))))
    rw [hxx]
    refine Ops.idx (hS.rdB 0 O).2 O O O (by omega) (by omega) (Ops.st_bool 0 hS O O O (by omega) ?_)
    intro w5 hS5
    rw [Int.toNat_natCast] at hS5
    refine Gdo O (Ops.add O O O (by omega) (Gdo O (Ops.add O O O (by omega) (Gdn O (tQ ?_)))))
    exact ⟨(j + 1, k + 1), by show (rg rs (i : Int)).n - (j + 1) < (rg rs (i : Int)).n - j; omega, ⟨O, O, O, O, O, O, trivial⟩, by show j + 1 ≤ _; omega, by show k + 1 + _ = N; rw [hnx]; omega, by show St w w5 [CkB _ A5 N N (pnt _ _), _]; rw [hnx]; exact hS5⟩
   | true =>
    have hss := hss O
    first | refine Ops.not_p rfl rfl ?_ | refine Ops.not rfl rfl ?_
    refine Gdc O (Cd.cond_f O ?_)
    refine Gao O (Ops.add O O O (by omega) (Gdn O (tQ ?_)))
    exact ⟨(j + 1, k), by show (rg rs (i : Int)).n - (j + 1) < (rg rs (i : Int)).n - j; omega, ⟨O, O, O, O, O, O, trivial⟩, by show j + 1 ≤ _; omega, by show k + _ = N; rw [hnx, hss]; exact hk, by show St w w4 [CkB _ A5 N N (pnt _ _), _]; rw [hnx, hss]; exact hS⟩
  ·have hfe : pnt (mk0 N) ((fl.take i).flatten ++ (gl fl (i : Int)).take j) = pnt (mk0 N) (fl.take (i + 1)).flatten := by
    rw [show (gl fl (i : Int)).take j = gl fl (i : Int) from List.take_of_length_le (by omega), List.take_succ_eq_append_getElem hiF, List.flatten_append, ← gl_mem hiF]
    simp
   rw [hfe] at hk hS
   refine Gax O (thenQ_x (Gfo O (Ops.add O O O (by omega) (Gdn O (tQ ?_)))))
   exact ⟨(i + 1, k), by show nf - (i + 1) < nf - i; omega, ⟨O, O, O, O, O, trivial⟩, by show i + 1 ≤ nf; omega, hk, hS⟩
 ·have hin : i = fl.length := by omega
  rw [hin, List.take_length] at hS hk
  have hnof := no_false (m := N) (F := fl) (fun l hl => (hr l hl).2)
  have h1 : Rd w3 A1 3 (fun j => [Value.int .i64 n, .slice A N cA, .slice D m cD].getD j undef) := hS.rd 1 O
  refine Gax O (thenQ_x (Gfo O ?_))
  refine Ops.fld h1 O O O O inferInstance (Ops.ldf_s h1 O O O O O ?_)
  refine Ops.len O O (Gdr O ?_)
  refine ret1_b O ?_
  refine ⟨_, O, ?_, hS.none⟩
  rw [← hnof, ← List.count_eq_zero, decide_eq_true_eq]
  omega
def dfN (a b : List Int) (i : Nat) : Nat := ((List.range i).filter fun k : Nat => decide (gi a (k : Int) ≠ gi b (k : Int))).length
theorem dfN_next (a b : List Int) (i : Nat) : dfN a b (i + 1) = if gi a (i : Int) ≠ gi b (i : Int) then dfN a b i + 1 else dfN a b i := by
 unfold dfN
 rw [List.range_succ, List.filter_append, List.length_append]
 by_cases c : gi a (i : Int) ≠ gi b (i : Int)
 ·rw [if_pos c]; simp [c]
 rw [if_neg c]; simp [c]
theorem dfN_le (a b : List Int) (i : Nat) : dfN a b i ≤ i := by
 refine Nat.le_trans (List.length_filter_le _ _) ?_
 rw [List.length_range]; exact Nat.le_refl _
theorem l03Differ_c (A A2 : Option Addr) (n c m c2 : Nat) (a b : List Int) (w : World) (hA : RdI w A n a) (hB : RdI w A2 m b) (hm : m = n) (hn : n ≤ 1000) :
  Ret Tryz.prog 219 [.slice A n c, .slice A2 m c2] w (fun v w' => v = .int .i64 ((dfN a b n : Nat) : Int) ∧ St w w' []) := by
 have ha := hA.1
 have hb := hB.1
 refine Ret.of_cd Tryz.func219 O Tryz.ntmps219 O (post1 O) (Gbc O ?_)
 refine Cd.loop (α := Nat) (fun i => [(0, .slice A n c), (1, .slice A2 m c2), (5, .int .i64 ((dfN a b i : Nat) : Int)), (6, .int .i64 (i : Int))]) (fun i w' => i ≤ n ∧ St w w' []) (fun i => n - i) 0 ⟨O, O, O, O, trivial⟩ ⟨Nat.zero_le _, St.refl w⟩ ?_
 rintro i e w2 ⟨hi, hS⟩
 have hdl := dfN_le a b i
 have hdn := dfN_next a b i
 have hA2 := hS.oldI hA
 have hB2 := hS.oldI hB
 refine Gbo O (Ops.len O O (Gdc O ?_))
 refine Cd.cond_p _ O (fun h2 => ?_) (fun h2 => ?_)
 ·refine Gac O ?_
  refine Cd.draw [xS (A) (n) (c), xI ((i : Int)), xP (ptrAt (A) ((i : Int)).toNat), xI (gi (a) ((i : Int))), xS (A2) (m) (c2), xI ((i : Int)), xP (ptrAt (A2) ((i : Int)).toNat), xI (gi (b) ((i : Int))), xB (decide (¬ (gi (a) ((i : Int))) = (gi (b) ((i : Int)))))] (by kernel_rfl) (by kernel_rfl) O (exL O) ?_ ?_
  ·exact ⟨Dr O, Dr O, fun _ _ hb _ _ => Ops.idx (hA2.later hb).2 O O O (by omega) (by omega) (Az O), fun _ _ hb _ _ => Ops.ld_int (hA2.later hb) O (by omega) O O (Az O), Dr O, Dr O, fun _ _ hb _ _ => Ops.idx (hB2.later hb).2 O O O (by omega) (by omega) (Az O), fun _ _ hb _ _ => Ops.ld_int (hB2.later hb) O (by omega) O O (Az O), Dr O, trivial⟩
  intro u w3 hb3 _
  have hS3 := hS.later hb3
  refine Gec O ?_
  refine Cd.cond_p _ O (fun h3 => ?_) (fun h3 => ?_)
  ·rw [if_pos h3] at hdn
   refine Gao O (Ops.add O O O (by omega) (Gdo O (Ops.add O O O (by omega) (Gdn O (tQ ?_)))))
   exact ⟨i + 1, by show n - (i + 1) < n - i; omega, ⟨O, O, congrArg (fun m : Nat => Value.int .i64 (m : Int)) hdn.symm, O, trivial⟩, by omega, hS3⟩
  rw [if_neg h3] at hdn
  refine Gao O (Ops.add O O O (by omega) (Gdn O (tQ ?_)))
  exact ⟨i + 1, by show n - (i + 1) < n - i; omega, ⟨O, O, congrArg (fun m : Nat => Value.int .i64 (m : Int)) hdn.symm, O, trivial⟩, by omega, hS3⟩
 obtain rfl : i = n := by omega
 refine Gax O (thenQ_x (Gfr O ?_))
 refine ret1_i O ?_
 exact ⟨O, hS⟩
end Go.Proofs.YtopgfgdgfjddpaaGreatDoor.Vc
