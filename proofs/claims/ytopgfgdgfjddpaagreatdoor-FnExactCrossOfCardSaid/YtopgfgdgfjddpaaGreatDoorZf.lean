/-
  The texts Key, Mdl, Po8, Pv2, Pw1, Pw2, Qa5, Qa6, Qa7, Qa8, Shr, Rt2, Pq1, Pq2, F4, N1, L02, Pq3, Pq6, Pq4 in one. Conditions: as each part states them.
-/
import Derived.Test.YtopgfgdgfjddpaaGreatDoorInst
import Derived.Test.YtopgfgdgfjddpaaGreatDoorZe
import Derived.Test.YtopgfgdgfjddpaaGreatDoorZb
import Derived.Lib.ItoaLen
import Derived.Test.YtopgfgdgfjddpaaGreatDoorLayd
import Derived.Shelf.Strconv.AppendIntPublic10
import Derived.Test.YtopgfgdgfjddpaaGreatDoorZd
import Derived.Test.YtopgfgdgfjddpaaGreatDoorZa
import Derived.Test.YtopgfgdgfjddpaaGreatDoorZc
/-
 The text of a list of numbers, which is alike for equal lists alone. Conditions: the library's table of powers of ten holds what the program's text lays there.
-/
namespace Go.Proofs.YtopgfgdgfjddpaaGreatDoor.Vc
open Go.RowKit
/-! the text, plainly -/
def keyL (xs : List Int) : List UInt8 := xs.flatMap fun x => Lib.itoa x ++ [32]
def keyB (xs : List Int) : ByteArray := ⟨(keyL xs).toArray⟩
def valD (l : List UInt8) : Nat := l.foldl (fun a b => 10 * a + (b.toNat - 48)) 0
theorem u8_digit {d : Nat} (h : d < 10) : (UInt8.ofNat (48 + d)).toNat = 48 + d := by
 rw [UInt8.toNat_ofNat']
 omega
theorem dec_val : ∀ u : Nat, valD (Lib.decDigits u) = u ∧ ∀ b ∈ Lib.decDigits u, 48 ≤ b.toNat ∧ b.toNat ≤ 57 := by
 intro u
 induction u using Nat.strongRecOn with
 | ind u ih =>
  rw [Lib.decDigits]
  split
  ·rename_i h
   refine ⟨?_, fun b hb => ?_⟩
   ·simp only [valD, List.foldl_cons, List.foldl_nil, u8_digit h]; omega
   ·simp only [List.mem_singleton] at hb
    subst hb
    rw [u8_digit h]; omega
  ·rename_i h
   obtain ⟨h1, h2⟩ := ih (u / 10) (by omega)
   refine ⟨?_, fun b hb => ?_⟩
   ·unfold valD at h1 ⊢
    rw [List.foldl_append, h1]
    simp only [List.foldl_cons, List.foldl_nil, u8_digit (show u % 10 < 10 by omega)]
    omega
   ·rcases List.mem_append.1 hb with hb | hb
    ·exact h2 b hb
    ·simp only [List.mem_singleton] at hb
     subst hb
     rw [u8_digit (by omega)]; omega
theorem dec_inj {u v : Nat} (h : Lib.decDigits u = Lib.decDigits v) : u = v := by rw [← (dec_val u).1, h, (dec_val v).1]
theorem itoa_bytes {x : Int} : ∀ b ∈ Lib.itoa x, b ≠ 32 := by
 intro b hb e
 subst e
 unfold Lib.itoa at hb
 split at hb
 ·rcases List.mem_cons.1 hb with h | h
  ·exact absurd h (by decide)
  have := (dec_val _).2 _ h
  exact absurd this (by decide)
 have := (dec_val _).2 _ hb
 exact absurd this (by decide)
theorem itoa_inj {x y : Int} (h : Lib.itoa x = Lib.itoa y) : x = y := by
 have no45 : ∀ (u v : Nat), 45 :: Lib.decDigits u ≠ Lib.decDigits v := fun u v e => by
  have := (dec_val v).2 45 (by rw [← e]; simp)
  exact absurd this (by decide)
 unfold Lib.itoa at h
 split at h <;> split at h
 ·simp only [List.cons.injEq, true_and] at h
  have := dec_inj h
  omega
 ·exact absurd h (no45 _ _)
 ·exact absurd h.symm (no45 _ _)
 have := dec_inj h
 omega
theorem split_at : ∀ {a b r s : List UInt8}, (∀ x ∈ a, x ≠ 32) → (∀ x ∈ b, x ≠ 32) → a ++ 32 :: r = b ++ 32 :: s → a = b ∧ r = s
 | [], [], _, _, _, _, h => by simpa using h
 | [], y :: b, _, _, _, hb, h => by
  simp only [List.nil_append, List.cons_append, List.cons.injEq] at h
  exact absurd h.1.symm (hb y (by simp))
 | x :: a, [], _, _, ha, _, h => by
  simp only [List.nil_append, List.cons_append, List.cons.injEq] at h
  exact absurd h.1 (ha x (by simp))
 | x :: a, y :: b, _, _, ha, hb, h => by
  simp only [List.cons_append, List.cons.injEq] at h
  obtain ⟨h1, h2⟩ := split_at (fun z hz => ha z (by simp [hz])) (fun z hz => hb z (by simp [hz])) h.2
  exact ⟨by rw [h.1, h1], h2⟩
theorem keyL_cons (x : Int) (xs : List Int) : keyL (x :: xs) = Lib.itoa x ++ 32 :: keyL xs := by simp [keyL]
theorem keyL_snoc (xs : List Int) (x : Int) : keyL (xs ++ [x]) = (keyL xs ++ Lib.itoa x) ++ [32] := by simp [keyL]
theorem keyL_inj : ∀ {xs ys : List Int}, keyL xs = keyL ys → xs = ys
 | [], [], _ => rfl
 | [], y :: ys, h => by rw [keyL_cons] at h; simp [keyL] at h
 | x :: xs, [], h => by rw [keyL_cons] at h; simp [keyL] at h
 | x :: xs, y :: ys, h => by
  rw [keyL_cons, keyL_cons] at h
  obtain ⟨h1, h2⟩ := split_at itoa_bytes itoa_bytes h
  rw [itoa_inj h1, keyL_inj h2]
theorem keyB_inj {xs ys : List Int} (h : keyB xs = keyB ys) : xs = ys := by
 have h1 : (keyL xs).toArray = (keyL ys).toArray := congrArg ByteArray.data h
 exact keyL_inj (by simpa using h1)
theorem fold_push : ∀ (l : List UInt8) (s : ByteArray), (l.map fun b => ((b.toNat : Nat) : Int)).foldl (fun r n => r.push (UInt8.ofNat n.toNat)) s = ⟨s.data ++ l.toArray⟩
 | [], s => by simp
 | b :: l, s => by
  simp only [List.map_cons, List.foldl_cons]
  rw [fold_push l]
  have e : UInt8.ofNat ((b.toNat : Nat) : Int).toNat = b := by simp
  rw [e]
  have e2 : (s.push b).data = s.data.push b := O
  rw [e2]
  congr 1
  apply Array.ext'
  simp
/-! the library's table -/
def Tab (w : World) : Prop := Lib.TabIs Tryz.prog w "internal/strconv.uint64pow10" .u64 Lib.pow10Tab
theorem Tab.later {w w' : World} (h : Tab w) (hb : Below w.heap.size w w') : Tab w' := Lib.tabBelow_of_tabIs h w' hb.toBelow
def OwB (B : Nat) (w : World) (A : Option Addr) (m c : Nat) (l : List UInt8) : Prop := w.ownsRow B 5 1 (.slice A m c) m (Lib.byteCells l)
theorem owns_slice {B m : Nat} {w : World} {v : Value} {xs : List Value} (h : w.ownsRow B 5 1 v m xs) : ∃ A c, v = .slice A m c := by
 rcases h.2 with ⟨rfl, rfl⟩ | ⟨g, cap, cur, rfl, _⟩
 ·exact ⟨_, _, O⟩
 exact ⟨_, _, O⟩
theorem OwB.later {B : Nat} {w w' : World} {A : Option Addr} {m c : Nat} {l : List UInt8} (h : OwB B w A m c l) (hb : Below w.heap.size w w') : OwB B w' A m c l := by
 refine ⟨h.1, ?_⟩
 rcases h.2 with h1 | ⟨g, cap, cur, h1, h2, h3, r⟩
 ·exact .inl h1
 exact .inr ⟨g, cap, cur, h1, h2, by rw [hb.block g (Array.getElem?_eq_some_iff.1 h3).1]; exact h3, r⟩
section
variable {N : Nat} {ops : Array Oper} {K : Env → World → Prop} {rest : List Oper} {e : Env} {w0 w w' : World} {ks : List Ck} {d : Nat} {ty : TypeId} {pos : String} {af : Array Edge}
theorem Ops.appW {B m c : Nat} {A : Option Addr} {l : List UInt8} {A1 : Option Addr} {b : UInt8} {x y : Operand} (hO : OwB B w A m c l) (hB : B ≤ w.heap.size) (hR : Rd w A1 1 (fun _ => .int .u8 (b.toNat : Nat))) (hx : ev e x = .slice A m c) (hy : ev e y = .slice A1 1 1) (hm : m ≤ 1000000000) (hb : Nat.blt d N = true)
    (hK : ∀ A2 c2 w', Go.RowKit.Below B w w' → OwB B w' A2 (m + 1) c2 (l ++ [b]) → Ops Tryz.prog N ops K rest (upd e d (.slice A2 (m + 1) c2)) w') :
    Ops Tryz.prog N ops K (⟨some d, .call ⟨.builtin .append, #[x, y], #[30, 30]⟩, ty, pos, af, none⟩ :: rest) e w := by
  obtain ⟨inf, hi, hz0, hs, hby⟩ := Inf.get Tryz.prog 5
  obtain ⟨p, hp, hc⟩ := hR 0 (by omega)
  obtain ⟨a, rfl⟩ : ∃ a, A1 = some a := by cases A1 with | none => simp [ptrAt] at hp | some q => exact ⟨q, rfl⟩
  simp only [ptrAt, Option.map_some, Option.some.injEq] at hp
  obtain ⟨v', w', hr, hO', hg, _⟩ := run_append_own (P := Tryz.prog) (w := w) B 30 ty 5 inf (.int .u8 0) 1 1 Tryz.underlying30 hi hz0 hs hby rfl (by decide) (.slice A m c) m (Lib.byteCells l) hO a 1 1 [.int .u8 (b.toNat : Nat)] rfl
    (fun j u hj => by
      match j, hj with
      | 0, hj => simp at hj; subst hj; rw [hp]; exact hc) (fun u hu => by simp at hu; subst hu; rfl) (by simp only [maxLen]; omega) (by omega) hB
  obtain ⟨A2, c2, rfl⟩ := owns_slice hO'
  refine .val (w' := w') ?_ hb (hK A2 c2 w' ?_ ?_)
  · simp [execOp, resolve, invoke, builtin, hx, hy, hr]
  · exact (Go.RowKit.Below.refl B w).grown hg hB (fun k hk => (hO.lt k hk).1)
  · show w'.ownsRow B 5 1 (.slice A2 (m + 1) c2) (m + 1) (Lib.byteCells (l ++ [b]))
    rw [show Lib.byteCells (l ++ [b]) = Lib.byteCells l ++ [.int .u8 (b.toNat : Nat)] by simp [Lib.byteCells]]
    exact hO'
theorem Ops.convS {B m c : Nat} {A : Option Addr} {l : List UInt8} {x : Operand} (hO : OwB B w A m c l) (hx : ev e x = .slice A m c) (hb : Nat.blt d N = true) (hK : Ops Tryz.prog N ops K rest (upd e d (.string ⟨l.toArray⟩)) w) :
  Ops Tryz.prog N ops K (⟨some d, .convert 30 9 x, ty, pos, af, none⟩ :: rest) e w := by
 have hr : (Conv.bytesToString (.slice A m c)).run Tryz.prog w = .ok (.string ⟨l.toArray⟩) w := by
  have hl : (Lib.byteCells l).length = m * 1 := hO.1
  rcases hO.2 with ⟨h1, h2⟩ | ⟨g, cap, cur, h1, _⟩
  ·simp only [Value.slice.injEq] at h1
   obtain ⟨rfl, rfl, rfl⟩ := h1
   have : l = [] := List.eq_nil_of_length_eq_zero (by rw [Lib.byteCells_length] at hl; omega)
   subst this
   rfl
  simp only [Value.slice.injEq] at h1
  obtain ⟨rfl, _, rfl⟩ := h1
  have h2 := hO.cells (g := g) O
  have h3 := run_loadCells_list (P := Tryz.prog) (w := w) (⟨g, 0, none⟩ : Addr) (Lib.byteCells l) h2
  rw [hl, Nat.mul_one] at h3
  have e1 : Lib.byteCells l = (l.map fun b => ((b.toNat : Nat) : Int)).map (Value.int .u8) := by simp [Lib.byteCells]
  rw [e1] at h3
  rw [run_bytesToString w _ m c _ h3, fold_push]
  simp
 refine .val (w' := w) ?_ hb hK
 simp [execOp, hx, convert, run_underlying Tryz.underlying30, run_underlying Tryz.underlying9, run_underlying Tryz.underlying5, hr]
end
theorem AppendInt_c {B m c : Nat} {A : Option Addr} {l : List UInt8} (x : Int) (w : World) (hx : -9223372036854775808 ≤ x ∧ x ≤ 9223372036854775807) (hO : OwB B w A m c l) (hB : B ≤ w.heap.size) (hm : m ≤ 1000000000) (hT : Lib.TabBelow Tryz.prog B w "internal/strconv.uint64pow10" .u64 Lib.pow10Tab) :
  Ret Tryz.prog 212 [.slice A m c, .int .i64 x, .int .i64 10] w (fun v w' => ∃ A' c', v = .slice A' (m + (Lib.itoa x).length) c' ∧ OwB B w' A' (m + (Lib.itoa x).length) c' (l ++ Lib.itoa x) ∧ Go.RowKit.Below B w w') := by
 have key := Any.strconv_AppendInt_10 lai B m x hx.1 hx.2 (.slice A m c) (Lib.byteCells l) w hO hB (by omega) hT
 refine Calls.mono key fun y w' ⟨v', hy, hO', hb, _⟩ => ⟨_, hy, ?_⟩
 obtain ⟨A2, c2, rfl⟩ := owns_slice hO'
 refine ⟨A2, c2, O, ?_, hb⟩
 show w'.ownsRow B 5 1 (.slice A2 _ c2) _ (Lib.byteCells (l ++ Lib.itoa x))
 rw [Lib.byteCells_append]
 exact hO'
theorem itoa_len (x : Int) (hx : -9223372036854775808 ≤ x ∧ x ≤ 9223372036854775807) : (Lib.itoa x).length ≤ 21 := Lib.itoa_length_le x hx.1 hx.2
theorem keyL_len : ∀ (xs : List Int), (∀ x ∈ xs, -9223372036854775808 ≤ x ∧ x ≤ 9223372036854775807) → (keyL xs).length ≤ 22 * xs.length
 | [], _ => by simp [keyL]
 | x :: xs, h => by
  have h1 := itoa_len x (h x (by simp))
  have h2 := keyL_len xs fun y hy => h y (by simp [hy])
  rw [keyL_cons]
  simp only [List.length_append, List.length_cons]
  omega
theorem keyOf_c (A : Option Addr) (n c : Nat) (xs : List Int) (w : World) (hT : Tab w) (hR : RdI w A n xs) (hx : ∀ x ∈ xs, -9223372036854775808 ≤ x ∧ x ≤ 9223372036854775807) (hn : n ≤ 1000000) :
  Ret Tryz.prog 154 [.slice A n c] w (fun v w' => v = .string (keyB xs) ∧ St w w' []) := by
 have hxl := hR.1
 refine Ret.of_cd Tryz.func154 O Tryz.ntmps154 O (post1 O) ?_
 refine Gbo O (Ops.len O O (Gdc O ?_))
 refine Cd.loop (α := Nat × Option Addr × Nat) (fun s => [(3, .slice s.2.1 (keyL (xs.take s.1)).length s.2.2), (6, .slice A n c), (7, .int .i64 (n : Int)), (8, .int .i64 (s.1 : Int))]) (fun s w' => OwB w.heap.size w' s.2.1 (keyL (xs.take s.1)).length s.2.2 (keyL (xs.take s.1)) ∧ Go.RowKit.Below w.heap.size w w' ∧ s.1 ≤ n) (fun s => n - s.1) (0, none, 0) ⟨O, O, O, O, trivial⟩ ⟨World.ownsRow_nil w _ _ _, Go.RowKit.Below.refl _ _, Nat.zero_le _⟩ ?_
 rintro ⟨i, A3, c3⟩ e w1 ⟨hO, hb1, hi⟩
 dsimp only at hO hb1 hi ⊢
 refine Gbc O ?_
 refine Cd.cond_p _ O (fun h1 => ?_) (fun h1 => ?_)
 ·have hi' : i < xs.length := by omega
  have hR1 : RdI w1 A n xs := hR.later ⟨hb1, fun s => s.elim⟩
  have hT1 : Lib.TabBelow Tryz.prog w.heap.size w1 "internal/strconv.uint64pow10" .u64 Lib.pow10Tab := (Lib.tabBelow_of_tabIs hT).on hb1
  have hxi := hx _ (gi_in hi')
  have hll := keyL_len (xs.take i) fun x hm => hx x (List.mem_of_mem_take hm)
  have hil := itoa_len _ hxi
  rw [List.length_take] at hll
  have hsz := hb1.size
  have htk : keyL (xs.take (i + 1)) = (keyL (xs.take i) ++ Lib.itoa (gi xs (i : Int))) ++ [32] := by rw [take_succ_gi hi', keyL_snoc]
  refine Gao O (Ops.idx hR1.2 O O O (by omega) (by omega) (Ops.ld_int hR1 O (by omega) O O (Gdo O (Ops.call (AppendInt_c (gi xs (i : Int)) _ hxi hO hsz (by omega) hT1) O O O ?_))))
  rintro _ w2 ⟨A4, c4, rfl, hO2, hb2⟩
  have hsz2 := hb2.size
  refine Gdo O (Ops.bs1 (St.refl w2) O O O O ?_)
  intro A5 w3 hS3
  have hO3 := hO2.later hS3.below
  have hb3 : Go.RowKit.Below w.heap.size w2 w3 := hS3.below.toBelow.mono (by omega)
  have hsz3 := hb3.size
  refine Ops.appW (b := 32) hO3 (by omega) (hS3.rd 0 rfl |>.congr fun j hj => by obtain rfl : j = 0 := by { have : j < 1 := hj; omega }; rfl) rfl rfl (by omega) rfl ?_
  intro A6 c6 w4 hb4 hO4
  refine Gdo O (Ops.add O O O (by omega) (Gdn O (tQ ?_)))
  refine ⟨(i + 1, A6, c6), by show n - (i + 1) < n - i; omega, ⟨?_, O, O, O, trivial⟩, ?_, ((hb1.trans hb2).trans hb3).trans hb4, by show i + 1 ≤ n; omega⟩
  ·show Value.slice _ _ _ = .slice _ _ _
   rw [htk]
   simp [Nat.add_assoc]
  show OwB _ w4 A6 (keyL (xs.take (i + 1))).length c6 (keyL (xs.take (i + 1)))
  rw [htk]
  have e1 : ((keyL (xs.take i) ++ Lib.itoa (gi xs (i : Int))) ++ [32]).length = (keyL (xs.take i)).length + (Lib.itoa (gi xs (i : Int))).length + 1 := by simp; omega
  rw [e1]
  exact hO4
 have hin : i = xs.length := by omega
 subst hin
 rw [List.take_length] at hO
 refine Gax O (thenQ_x (Gfo O ?_))
 refine Ops.convS hO (by show Value.slice _ _ _ = .slice _ _ _; rw [List.take_length]) O ?_
 refine Gdr O (ret1_v O ?_)
 exact ⟨rfl, ⟨⟨hb1, fun s => s.elim⟩, fun k hk => (by cases hk), List.nodup_nil⟩⟩
end Go.Proofs.YtopgfgdgfjddpaaGreatDoor.Vc
/-
 Maps of one's own: an entry is deleted; maps of lists of numbers under keys of lists.
-/
namespace Go.Proofs.YtopgfgdgfjddpaaGreatDoor.Vc
open Go.RowKit Go.MapKept
section
variable {κ ν : Type} [DecidableEq κ]
def delA : List (κ × ν) → κ → List (κ × ν)
  | [], _ => []
  | (y, v) :: r, x => if y = x then r else (y, v) :: delA r x
theorem delA_some : ∀ {L : List (κ × ν)} {x : κ} {j : Nat} {v : ν}, fndA L x = some (j, v) → delA L x = L.eraseIdx j
  | (y, w) :: r, x, j, v, h => by
    simp only [fndA] at h
    split at h
    · rename_i e
      simp only [Option.some.injEq, Prod.mk.injEq] at h
      obtain ⟨rfl, rfl⟩ := h
      simp only [delA, if_pos e, List.eraseIdx_zero, List.tail_cons]
    · rename_i e
      cases hf : fndA r x with
      | none => simp [hf] at h
      | some p =>
        simp only [hf, Option.map_some, Option.some.injEq, Prod.mk.injEq] at h
        obtain ⟨rfl, rfl⟩ := h
        simp only [delA, if_neg e, List.eraseIdx_cons_succ, delA_some (L := r) (x := x) (j := p.1) (v := p.2) hf]
theorem delA_none : ∀ {L : List (κ × ν)} {x : κ}, fndA L x = none → delA L x = L
  | [], _, _ => rfl
  | (y, w) :: r, x, h => by
    simp only [fndA] at h
    split at h
    · cases h
    · rename_i e
      rw [Option.map_eq_none_iff] at h
      simp only [delA, if_neg e, delA_none h]
theorem delA_sub : ∀ (L : List (κ × ν)) (x : κ), (delA L x).Sublist L
  | [], _ => .slnil
  | (y, v) :: r, x => by
    simp only [delA]
    split
    · exact (List.Sublist.refl _).cons _
    · exact (delA_sub r x).cons_cons _
theorem getA_not : ∀ {L : List (κ × ν)} {x : κ}, x ∉ L.map (·.1) → getA L x = none
  | [], _, _ => rfl
  | (y, v) :: r, x, h => by
    simp only [List.map_cons, List.mem_cons, not_or] at h
    simp only [getA, if_neg (fun e : y = x => h.1 e.symm), getA_not h.2]
theorem getA_del : ∀ {L : List (κ × ν)} {x y : κ}, (L.map (·.1)).Nodup → getA (delA L x) y = if x = y then none else getA L y
  | [], x, y, _ => by simp [delA, getA]
  | (z, v) :: r, x, y, h => by
    simp only [List.map_cons, List.nodup_cons] at h
    simp only [delA]
    split
    · rename_i e
      subst e
      split
      · rename_i e
        subst e
        exact getA_not h.1
      · rename_i e
        simp only [getA, if_neg e]
    · rename_i e
      simp only [getA, getA_del (L := r) (x := x) (y := y) h.2]
      by_cases e2 : z = y
      · subst e2
        rw [if_pos rfl, if_neg (fun q => e q.symm), if_pos rfl]
      · rw [if_neg e2, if_neg e2]
theorem putA_keys (L : List (κ × ν)) (x : κ) (u : ν) : ∀ y, y ∈ (putA L x u).map (·.1) ↔ y = x ∨ y ∈ L.map (·.1) := by
 induction L with
 | nil => intro y; simp [putA]
 | cons p r ih =>
  obtain ⟨z, w⟩ := p
  intro y
  simp only [putA]
  split
  ·rename_i e; subst e; simp
  ·simp only [List.map_cons, List.mem_cons, ih]
   exact ⟨fun h => by rcases h with h | h | h <;> simp [h], fun h => by rcases h with h | h | h <;> simp [h]⟩
theorem putA_nd : ∀ {L : List (κ × ν)} {x : κ} {u : ν}, (L.map (·.1)).Nodup → ((putA L x u).map (·.1)).Nodup
  | [], x, u, _ => by simp [putA]
  | (z, v) :: r, x, u, h => by
    simp only [List.map_cons, List.nodup_cons] at h
    simp only [putA]
    split
    · rename_i e; subst e
      simp only [List.map_cons, List.nodup_cons]; exact h
    · rename_i e
      simp only [List.map_cons, List.nodup_cons]
      refine ⟨fun hm => ?_, putA_nd h.2⟩
      rcases (putA_keys r x u z).1 hm with h1 | h1
      · exact e h1
      · exact h.1 h1
theorem delA_nd {L : List (κ × ν)} {x : κ} (h : (L.map (·.1)).Nodup) : ((delA L x).map (·.1)).Nodup := h.sublist ((delA_sub L x).map _)
theorem put_del (L : List (κ × ν)) (x : κ) (u : ν) : (putA L x u).Perm ((x, u) :: delA L x) := by
 induction L with
 | nil => exact .refl _
 | cons p r ih =>
  obtain ⟨z, w⟩ := p
  simp only [putA, delA]
  split
  ·rename_i e; exact .refl _
  ·exact (ih.cons _).trans (.swap _ _ _)
theorem get_del : ∀ {L : List (κ × ν)} {x : κ} {u : ν}, getA L x = some u → L.Perm ((x, u) :: delA L x)
  | (z, w) :: r, x, u, h => by
    simp only [getA] at h
    simp only [delA]
    split at h
    · rename_i e
      subst e
      injection h with h
      subst h
      rw [if_pos rfl]
    · rename_i e
      rw [if_neg e]
      exact ((get_del h).cons _).trans (.swap _ _ _)
theorem get_none_del : ∀ {L : List (κ × ν)} {x : κ}, getA L x = none → delA L x = L
  | [], _, _ => rfl
  | (z, w) :: r, x, h => by
    simp only [getA] at h
    simp only [delA]
    split at h
    · cases h
    · rename_i e
      rw [if_neg e, get_none_del h]
end
section
variable {P : Program} {N : Nat} {ops : Array Oper} {K : Env → World → Prop} {rest : List Oper} {e : Env} {w0 w w' : World} {ks : List Ck} {d : Nat} {ty : TypeId} {pos : String} {af : Array Edge}
variable {κ ν : Type} [DecidableEq κ] {kd : TypeDesc} {kv : κ → Value} {vv : ν → Value}
theorem erIdx_map {α β : Type} (f : α → β) : ∀ (l : List α) (j : Nat), (l.eraseIdx j).map f = (l.map f).eraseIdx j
 | [], _ => rfl
 | _ :: _, 0 => rfl
 | a :: r, j + 1 => by simp only [List.eraseIdx_cons_succ, List.map_cons, erIdx_map f r j]
theorem run_del {t kt et T : TypeId} [hU : Und P t (.map kt et)] [hk : Und P kt kd] (KT : KeyT kd kv) {g : Nat} {L : List (κ × ν)} (i : Nat) (x : κ) (kt' : TypeId) (hS : St w0 w ks) (hi : ks[i]? = some (CkM T g (prV kv vv L))) :
  ∃ w', (Builtin.delete_ #[t, kt'] ty #[.map (some g), kv x]).run P w = .ok (.tuple #[]) w' ∧ St w0 w' (ks.set i (CkM T g (prV kv vv (delA L x)))) := by
 obtain ⟨_, es, cl, hh, hm⟩ := hS.ownM i hi
 have hf := findNow_A (vv := vv) KT x es.toList L 0 hm
 have hfk := MapKept.run_findKey (P := P) (w := w) hk.out hf
 cases hfn : fndA L x with
 | none =>
  refine ⟨{ w with heap := w.heap.setIfInBounds g (.map es cl) }, ?_, hS.turnM hi ?_⟩
  ·simp [Builtin.delete_, run_underlying hU.out, MapKept.run_getObj_map hh, MapKept.run_checkKey hk.out (KT.isKey x), hfk, hfn, MapKept.run_setObj_map _ hh, Result.andThen]
  ·rw [delA_none hfn]; exact hm
 | some p =>
  obtain ⟨j, v⟩ := p
  refine ⟨{ w with heap := w.heap.setIfInBounds g (.map (es.eraseIdxIfInBounds j) cl) }, ?_, hS.turnM hi ?_⟩
  ·simp [Builtin.delete_, run_underlying hU.out, MapKept.run_getObj_map hh, MapKept.run_checkKey hk.out (KT.isKey x), hfk, hfn, MapKept.run_setObj_map _ hh, Result.andThen]
  ·rw [delA_some hfn]
   have e1 : (es.eraseIdxIfInBounds j).toList = es.toList.eraseIdx j := by
    unfold Array.eraseIdxIfInBounds
    split
    ·rw [Array.toList_eraseIdx]
    ·rename_i h
     rw [List.eraseIdx_of_length_le (by simpa using h)]
   rw [e1, erIdx_map, hm]
   unfold prV
   rw [erIdx_map]
theorem Ops.dlt {t kt et T kt' : TypeId} {m k : Operand} [hU : Und P t (.map kt et)] [Und P kt kd] (KT : KeyT kd kv) {g : Nat} {L : List (κ × ν)} (i : Nat) {a : κ} (hS : St w0 w ks) (hi : ks[i]? = some (CkM T g (prV kv vv L))) (hm : ev e m = .map (some g)) (hk : ev e k = kv a) (hK : ∀ w', St w0 w' (ks.set i (CkM T g (prV kv vv (delA L a)))) → Ops P N ops K rest e w') : Ops P N ops K (⟨none, .call ⟨.builtin .delete, #[m, k], #[t, kt']⟩, ty, pos, af, none⟩ :: rest) e w := by
 obtain ⟨w', hrun, hS'⟩ := run_del (P := P) (t := t) (ty := ty) KT i a kt' hS hi
 refine .val0 (w' := w') (v := .tuple #[]) ?_ (hK _ hS')
 simp [execOp, resolve, invoke, builtin, hm, hk, hrun]
end
section
variable {P : Program} {N : Nat} {ops : Array Oper} {K : Env → World → Prop} {rest : List Oper} {e : Env} {w0 w w' : World} {ks : List Ck} {d : Nat} {ty : TypeId} {pos : String} {af : Array Edge}
theorem Ops.lookGok {κ ν : Type} [DecidableEq κ] {kd : TypeDesc} {kv : κ → Value} {vv : ν → Value} {t kt et : TypeId} {z v : Value} {s b : Nat} [Und P t (.map kt et)] [Und P kt kd] [Inf P et z s b] (KT : KeyT kd kv) {g : Nat} {L : List (κ × ν)} {m ix : Operand} {x : κ} (hR : RdM w g (prV kv vv L)) (hx : ev e m = .map (some g)) (hy : ev e ix = kv x) (hv : ((getA L x).map vv).getD z = v) (hb : Nat.blt d N = true) (hK : Ops P N ops K rest (upd e d (.tuple #[v, .bool (getA L x).isSome])) w) : Ops P N ops K (⟨some d, .lookup t m ix true, ty, pos, af, none⟩ :: rest) e w := by
 subst hv
 refine .val (w' := w) ?_ hb hK
 have := run_look (P := P) (t := t) (x := x) KT hR true
 simp [execOp, hx, hy, this]
end
/-! lists of numbers under keys that are lists -/
def kyV (l : List Int) : Value := .string (keyB l)
theorem keyLs : KeyT .string kyV := ⟨fun _ => trivial, fun a b h => keyB_inj (by injection h)⟩
abbrev MpE := List Int × SlV × List Int
def mpV (u : SlV × List Int) : Value := u.1.v
def rwM (t : TypeId) (M : List MpE) : List Ck := M.map fun p => CkI t p.2.1.a p.2.1.n p.2.1.c p.2.2
def gmS (M : List MpE) (x : List Int) : SlV := ((getA M x).map (·.1)).getD slNil
def gmX (M : List MpE) (x : List Int) : List Int := ((getA M x).map (·.2)).getD []
section
variable {w0 w w' : World} {ks pre : List Ck} {t : TypeId} {M : List MpE} {x : List Int}
theorem gm_some {u : SlV × List Int} (h : getA M x = some u) : gmS M x = u.1 ∧ gmX M x = u.2 := by simp [gmS, gmX, h]
theorem gm_none (h : getA M x = none) : gmS M x = slNil ∧ gmX M x = [] := by simp [gmS, gmX, h]
theorem St.takeM (h : St w0 w (pre ++ (rwM t M ++ ks))) : St w0 w (CkI t (gmS M x).a (gmS M x).n (gmS M x).c (gmX M x) :: (pre ++ (rwM t (delA M x) ++ ks))) := by
 cases hg : getA M x with
 | none =>
  rw [(gm_none hg).1, (gm_none hg).2, get_none_del hg]
  exact h.nil t
 | some u =>
  rw [(gm_some hg).1, (gm_some hg).2]
  refine h.perm ?_
  have h1 : (rwM t M).Perm (CkI t u.1.a u.1.n u.1.c u.2 :: rwM t (delA M x)) := (get_del hg).map _
  exact ((h1.append_right ks).append_left pre).trans List.perm_middle
theorem St.putM {u : SlV × List Int} (h : St w0 w (CkI t u.1.a u.1.n u.1.c u.2 :: (pre ++ (rwM t (delA M x) ++ ks)))) : St w0 w (pre ++ (rwM t (putA M x u) ++ ks)) := by
 refine h.perm ?_
 have h1 : (CkI t u.1.a u.1.n u.1.c u.2 :: rwM t (delA M x)).Perm (rwM t (putA M x u)) := ((put_del M x u).map fun p : MpE => CkI t p.2.1.a p.2.1.n p.2.1.c p.2.2).symm
 exact List.perm_middle.symm.trans ((h1.append_right ks).append_left pre)
theorem St.rdMx (h : St w0 w (pre ++ (rwM t M ++ ks))) : RdI w (gmS M x).a (gmS M x).n (gmX M x) := (h.takeM (x := x)).rdI 0 rfl
theorem St.delM (h : St w0 w (pre ++ (rwM t M ++ ks))) : St w0 w (pre ++ (rwM t (delA M x) ++ ks)) := h.sub (((((delA_sub M x).map _).append_right ks)).append_left pre)
end
end Go.Proofs.YtopgfgdgfjddpaaGreatDoor.Vc
/-
 Plain mathematics of the program's way to part flags: what its map holds.
-/
namespace Go.Proofs.YtopgfgdgfjddpaaGreatDoor.Vc
def rstP (x : List Int) (i : Nat) : List Int := x.set i (-1)
theorem rst_len (x : List Int) (i : Nat) : (rstP x i).length = x.length := by simp [rstP]
theorem rst_at {x : List Int} {i k : Nat} (hk : k < x.length) : gi (rstP x i) (k : Int) = if k = i then -1 else gi x (k : Int) := by
 rw [gi_mem (by rw [rst_len]; exact hk), gi_mem hk]
 unfold rstP
 rw [List.getElem_set]
 by_cases e : i = k
 ·rw [if_pos e, if_pos e.symm]
 rw [if_neg e, if_neg (fun h => e h.symm)]
theorem rst_same {n : Nat} {x y : List Int} {i : Nat} (hx : x.length = n) (hy : y.length = n) : rstP x i = rstP y i ↔ ∀ k : Nat, k < n → k ≠ i → gi x (k : Int) = gi y (k : Int) := by
 constructor
 ·intro h k hk hne
  have := congrArg (fun l => gi l (k : Int)) h
  simp only [rst_at (x := x) (i := i) (show k < x.length by omega), rst_at (x := y) (i := i) (show k < y.length by omega), if_neg hne] at this
  exact this
 intro h
 refine list_gi (n := n) (by rw [rst_len, hx]) (by rw [rst_len, hy]) fun k hk => ?_
 rw [rst_at (by omega), rst_at (by omega)]
 split
 ·rfl
 rename_i e; exact h k hk e
theorem rst_idx {n : Nat} {x y : List Int} {i j : Nat} (hx : x.length = n) (hy : y.length = n) (hi : i < n) (h0 : ∀ e ∈ y, 0 ≤ e) (h : rstP x i = rstP y j) : i = j := by
 have := congrArg (fun l => gi l (i : Int)) h
 simp only [rst_at (x := x) (i := i) (show i < x.length by omega), rst_at (x := y) (i := j) (show i < y.length by omega), if_pos] at this
 by_cases e : i = j
 ·exact e
 rw [if_neg e] at this
 have h2 := h0 _ (gi_in (show i < y.length by omega))
 omega
theorem gmX_put (M : List MpE) (x l : List Int) (u : SlV × List Int) : gmX (putA M x u) l = if x = l then u.2 else gmX M l := by
 unfold gmX
 rw [getA_put]
 split <;> rfl
theorem gmX_del {M : List MpE} {x l : List Int} (h : (M.map (·.1)).Nodup) : gmX (delA M x) l = if x = l then [] else gmX M l := by
 unfold gmX
 rw [getA_del h]
 split <;> rfl
structure BrP (n : Nat) (fl : List (List Int)) (D : Nat → Nat → Prop) (G : Nat → Prop) (b : Nat) (M : List MpE) : Prop where
 nd : (M.map (·.1)).Nodup
 el : ∀ l y, y ∈ gmX M l → ∃ y' i : Nat, y = (y' : Int) ∧ y' < fl.length ∧ i < n ∧ D y' i ∧ l = rstP (gl fl (y' : Int)) i
 al : ∀ y i : Nat, y < fl.length → i < n → D y i → (y : Int) ∈ gmX M (rstP (gl fl (y : Int)) i) ∨ G y
 len : ∀ l, (gmX M l).length ≤ b
section
variable {n : Nat} {fl : List (List Int)} {D D' : Nat → Nat → Prop} {G G' : Nat → Prop} {b : Nat} {M : List MpE} {c : List Int}
def putD (n : Nat) (fl : List (List Int)) (c : List Int) (f i : Nat) (y j : Nat) : Prop := HasP n c (gl fl (y : Int)) ∧ (y < f ∨ y = f ∧ j < i)
theorem BrP.zero : BrP n fl (putD n fl c 0 0) (fun _ => False) 0 [] := ⟨by simp, fun l y h => by simp [gmX, getA] at h, fun y i _ _ h => by have := h.2; omega, fun l => by simp [gmX, getA]⟩
theorem BrP.congr (h : BrP n fl D G b M) (hD : ∀ y i, y < fl.length → i < n → (D y i ↔ D' y i)) : BrP n fl D' G b M :=
 ⟨h.nd, fun l y hy => by obtain ⟨y', i, h1, h2, h3, h4, h5⟩ := h.el l y hy; exact ⟨y', i, h1, h2, h3, (hD y' i h2 h3).1 h4, h5⟩, fun y i hy hi hd => h.al y i hy hi ((hD y i hy hi).2 hd), h.len⟩
theorem BrP.more (h : BrP n fl D G b M) {b' : Nat} (hb : b ≤ b') : BrP n fl D G b' M := ⟨h.nd, h.el, h.al, fun l => Nat.le_trans (h.len l) hb⟩
theorem BrP.skip {f : Nat} (h : BrP n fl (putD n fl c f 0) G b M) (hf : ¬ HasP n c (gl fl (f : Int))) : BrP n fl (putD n fl c (f + 1) 0) G b M :=
 h.congr fun y i _ _ => ⟨fun h => ⟨h.1, by have := h.2; omega⟩, fun h => ⟨h.1, by
  have h2 := h.2
  have : y ≠ f := fun e => hf (e ▸ h.1)
  omega⟩⟩
theorem BrP.row {f : Nat} (h : BrP n fl (putD n fl c f n) G b M) : BrP n fl (putD n fl c (f + 1) 0) G b M :=
 h.congr fun y i _ hi => ⟨fun h => ⟨h.1, by have := h.2; omega⟩, fun h => ⟨h.1, by have := h.2; omega⟩⟩
theorem BrP.put {f i : Nat} (h : BrP n fl (putD n fl c f i) G b M) (hf : f < fl.length) (hi : i < n) (hH : HasP n c (gl fl (f : Int))) (s : SlV) :
  BrP n fl (putD n fl c f (i + 1)) G (b + 1) (putA M (rstP (gl fl (f : Int)) i) (s, gmX M (rstP (gl fl (f : Int)) i) ++ [(f : Int)])) := by
 refine ⟨putA_nd h.nd, fun l y hy => ?_, fun y j hy hj hd => ?_, fun l => ?_⟩
 ·rw [gmX_put] at hy
  split at hy
  ·rename_i e
   rcases List.mem_append.1 hy with hy | hy
   ·obtain ⟨y', j, h1, h2, h3, h4, h5⟩ := h.el _ y hy
    exact ⟨y', j, h1, h2, h3, ⟨h4.1, by have := h4.2; omega⟩, e.symm.trans h5⟩
   exact ⟨f, i, List.mem_singleton.1 hy, hf, hi, ⟨hH, .inr ⟨O, Nat.lt_succ_self _⟩⟩, e.symm⟩
  obtain ⟨y', j, h1, h2, h3, h4, h5⟩ := h.el _ y hy
  exact ⟨y', j, h1, h2, h3, ⟨h4.1, by have := h4.2; omega⟩, h5⟩
 ·rw [gmX_put]
  by_cases e : y = f ∧ j = i
  ·obtain ⟨rfl, rfl⟩ := e
   rw [if_pos rfl]
   exact .inl (List.mem_append_right _ (by simp))
  rcases h.al y j hy hj ⟨hd.1, by have := hd.2; omega⟩ with h1 | h1
  ·left
   split
   ·rename_i e2; rw [e2]; exact List.mem_append_left _ h1
   exact h1
  exact .inr h1
 rw [gmX_put]
 split
 ·rename_i e; have := h.len (rstP (gl fl (f : Int)) i); rw [List.length_append]; simp; omega
 have := h.len l; omega
theorem BrP.mono (h : BrP n fl D G b M) (hG : ∀ y, y < fl.length → G y → G' y) : BrP n fl D G' b M :=
 ⟨h.nd, h.el, fun y i hy hi hd => (h.al y i hy hi hd).imp id (hG y hy), h.len⟩
theorem BrP.del (h : BrP n fl D G b M) {x : List Int} (hx : ∀ y : Nat, (y : Int) ∈ gmX M x → G y) : BrP n fl D G b (delA M x) := by
 refine ⟨delA_nd h.nd, fun l y hy => ?_, fun y i hy hi hd => ?_, fun l => ?_⟩
 ·rw [gmX_del h.nd] at hy
  split at hy
  ·cases hy
  exact h.el l y hy
 ·rcases h.al y i hy hi hd with h1 | h1
  ·rw [gmX_del h.nd]
   split
   ·rename_i e
    rw [← e] at h1
    exact .inr (hx y h1)
   exact .inl h1
  exact .inr h1
 rw [gmX_del h.nd]
 split
 ·exact Nat.zero_le _
 exact h.len l
theorem BrP.adj {N : Nat} (h : BrP n fl (fun y _ => HasP n c (gl fl (y : Int))) G b M) (hl : ∀ x ∈ fl, x.length = n ∧ ∀ e ∈ x, 0 ≤ e) {x i : Nat} (hx : x < fl.length) (hi : i < n) (hH : HasP n c (gl fl (x : Int))) {y : Int} (hy : y ∈ gmX M (rstP (gl fl (x : Int)) i)) : ∃ y' : Nat, y = y' ∧ y' < fl.length ∧ AdH n fl c x y' := by
 obtain ⟨y', j, h1, h2, h3, h4, h5⟩ := h.el _ y hy
 have hm : ∀ z : Nat, z < fl.length → gl fl (z : Int) ∈ fl := fun z hz => by rw [gl_mem hz]; exact List.getElem_mem _
 have hlx := hl _ (hm x hx); have hly := hl _ (hm y' h2)
 have e : i = j := rst_idx hlx.1 hly.1 hi hly.2 h5
 subst e
 exact ⟨y', h1, h2, hH, h4, i, hi, hx, h2, fun k hk hne => (rst_same hlx.1 hly.1).1 h5 k hk hne⟩
end
theorem cmn_has {n : Nat} {c x : List Int} (hc : c.length = n) : cmnP c x = c ↔ HasP n c x := by
 constructor
 ·intro h k hk hne
  have := congrArg (fun l => gi l (k : Int)) h
  simp only [cmnP_at (a := c) (b := x) (show k < c.length by omega)] at this
  by_cases e : gi c (k : Int) = gi x (k : Int)
  ·exact e
  rw [if_neg e] at this; exact absurd this.symm hne
 intro h
 refine list_gi (n := n) (by rw [cmnP_len, hc]) hc fun k hk => ?_
 rw [cmnP_at (by omega)]
 split
 ·rfl
 rename_i e
 refine Classical.byContradiction fun h2 => e (h k hk fun h3 => h2 h3.symm)
/-! the flags that have what is common, one after the other -/
def alF (n : Nat) (fl : List (List Int)) (c : List Int) (f : Nat) : List Int := (rngI f).filter fun y => decide (HasP n c (gl fl y))
theorem alF_next {n : Nat} {fl : List (List Int)} {c : List Int} {f : Nat} : alF n fl c (f + 1) = if HasP n c (gl fl (f : Int)) then alF n fl c f ++ [(f : Int)] else alF n fl c f := by
 have : rngI (f + 1) = rngI f ++ [(f : Int)] := by
  unfold rngI
  rw [List.range_succ, List.map_append]; rfl
 unfold alF
 rw [this, List.filter_append]
 by_cases c : HasP n c (gl fl (f : Int))
 ·rw [if_pos c]; simp [c]
 rw [if_neg c]; simp [c]
theorem alF_mem {n : Nat} {fl : List (List Int)} {c : List Int} {f : Nat} {y : Int} : y ∈ alF n fl c f ↔ (0 ≤ y ∧ y < f) ∧ HasP n c (gl fl y) := by
 unfold alF
 rw [List.mem_filter, rngI_mem, decide_eq_true_eq]
def bndA (N : Nat) (al : List Int) (j : Nat) : Nat := if j < al.length then (gi al (j : Int)).toNat else N
theorem LblP.jump {N : Nat} {K : Nat → Nat → Prop} (hK : Per N K) {L : List Int} : ∀ (d f : Nat), LblP N K f L → f + d ≤ N → (∀ x, f ≤ x → x < f + d → ¬ K x x) → LblP N K (f + d) L
 | 0, f, h, _, _ => h
 | d + 1, f, h, hn, hx => by
  have h1 := h.skip hK (by omega) (.inr (hx f (Nat.le_refl _) (by omega)))
  have := LblP.jump hK d (f + 1) h1 (by omega) fun x h2 h3 => hx x (by omega) (by omega)
  rwa [show f + 1 + d = f + (d + 1) by omega] at this
section
variable {n : Nat} {fl : List (List Int)} {c : List Int} {L : List Int}
theorem alF_SA (f : Nat) : SA (alF n fl c f) := List.Pairwise.filter _ (rngI_SA _)
theorem bnd_le {j : Nat} : bndA fl.length (alF n fl c fl.length) j ≤ fl.length := by
 unfold bndA
 split
 ·rename_i h
  have := (alF_mem.1 (gi_in h)).1
  omega
 exact Nat.le_refl _
theorem lbl_first (h : LblP fl.length (LkH n fl c) 0 L) : LblP fl.length (LkH n fl c) (bndA fl.length (alF n fl c fl.length) 0) L := by
 have hle := bnd_le (n := n) (fl := fl) (c := c) (j := 0)
 have := h.jump (LkH.per n fl c) (bndA fl.length (alF n fl c fl.length) 0) 0 (by omega) fun x _ hx hk => by
  have hm : (x : Int) ∈ alF n fl c fl.length := alF_mem.2 ⟨by omega, hk.1⟩
  obtain ⟨p, hp, e⟩ := List.mem_iff_getElem.1 hm
  rw [← gi_mem hp] at e
  unfold bndA at hx
  rw [if_pos (by omega)] at hx
  by_cases e0 : p = 0
  ·subst e0; omega
  have := (alF_SA (n := n) (fl := fl) (c := c) fl.length).lt' (show 0 < p by omega) hp
  omega
 rwa [Nat.zero_add] at this
theorem lbl_next {j : Nat} (hj : j < (alF n fl c fl.length).length) {f : Nat} (hf : gi (alF n fl c fl.length) (j : Int) = f) (h : LblP fl.length (LkH n fl c) (f + 1) L) : LblP fl.length (LkH n fl c) (bndA fl.length (alF n fl c fl.length) (j + 1)) L := by
 have hle := bnd_le (n := n) (fl := fl) (c := c) (j := j + 1)
 have hfN := (alF_mem.1 (gi_in hj)).1
 have hge : f + 1 ≤ bndA fl.length (alF n fl c fl.length) (j + 1) := by
  unfold bndA
  split
  ·rename_i h2
   have := (alF_SA (n := n) (fl := fl) (c := c) fl.length).lt' (show j < j + 1 by omega) h2
   omega
  omega
 have := h.jump (LkH.per n fl c) (bndA fl.length (alF n fl c fl.length) (j + 1) - (f + 1)) (f + 1) (by omega) fun x hx0 hx hk => by
  have hm : (x : Int) ∈ alF n fl c fl.length := alF_mem.2 ⟨by omega, hk.1⟩
  obtain ⟨p, hp, e⟩ := List.mem_iff_getElem.1 hm
  rw [← gi_mem hp] at e
  have hpj : j < p := by
   rcases Nat.lt_trichotomy j p with h2 | h2 | h2
   ·exact h2
   ·subst h2; omega
   have := (alF_SA (n := n) (fl := fl) (c := c) fl.length).lt' h2 hj
   omega
  unfold bndA at hx
  rw [if_pos (by omega)] at hx
  by_cases e0 : p = j + 1
  ·subst e0; omega
  have := (alF_SA (n := n) (fl := fl) (c := c) fl.length).lt' (show j + 1 < p by omega) hp
  omega
 rwa [show f + 1 + (bndA fl.length (alF n fl c fl.length) (j + 1) - (f + 1)) = bndA fl.length (alF n fl c fl.length) (j + 1) by omega] at this
end
/-
 Plain mathematics of the program's way to find neighbours of flags: what its map and its moves hold.
-/
noncomputable def mvF (n : Nat) (fl : List (List Int)) (i f : Nat) : List Int := (List.range fl.length).map fun a => if a < f ∧ ptP n fl i a < f then (ptP n fl i a : Int) else 0
def FsP (n : Nat) (fl : List (List Int)) (i f : Nat) (L : List (ByteArray × Int)) : Prop := ∀ a : Nat, f ≤ a → a < fl.length → getA L (keyB (rstP (gl fl (a : Int)) i)) = if ptP n fl i a < f then some (ptP n fl i a : Int) else none
section
variable {n : Nat} {fl : List (List Int)} {i f : Nat} {L : List (ByteArray × Int)}
theorem mvF_len : (mvF n fl i f).length = fl.length := by simp [mvF]
theorem mvF_0 : mvF n fl i 0 = List.replicate fl.length 0 := by
 apply List.ext_getElem
 ·simp [mvF]
 intro a h1 h2
 simp [mvF]
theorem mvF_all (h : NbP n fl) (hi : i < n) : mvF n fl i fl.length = mvP n fl i := by
 rw [mv_pt h hi]
 unfold mvF
 refine List.map_congr_left fun a ha => ?_
 have ha := List.mem_range.1 ha
 rw [if_pos ⟨ha, h.lt ha hi⟩]
theorem mvF_miss (h : NbP n fl) (hi : i < n) (hf : f < fl.length) (hp : ¬ ptP n fl i f < f) : mvF n fl i (f + 1) = mvF n fl i f := by
 unfold mvF
 refine List.map_congr_left fun a ha => ?_
 have ha := List.mem_range.1 ha
 have h1 := (h.pt hf hi).1
 have h2 := h.pp ha hi
 by_cases e : a = f
 ·subst e
  rw [if_neg (by omega), if_neg (by omega)]
 by_cases e2 : ptP n fl i a = f
 ·have h3 : a = ptP n fl i f := by rw [← h2, e2]
  rw [if_neg (by omega), if_neg (by omega)]
 by_cases c : a < f ∧ ptP n fl i a < f
 ·rw [if_pos c, if_pos (by omega)]
 rw [if_neg c, if_neg (by omega)]
theorem mvF_hit (h : NbP n fl) (hi : i < n) (hf : f < fl.length) (hp : ptP n fl i f < f) : mvF n fl i (f + 1) = ((mvF n fl i f).set f (ptP n fl i f : Int)).set (ptP n fl i f) (f : Int) := by
 have hpp := h.pp hf hi
 apply List.ext_getElem
 ·simp [mvF]
 intro a h1 h2
 have ha : a < fl.length := by simpa [mvF] using h1
 have h3 := h.pp ha hi
 rw [List.getElem_set, List.getElem_set]
 simp only [mvF, List.getElem_map, List.getElem_range]
 by_cases e : ptP n fl i f = a
 ·subst e
  rw [if_pos rfl, hpp, if_pos (by omega)]
 rw [if_neg e]
 by_cases e2 : f = a
 ·subst e2
  rw [if_pos rfl, if_pos (by omega)]
 rw [if_neg e2]
 have h4 : ptP n fl i a ≠ f := fun e3 => e (by rw [← h3, e3])
 by_cases c : a < f ∧ ptP n fl i a < f
 ·rw [if_pos c, if_pos (by omega)]
 rw [if_neg c, if_neg (by omega)]
theorem FsP.zero : FsP n fl i 0 [] := fun a _ _ => by rw [if_neg (by omega)]; rfl
theorem FsP.at_ (h : FsP n fl i f L) (hf : f < fl.length) : getA L (keyB (rstP (gl fl (f : Int)) i)) = if ptP n fl i f < f then some (ptP n fl i f : Int) else none := h f (Nat.le_refl _) hf
theorem FsP.hit (hN : NbP n fl) (hi : i < n) (h : FsP n fl i f L) (hf : f < fl.length) (hp : ptP n fl i f < f) : FsP n fl i (f + 1) L := fun a h0 ha => by
 have h2 := hN.pp ha hi
 rw [h a (by omega) ha]
 have h4 : ptP n fl i a ≠ f := fun e => by rw [e] at h2; omega
 by_cases c : ptP n fl i a < f
 ·rw [if_pos c, if_pos (by omega)]
 rw [if_neg c, if_neg (by omega)]
theorem FsP.miss (hN : NbP n fl) (hl : ∀ x ∈ fl, x.length = n) (hi : i < n) (h : FsP n fl i f L) (hf : f < fl.length) (hp : ¬ ptP n fl i f < f) : FsP n fl i (f + 1) (putA L (keyB (rstP (gl fl (f : Int)) i)) (f : Int)) := fun a h0 ha => by
 have h1 := hN.pp hf hi
 have h2 := hN.pp ha hi
 have hk : keyB (rstP (gl fl (f : Int)) i) = keyB (rstP (gl fl (a : Int)) i) ↔ a = f ∨ a = ptP n fl i f := by
  have lf : (gl fl (f : Int)).length = n := hl _ (by rw [gl_mem hf]; exact List.getElem_mem _)
  have la : (gl fl (a : Int)).length = n := hl _ (by rw [gl_mem ha]; exact List.getElem_mem _)
  constructor
  ·intro e
   have e := (rst_same lf la).1 (keyB_inj e)
   by_cases c : a = f
   ·exact .inl c
   exact .inr (((hN.pt hf hi).2 a).1 ⟨⟨hf, ha, fun k hk hne => e k hk hne⟩, c⟩)
  intro e
  rcases e with e | e
  ·subst e; rfl
  have h3 := ((hN.pt hf hi).2 a).2 e
  exact congrArg keyB ((rst_same lf la).2 h3.1.2.2)
 rw [getA_put, h a (by omega) ha]
 by_cases e2 : a = ptP n fl i f
 ·rw [if_pos (hk.2 (.inr e2))]
  have h3 : ptP n fl i a = f := by rw [e2, h1]
  rw [if_pos (by omega), h3]
 rw [if_neg fun e3 => (hk.1 e3).elim (by omega) e2]
 have h4 : ptP n fl i a ≠ f := fun e3 => e2 (by rw [← h2, e3])
 by_cases c : ptP n fl i a < f
 ·rw [if_pos c, if_pos (by omega)]
 rw [if_neg c, if_neg (by omega)]
end
/-
 Plain mathematics: the maniplex of the flags of a polytope is a maniplex, and its faces are the polytope's elements.
-/
section
variable {n : Nat} {fl : List (List Int)}
theorem mn_len (n : Nat) (fl : List (List Int)) : (mnP n fl).length = n := by simp [mnP]
theorem mn_row (n : Nat) (fl : List (List Int)) {i : Nat} (hi : i < n) : gl (mnP n fl) (i : Int) = mvP n fl i := by
 rw [gl_mem (by rw [mn_len]; exact hi)]
 simp [mnP]
theorem mn_at (h : NbP n fl) {i : Nat} (hi : i < n) : gl (mnP n fl) (i : Int) = (List.range fl.length).map fun a => (ptP n fl i a : Int) := by rw [mn_row n fl hi, mv_pt h hi]
theorem mn_gi (h : NbP n fl) {i a : Nat} (hi : i < n) (ha : a < fl.length) : gi (gl (mnP n fl) (i : Int)) (a : Int) = ptP n fl i a := by
 rw [mn_at h hi, gi_mem (by simpa using ha)]
 simp
theorem mn_rl (h : NbP n fl) {i : Nat} (hi : i < n) : (gl (mnP n fl) (i : Int)).length = fl.length := by rw [mn_at h hi]; simp
theorem mn_mem (h : NbP n fl) {p : List Int} : p ∈ mnP n fl ↔ ∃ i : Nat, i < n ∧ p = gl (mnP n fl) (i : Int) := by
 constructor
 ·intro hp
  obtain ⟨i, hi, e⟩ := List.mem_iff_getElem.1 hp
  rw [mn_len] at hi
  exact ⟨i, hi, by rw [gl_mem (by rw [mn_len]; exact hi)]; exact e.symm⟩
 rintro ⟨i, hi, rfl⟩
 rw [gl_mem (by rw [mn_len]; exact hi)]
 exact List.getElem_mem _
theorem mn_gi0 (h : NbP n fl) {i : Nat} (hi : i < n) {x : Int} (h0 : 0 ≤ x) (h1 : x < fl.length) : gi (gl (mnP n fl) (i : Int)) x = ptP n fl i x.toNat := by
 obtain ⟨a, rfl⟩ : ∃ a : Nat, x = a := ⟨x.toNat, by omega⟩
 rw [mn_gi h hi (by omega)]; simp
theorem mn_perm (h : NbP n fl) (hb : fl.length ≤ 400) {i : Nat} (hi : i < n) : IsPerm (gl (mnP n fl) (i : Int)) ∧ IsFree (gl (mnP n fl) (i : Int)) := by
 have hl := mn_rl h hi
 refine ⟨⟨by omega, fun x hx => ?_, ?_⟩, fun a ha => ?_⟩
 ·rw [hl]
  rw [mn_at h hi] at hx
  obtain ⟨a, ha, rfl⟩ := List.mem_map.1 hx
  have := h.lt (List.mem_range.1 ha) hi
  omega
 ·rw [mn_at h hi]
  refine List.pairwise_map.2 ((List.nodup_range (n := fl.length)).imp_of_mem fun {a b} ha hb hne e => hne ?_)
  have ha := List.mem_range.1 ha
  have hb := List.mem_range.1 hb
  have e : ptP n fl i a = ptP n fl i b := by omega
  rw [← h.pp ha hi, e, h.pp hb hi]
 rw [hl] at ha
 rw [mn_gi h hi ha, mn_gi h hi (h.lt ha hi), h.pp ha hi]
 have := (h.pt ha hi).1
 exact ⟨by omega, O⟩
theorem mn_sys (h : NbP n fl) : Sys fl.length (mnP n fl) := fun p hp => by
 obtain ⟨i, hi, rfl⟩ := (mn_mem h).1 hp
 refine ⟨mn_rl h hi, fun x h0 h1 => ?_⟩
 rw [mn_gi0 h hi h0 h1]
 have := h.lt (a := x.toNat) (by omega) hi
 omega
theorem mn_adj (h : NbP n fl) {i a : Nat} (ha : a < fl.length) (hi : i < n) : AdjP n fl i a (ptP n fl i a) := (((h.pt ha hi).2 _).2 rfl).1
theorem mn_erase (h : NbP n fl) {i : Nat} {p : List Int} : p ∈ (mnP n fl).eraseIdx i ↔ ∃ k : Nat, k < n ∧ k ≠ i ∧ p = gl (mnP n fl) (k : Int) := by
 rw [List.mem_eraseIdx_iff_getElem]
 constructor
 ·rintro ⟨k, hk, hne, e⟩
  rw [mn_len] at hk
  exact ⟨k, hk, hne, by rw [gl_mem (by rw [mn_len]; exact hk)]; exact e.symm⟩
 rintro ⟨k, hk, hne, rfl⟩
 exact ⟨k, by rw [mn_len]; exact hk, hne, by rw [gl_mem (by rw [mn_len]; exact hk)]⟩
theorem mn_keep (h : NbP n fl) {i : Nat} (hi : i < n) {a : Nat} (ha : a < fl.length) {y : Int} (hr : Reach ((mnP n fl).eraseIdx i) (a : Int) y) : (0 ≤ y ∧ y < fl.length) ∧ gi (gl fl y) (i : Int) = gi (gl fl (a : Int)) (i : Int) := by
 induction hr with
 | refl => exact ⟨by omega, rfl⟩
 | step hr hp ih =>
  rename_i y p
  obtain ⟨k, hk, hne, rfl⟩ := (mn_erase h).1 hp
  obtain ⟨b, rfl⟩ : ∃ b : Nat, y = b := ⟨y.toNat, by omega⟩
  have hb : b < fl.length := by omega
  rw [mn_gi h hk hb]
  have h1 := h.lt hb hk
  exact ⟨by omega, by rw [← (mn_adj h hb hk).2.2 i hi (fun e => hne e.symm)]; exact ih.2⟩
theorem mn_link (h : NbP n fl) {S : Nat → Prop} {i : Nat} (hS : S i) {a b : Nat} (hl : LnkP n fl S a b) : Reach ((mnP n fl).eraseIdx i) (a : Int) (b : Int) := by
 induction hl with
 | refl => exact .refl
 | step hl hk hs ha ih =>
  rename_i b c k
  by_cases e : c = b
  ·subst e; exact ih
  have hb := hl.rng.2
  have e2 : c = ptP n fl k b := ((h.pt hb hk).2 c).1 ⟨ha, e⟩
  have := Reach.step ih ((mn_erase h).2 ⟨k, hk, fun e3 => hs (e3 ▸ hS), O⟩)
  rw [mn_gi h hk hb, ← e2] at this
  exact this
theorem mn_link0 (h : NbP n fl) {S : Nat → Prop} {a b : Nat} (hl : LnkP n fl S a b) : Reach (mnP n fl) (a : Int) (b : Int) := by
 induction hl with
 | refl => exact .refl
 | step hl hk hs ha ih =>
  rename_i b c k
  by_cases e : c = b
  ·subst e; exact ih
  have hb := hl.rng.2
  have e2 : c = ptP n fl k b := ((h.pt hb hk).2 c).1 ⟨ha, e⟩
  have := Reach.step ih ((mn_mem h).2 ⟨k, hk, O⟩)
  rw [mn_gi h hk hb, ← e2] at this
  exact this
theorem mn_face (h : NbP n fl) (hc : ConP n fl) {i : Nat} (hi : i < n) {a b : Nat} (ha : a < fl.length) (hb : b < fl.length) : Reach ((mnP n fl).eraseIdx i) (a : Int) (b : Int) ↔ gi (gl fl (a : Int)) (i : Int) = gi (gl fl (b : Int)) (i : Int) := by
 constructor
 ·intro hr
  exact (mn_keep h hi ha hr).2.symm
 intro e
 rcases Nat.lt_trichotomy a b with hab | hab | hab
 ·exact mn_link h (S := fun k => gi (gl fl (a : Int)) (k : Int) = gi (gl fl (b : Int)) (k : Int)) e (hc a b hab hb)
 ·subst hab; exact .refl
 exact mn_link h (S := fun k => gi (gl fl (b : Int)) (k : Int) = gi (gl fl (a : Int)) (k : Int)) e.symm (hc b a hab ha).symm
end
section
variable {n : Nat} {R : List Int} {B : List (List Int)}
theorem flg_comm (hP : PosP n R B) (hD : DiaP n R B) {i k a : Nat} (hi : i < n) (hk : k < n) (hik : i + 2 ≤ k) (ha : a < (flgP n R B).length) :
  ptP n (flgP n R B) k (ptP n (flgP n R B) i a) = ptP n (flgP n R B) i (ptP n (flgP n R B) k a) := by
 have h := flg_NbP hP hD
 have hn : 1 ≤ n := by omega
 obtain ⟨b, hb⟩ : ∃ b, ptP n (flgP n R B) i a = b := ⟨_, rfl⟩
 obtain ⟨c, hc⟩ : ∃ c, ptP n (flgP n R B) k a = c := ⟨_, rfl⟩
 have hbl : b < (flgP n R B).length := hb ▸ h.lt ha hi
 have hcl : c < (flgP n R B).length := hc ▸ h.lt ha hk
 have ab := mn_adj h ha hi
 have ac := mn_adj h ha hk
 have nb := (h.pt ha hi).1
 have nc := (h.pt ha hk).1
 rw [hb] at ab nb ⊢
 rw [hc] at ac nc ⊢
 have fa := flg_at hn ha
 have fb := flg_at hn hbl
 have fc := flg_at hn hcl
 obtain ⟨x, hx⟩ : ∃ x : List Int, x = (gl (flgP n R B) (c : Int)).set i (gi (gl (flgP n R B) (b : Int)) (i : Int)) := ⟨_, rfl⟩
 have hxl : x.length = n := by rw [hx, List.length_set]; exact fc.1
 have hxi : ∀ j : Nat, j < n → gi x (j : Int) = if i = j then gi (gl (flgP n R B) (b : Int)) (i : Int) else gi (gl (flgP n R B) (c : Int)) (j : Int) := fun j hj => by
  rw [gi_mem (by omega)]
  subst hx
  rw [List.getElem_set]
  split
  ·rfl
  exact (gi_mem (by rw [fc.1]; exact hj)).symm
 have hm : x ∈ flgP n R B := by
  refine (flgP_mem hn).2 ⟨hxl, fun j hj => ?_, fun j hj => ?_⟩
  ·rw [hxi j hj]
   split
   ·rename_i e; subst e; exact fb.2.1 i hj
   exact fc.2.1 j hj
  rw [hxi j (by omega), hxi (j + 1) hj]
  by_cases e1 : i = j
  ·subst e1
   rw [if_pos rfl, if_neg (by omega), ← ac.2.2 (i + 1) hj (by omega), ab.2.2 (i + 1) hj (by omega)]
   exact fb.2.2 i hj
  by_cases e2 : i = j + 1
  ·subst e2
   rw [if_neg e1, if_pos rfl, ← ac.2.2 j (by omega) (by omega), ab.2.2 j (by omega) (by omega)]
   exact fb.2.2 j hj
  rw [if_neg e1, if_neg e2]
  exact fc.2.2 j hj
 obtain ⟨d, hd, ed⟩ := List.mem_iff_getElem.1 hm
 have ed' : gl (flgP n R B) (d : Int) = x := by rw [gl_mem hd]; exact ed
 have e1 : ptP n (flgP n R B) k b = d := by
  refine (((h.pt hbl hk).2 d).1 ⟨⟨hbl, hd, fun j hj hne => ?_⟩, fun e => ?_⟩).symm
  ·rw [ed', hxi j hj]
   split
   ·rename_i e; subst e; rfl
   rename_i e; rw [← ab.2.2 j hj (fun e' => e e'.symm), ac.2.2 j hj hne]
  subst e
  have h1 := hxi k hk
  rw [if_neg (by omega), ← ed', ← ab.2.2 k hk (by omega)] at h1
  exact nc (flg_inj hcl ha (list_gi (n := n) fc.1 fa.1 fun j hj => by
   by_cases e : j = k
   ·subst e; exact h1.symm
   exact (ac.2.2 j hj e).symm))
 have e2 : ptP n (flgP n R B) i c = d := by
  refine (((h.pt hcl hi).2 d).1 ⟨⟨hcl, hd, fun j hj hne => ?_⟩, fun e => ?_⟩).symm
  ·rw [ed', hxi j hj, if_neg (fun e => hne e.symm)]
  subst e
  have h1 := hxi i hi
  rw [if_pos rfl, ← ed', ← ac.2.2 i hi (by omega)] at h1
  exact nb (flg_inj hbl ha (list_gi (n := n) fb.1 fa.1 fun j hj => by
   by_cases e : j = i
   ·subst e; exact h1.symm
   exact (ab.2.2 j hj e).symm))
 rw [e1, e2]
theorem mn_mani (hP : PosP n R B) (hY : PlyP n R B) (hn : n ≤ 5) (hb : (flgP n R B).length ≤ 400) : Mani (mnP n (flgP n R B)) := by
 have h := flg_NbP hP hY.2.2.1
 have hn1 := hP.n1
 have h0 : 0 < n := by omega
 have hpos : 0 < (flgP n R B).length := List.length_pos_iff.2 hY.1
 have hl0 : (gl (mnP n (flgP n R B)) 0).length = (flgP n R B).length := mn_rl h h0
 have h2 : 2 ≤ (flgP n R B).length := by
  have h1 := (h.pt hpos h0).1
  have h3 := h.lt hpos h0
  omega
 refine ⟨by rw [mn_len]; omega, by rw [hl0]; omega, fun p hp => ?_, fun i hi k hk hik f hf => ?_, ?_⟩
 ·obtain ⟨i, hi, rfl⟩ := (mn_mem h).1 hp
  rw [hl0, mn_rl h hi]
  exact ⟨O, mn_perm h hb hi⟩
 ·rw [mn_len] at hi hk
  rw [hl0] at hf
  have hi' := h.lt hf hi
  have hk' := h.lt hf hk
  refine ⟨?_, ?_⟩
  ·rw [mn_gi h hi hf, mn_gi h hk hf, mn_gi h hk hi', mn_gi h hi hk', flg_comm hP hY.2.2.1 hi hk hik hf]
  rw [mn_gi h hi hf, mn_gi h hk hf]
  intro e
  have e : ptP n (flgP n R B) i f = ptP n (flgP n R B) k f := by omega
  have a1 := mn_adj h hf hi
  have a2 := mn_adj h hf hk
  rw [← e] at a2
  refine (h.pt hf hi).1 (flg_inj hi' hf (list_gi (n := n) (flg_at (by omega) hi').1 (flg_at (by omega) hf).1 fun j hj => ?_))
  by_cases e3 : j = i
  ·exact (a2.2.2 j hj (by omega)).symm
  exact (a1.2.2 j hj e3).symm
 rw [hl0]
 refine (orbit_all (mn_sys h) hpos).2 fun x hx0 hx1 => ?_
 obtain ⟨b, rfl⟩ : ∃ b : Nat, x = b := ⟨x.toNat, by omega⟩
 by_cases e : b = 0
 ·subst e; exact .refl
 exact mn_link0 h (hY.2.2.2 0 b (by omega) (by omega))
end
/-
 Plain mathematics: the faces of the maniplex of a polytope's flags are as many as its elements, rank by rank.
-/
theorem faces_of {M : List (List Int)} (hM : Mani M) {i : Nat} {f g : Int} (h0 : 0 ≤ f) (h1 : f < (gl M 0).length) (h : Reach (M.eraseIdx i) f g) : gi (facesL M i) f = gi (facesL M i) g :=
 lab_reach (hM.2.2.1.sys.erase i) (hM.2.2.1.inj.erase i) h0 h1 h _ (Nat.le_refl _)
def rkE (R : List Int) (i : Int) : List Int := (rngI R.length).filter fun e => decide (gi R e = i)
theorem rkE_mem {R : List Int} {i e : Int} : e ∈ rkE R i ↔ (0 ≤ e ∧ e < R.length) ∧ gi R e = i := by
 unfold rkE
 rw [List.mem_filter, rngI_mem, decide_eq_true_eq]
theorem rkE_nodup (R : List Int) (i : Int) : (rkE R i).Nodup := (rngI_SA _).nodup.filter _
structure Ply (n : Nat) (R : List Int) (B : List (List Int)) : Prop where
 pos : PosP n R B
 ply : PlyP n R B
 n5 : n ≤ 5
 few : (flgP n R B).length ≤ 400
section
variable {n : Nat} {R : List Int} {B : List (List Int)}
theorem Ply.nb (h : Ply n R B) : NbP n (flgP n R B) := flg_NbP h.pos h.ply.2.2.1
theorem Ply.n1 (h : Ply n R B) : 1 ≤ n := by have := h.pos.n1; omega
theorem Ply.mani (h : Ply n R B) : Mani (mnP n (flgP n R B)) := mn_mani h.pos h.ply h.n5 h.few
theorem Ply.nl (h : Ply n R B) : (gl (mnP n (flgP n R B)) 0).length = (flgP n R B).length := mn_rl h.nb (show 0 < n by have := h.n1; omega)
theorem Ply.lbl (h : Ply n R B) {i : Nat} (hi : i < n) {a b : Nat} (ha : a < (flgP n R B).length) (hb : b < (flgP n R B).length) : gi (facesL (mnP n (flgP n R B)) i) (a : Int) = gi (facesL (mnP n (flgP n R B)) i) (b : Int) ↔ gi (gl (flgP n R B) (a : Int)) (i : Int) = gi (gl (flgP n R B) (b : Int)) (i : Int) := by
 rw [← mn_face h.nb h.ply.2.2.2 hi ha hb]
 constructor
 ·exact faces_same h.mani (by omega) (by rw [h.nl]; omega) (by omega) (by rw [h.nl]; omega)
 exact faces_of h.mani (by omega) (by rw [h.nl]; omega)
theorem Ply.thr (h : Ply n R B) {e : Int} (h0 : 0 ≤ e) (h1 : e < R.length) : ∃ a : Nat, a < (flgP n R B).length ∧ gi (gl (flgP n R B) (a : Int)) (gi R e) = e := by
 obtain ⟨x, hx, he⟩ := h.ply.2.1 e h0 h1
 obtain ⟨a, ha, ea⟩ := List.mem_iff_getElem.1 hx
 obtain ⟨k, hk, ek⟩ := List.mem_iff_getElem.1 he
 have hf := (flgP_mem h.n1).1 hx
 have hkn : k < n := by rw [← hf.1]; exact hk
 have e1 : gi x (k : Int) = e := by rw [gi_mem hk]; exact ek
 have e2 := (hf.2.1 k hkn).2
 rw [e1] at e2
 exact ⟨a, ha, by rw [gl_mem ha, ea, e2]; exact e1⟩
theorem Ply.at_ (h : Ply n R B) {a : Nat} (ha : a < (flgP n R B).length) {i : Nat} (hi : i < n) : (0 ≤ gi (gl (flgP n R B) (a : Int)) (i : Int) ∧ gi (gl (flgP n R B) (a : Int)) (i : Int) < R.length) ∧ gi R (gi (gl (flgP n R B) (a : Int)) (i : Int)) = i := (flg_at h.n1 ha).2.1 i hi
theorem Ply.cnt (h : Ply n R B) {i : Nat} (hi : i < n) : facesN (mnP n (flgP n R B)) i = ((rkE R (i : Int)).length : Int) := by
 have hN := h.nl
 have h0 := (facesN_le (mnP n (flgP n R B)) i).1
 have hex : ∀ e : Int, ∃ v : Int, e ∈ rkE R (i : Int) → (0 ≤ v ∧ v < facesN (mnP n (flgP n R B)) i) ∧ ∀ a : Nat, a < (flgP n R B).length → (gi (facesL (mnP n (flgP n R B)) i) (a : Int) = v ↔ gi (gl (flgP n R B) (a : Int)) (i : Int) = e) := fun e => by
  by_cases he : e ∈ rkE R (i : Int)
  ·have hr := rkE_mem.1 he
   obtain ⟨b, hb, eb⟩ := h.thr hr.1.1 hr.1.2
   rw [hr.2] at eb
   exact ⟨gi (facesL (mnP n (flgP n R B)) i) (b : Int), fun _ => ⟨faces_in h.mani i b (by rw [hN]; exact hb), fun a ha => by rw [h.lbl hi ha hb, eb]⟩⟩
  exact ⟨0, fun h => absurd h he⟩
 obtain ⟨g, hg⟩ := Classical.axiomOfChoice hex
 have hg : ∀ e : Int, e ∈ rkE R (i : Int) → (0 ≤ g e ∧ g e < facesN (mnP n (flgP n R B)) i) ∧ ∀ a : Nat, a < (flgP n R B).length → (gi (facesL (mnP n (flgP n R B)) i) (a : Int) = g e ↔ gi (gl (flgP n R B) (a : Int)) (i : Int) = e) := hg
 have hp : ((rkE R (i : Int)).map g).Perm (rngI (facesN (mnP n (flgP n R B)) i).toNat) := by
  refine (List.perm_ext_iff_of_nodup ?_ (rngI_SA _).nodup).2 fun v => ?_
  ·refine List.pairwise_map.2 ((rkE_nodup R (i : Int)).imp_of_mem fun {e d} he hd hne q => hne ?_)
   have hr := rkE_mem.1 he
   obtain ⟨b, hb, eb⟩ := h.thr hr.1.1 hr.1.2
   rw [hr.2] at eb
   have h1 := ((hg e he).2 b hb).2 eb
   rw [q] at h1
   rw [← ((hg d hd).2 b hb).1 h1]
   exact eb.symm
  rw [rngI_mem, List.mem_map]
  constructor
  ·rintro ⟨e, he, rfl⟩
   have := (hg e he).1
   omega
  intro hv
  obtain ⟨f, hf, ef⟩ := faces_hit h.mani i v hv.1 (by omega)
  rw [hN] at hf
  have h1 := h.at_ hf hi
  have hm : gi (gl (flgP n R B) (f : Int)) (i : Int) ∈ rkE R (i : Int) := rkE_mem.2 h1
  refine ⟨_, hm, ?_⟩
  rw [← ((hg _ hm).2 f hf).2 rfl]
  exact ef
 have hl := hp.length_eq
 rw [List.length_map, rngI_len] at hl
 omega
theorem rk_sum (R : List Int) (hR : ∀ e : Int, 0 ≤ e → e < R.length → 0 ≤ gi R e) : ∀ i : Nat, ((rngI R.length).filter fun e => decide (gi R e < (i : Int))).length + (rkE R (i : Int)).length = ((rngI R.length).filter fun e => decide (gi R e < ((i + 1 : Nat) : Int))).length := fun i => by
 unfold rkE
 generalize rngI R.length = l
 induction l with
 | nil => rfl
 | cons e l ih =>
  rcases Int.lt_trichotomy (gi R e) (i : Int) with c | c | c
  ·rw [List.filter_cons_of_pos (by simpa using c), List.filter_cons_of_neg (by simp; omega), List.filter_cons_of_pos (by simp; omega)]
   simp only [List.length_cons]; omega
  ·rw [List.filter_cons_of_neg (by simp; omega), List.filter_cons_of_pos (by simpa using c), List.filter_cons_of_pos (by simp; omega)]
   simp only [List.length_cons]; omega
  ·rw [List.filter_cons_of_neg (by simp; omega), List.filter_cons_of_neg (by simp; omega), List.filter_cons_of_neg (by simp; omega)]
   exact ih
theorem Ply.off (h : Ply n R B) : ∀ i : Nat, i ≤ n → offP (mnP n (flgP n R B)) i = ((rngI R.length).filter fun e => decide (gi R e < (i : Int))).length := by
 have hri : ∀ e : Int, 0 ≤ e → e < R.length → 0 ≤ gi R e := fun e h0 h1 => (h.pos.ri h0 h1).1
 intro i
 induction i with
 | zero =>
  intro _
  rw [List.filter_eq_nil_iff.2 fun e he => ?_]
  ·rfl
  ·have hr := (rngI_mem _ _).1 he
   have := hri e hr.1 hr.2
   simp; omega
 | succ i ih =>
  intro hi
  have h1 := h.cnt (show i < n by omega)
  show offP _ i + (facesN _ i).toNat = _
  rw [ih (by omega), h1, ← rk_sum R hri i]
  omega
theorem Ply.offAll (h : Ply n R B) : offP (mnP n (flgP n R B)) n = R.length := by
 rw [h.off n (Nat.le_refl _), List.filter_eq_self.2 fun e he => ?_]
 ·exact rngI_len _
 have hr := (rngI_mem _ _).1 he
 have := (h.pos.ri hr.1 hr.2).2
 simp; omega
end
/-
 Plain mathematics: products of polytopes are polytopes.
-/
def BtwL (m : Nat) (rk : Int → Int) (und : Int → Int → Prop) : Prop := ∀ a b : Int, 0 ≤ a ∧ a < m → 0 ≤ b ∧ b < m → und a b → rk a + 1 < rk b → ∃ c : Int, (0 ≤ c ∧ c < m) ∧ und a c ∧ und c b ∧ rk c = rk a + 1
def elL (m : Nat) (rk : Int → Int) (p : Nat) (a : Int) : Prop := (0 ≤ a ∧ a < m) ∧ rk a + 1 = p
section
variable {m n : Nat} {rk : Int → Int} {und : Int → Int → Prop}
theorem Lat.grp (h : Lat m n rk und) (hb : BtwL m rk und) : GrP (n + 1) (elL m rk) und where
 one := fun ha hb => by have := ha.2; have := hb.2; omega
 rf := h.refl
 tr := fun ha hb hc => h.trans _ _ _ ha.1 hb.1 hc.1
 st := fun {i j a b} ha hb hab => by
  by_cases e : a = b
  ·exact .inl e
  have := h.strict a b ha.1 hb.1 hab e
  have := ha.2; have := hb.2
  exact .inr (by omega)
 btw := fun {i j a b} ha hc hab hij => by
  have h1 := ha.2; have h2 := hc.2
  obtain ⟨c, h3, h4, h5, h6⟩ := hb a b ha.1 hc.1 hab (by omega)
  exact ⟨c, ⟨h3, by omega⟩, h4, h5⟩
 bnd := fun ha => by have := (h.rng ha.1).2; have := ha.2; omega
 bot := ⟨0, ⟨⟨by omega, by have := h.two; omega⟩, by rw [h.r0]; rfl⟩, fun i a ha => ⟨h.bot a, fun e => h.zero ha.1 (by have := ha.2; omega)⟩⟩
 top := ⟨(m : Int) - 1, ⟨⟨by have := h.two; omega, by omega⟩, by rw [h.rt]; omega⟩, fun i a ha => ⟨h.top a, fun e => h.whole ha.1 (by have := ha.2; omega)⟩⟩
end
section
variable {n : Nat} {R : List Int} {B : List (List Int)}
theorem repF (hP : PosP n R B) (hb : BtwL (R.length + 2) (gi (fcR n R)) (UndP R.length B)) : RepZ n R B (elL (R.length + 2) (gi (fcR n R))) (UndP R.length B) (fun e => e + 1) where
 n1 := by have := hP.n1; omega
 g := (lat_of hP).grp hb
 lev := fun e he i _ hi => ⟨by omega, by rw [fcR_mid _ _ (by omega) (by omega), Int.add_sub_cancel, hi]; omega⟩
 sur := fun i a hi ha => by
  have h1 := ha.1; have h2 := ha.2
  have n0 : a ≠ 0 := fun e => by subst e; have : gi (fcR n R) 0 = -1 := rfl; omega
  have n9 : a ≠ (R.length : Int) + 1 := fun e => by subst e; rw [fcR_top] at h2; omega
  rw [fcR_mid _ _ (by omega) (by omega)] at h2
  exact ⟨a - 1, by omega, by omega, by omega⟩
 inj := fun d e _ _ h => by have h : d + 1 = e + 1 := h; omega
 inc := fun d e hd he hr => by
  show _ ↔ UndP R.length B (d + 1) (e + 1)
  unfold UndP
  rw [Int.add_sub_cancel, Int.add_sub_cancel]
  constructor
  ·intro h; exact .inr (.inr (.inr ⟨by omega, by omega, by omega, by omega, h⟩))
  rintro (h | h | h | h)
  ·have : d = e := by omega
   subst this; omega
  ·omega
  ·omega
  exact h.2.2.2.2
theorem secF (hP : PosP n R B) (hb : BtwL (R.length + 2) (gi (fcR n R)) (UndP R.length B)) (hc : ConP n (flgP n R B)) : SecC (elL (R.length + 2) (gi (fcR n R))) (UndP R.length B) :=
 sec_of ((lat_of hP).grp hb) ((repF hP hb).conF hc)
end
theorem fp_el {M : List (List Int)} (hM : Mani M) {e : Int} (h0 : 0 ≤ e) (h1 : e < (offP M M.length : Int)) : ∃ i : Nat, i < M.length ∧ ∃ f : Nat, f < (gl M 0).length ∧ e = fpE M i f := by
 obtain ⟨i, hi, h2, h3⟩ := fpR_rk h0 h1
 have h3 : e < ((offP M i + (facesN M i).toNat : Nat) : Int) := h3
 obtain ⟨f, hf, e1⟩ := faces_hit hM i (e - (offP M i : Int)) (by omega) (by omega)
 refine ⟨i, hi, f, hf, ?_⟩
 unfold fpE
 rw [e1]; omega
theorem fp_at {M : List (List Int)} (hM : Mani M) {i f : Nat} (hi : i < M.length) (hf : f < (gl M 0).length) : (0 ≤ fpE M i f ∧ fpE M i f < (offP M M.length : Int)) ∧ gi (fpR M M.length) (fpE M i f) = i := by
 have h := fpE_in hM (i := i) hf
 have := offP_mono M (i := i + 1) (j := M.length) hi
 exact ⟨by omega, fpR_at hi h.1 h.2⟩
theorem fp_btw {M : List (List Int)} (hM : Mani M) : BtwL ((fpR M M.length).length + 2) (gi (fcR M.length (fpR M M.length))) (UndP (fpR M M.length).length (fpB M)) := by
 have hl := fpR_len M M.length
 have h1 := hM.1
 rw [hl]
 have el : ∀ (i f : Nat), i < M.length → f < (gl M 0).length → (0 ≤ fpE M i f + 1 ∧ fpE M i f + 1 < ((offP M M.length + 2 : Nat) : Int)) ∧ gi (fcR M.length (fpR M M.length)) (fpE M i f + 1) = i := fun i f hi hf => by
  have h := fp_at hM hi hf
  exact ⟨by omega, by rw [fcR_mid _ _ (by omega) (by omega), Int.add_sub_cancel]; exact h.2⟩
 have und : ∀ (k i f : Nat), k < i → i < M.length → f < (gl M 0).length → UndP (offP M M.length) (fpB M) (fpE M k f + 1) (fpE M i f + 1) := fun k i f hk hi hf => by
  have h := fp_at hM hi hf
  have h' := fp_at hM (show k < M.length by omega) hf
  exact .inr (.inr (.inr ⟨by omega, by omega, by omega, by omega, by rw [Int.add_sub_cancel, Int.add_sub_cancel, fpB_at h.1.1 h.1.2]; exact ⟨h'.1, f, hf, i, hi, k, hk, O, O⟩⟩))
 have cs : ∀ a : Int, 0 ≤ a → a < ((offP M M.length + 2 : Nat) : Int) → a = 0 ∨ a = (offP M M.length : Int) + 1 ∨ ∃ i : Nat, i < M.length ∧ ∃ f : Nat, f < (gl M 0).length ∧ a = fpE M i f + 1 := fun a h0 h9 => by
  by_cases e0 : a = 0
  ·exact .inl e0
  by_cases e9 : a = (offP M M.length : Int) + 1
  ·exact .inr (.inl e9)
  obtain ⟨i, hi, f, hf, e⟩ := fp_el hM (e := a - 1) (by omega) (by omega)
  exact .inr (.inr ⟨i, hi, f, hf, by omega⟩)
 have r0 : gi (fcR M.length (fpR M M.length)) 0 = -1 := O
 have r9 : gi (fcR M.length (fpR M M.length)) ((offP M M.length : Int) + 1) = M.length := by rw [← hl]; exact fcR_top _ _
 intro a b ha hb hab hr
 rcases cs a ha.1 ha.2 with rfl | rfl | ⟨i, hi, f, hf, rfl⟩
 ·rw [r0] at hr ⊢
  rcases cs b hb.1 hb.2 with rfl | rfl | ⟨k, hk, g, hg, rfl⟩
  ·rw [r0] at hr; omega
  ·have hN : 0 < (gl M 0).length := by have := hM.2.1; omega
   exact ⟨fpE M 0 0 + 1, (el 0 0 (by omega) hN).1, .inr (.inl O), .inr (.inr (.inl O)), (el 0 0 (by omega) hN).2⟩
  rw [(el k g hk hg).2] at hr
  exact ⟨fpE M 0 g + 1, (el 0 g (by omega) hg).1, .inr (.inl O), und 0 k g (by omega) hk hg, (el 0 g (by omega) hg).2⟩
 ·rw [r9] at hr
  rcases cs b hb.1 hb.2 with rfl | rfl | ⟨k, hk, g, hg, rfl⟩
  ·rw [r0] at hr; omega
  ·rw [r9] at hr; omega
  rw [(el k g hk hg).2] at hr; omega
 rw [(el i f hi hf).2] at hr ⊢
 rcases cs b hb.1 hb.2 with rfl | rfl | ⟨k, hk, g, hg, rfl⟩
 ·rw [r0] at hr; omega
 ·rw [r9] at hr
  exact ⟨fpE M (i + 1) f + 1, (el (i + 1) f (by omega) hf).1, und i (i + 1) f (by omega) (by omega) hf, .inr (.inr (.inl O)), by rw [(el (i + 1) f (by omega) hf).2]; omega⟩
 rw [(el k g hk hg).2] at hr
 have hA := fp_at hM hi hf
 have hB := fp_at hM hk hg
 have hm : fpE M i f ∈ gl (fpB M) (fpE M k g) := by
  rcases hab with h | h | h | h
  ·have : fpE M i f = fpE M k g := by omega
   have e := hA.2; rw [this, hB.2] at e; omega
  ·omega
  ·omega
  have := h.2.2.2.2; rwa [Int.add_sub_cancel, Int.add_sub_cancel] at this
 rw [fpB_at hB.1.1 hB.1.2] at hm
 obtain ⟨_, f', hf', i', hi', k', hk', e1, e2⟩ := hm
 have hA' := fp_at hM (show k' < M.length by omega) hf'
 have hB' := fp_at hM hi' hf'
 have ei : i = k' := by have a := hA.2; have b := hA'.2; rw [e2] at a; omega
 have ek : k = i' := by have a := hB.2; have b := hB'.2; rw [e1] at a; omega
 subst ei; subst ek
 rw [e1, e2]
 exact ⟨fpE M (i + 1) f' + 1, (el (i + 1) f' (by omega) hf').1, und i (i + 1) f' (by omega) (by omega) hf', und (i + 1) k f' (by omega) hk hf', by rw [(el (i + 1) f' (by omega) hf').2]; omega⟩
/-
 Plain mathematics: products of polytopes are polytopes (2).
-/
section
variable {m1 m2 n1 n2 : Nat} {rk1 rk2 : Int → Int} {und1 und2 : Int → Int → Prop}
theorem elJ_iff (h1 : Lat m1 n1 rk1 und1) (h2 : Lat m2 n2 rk2 und2) {i : Nat} {c : Int × Int} : elJ (elL m1 rk1) (elL m2 rk2) (i + 1) c ↔ ElP m1 m2 rk1 rk2 0 i c := by
  constructor
  · rintro ⟨p, q, a, b, e⟩
    have h3 := a.2; have h4 := b.2
    exact ⟨a.1, b.1, by show rk1 c.1 + rk2 c.2 + 1 = _; omega, fun h => by rcases h with h | h; · omega
                                                                           omega⟩
  rintro ⟨a, b, e, _⟩
  have e : rk1 c.1 + rk2 c.2 + 1 = i := e
  have := h1.rng a; have := h2.rng b
  exact ⟨(rk1 c.1 + 1).toNat, (rk2 c.2 + 1).toNat, ⟨a, by omega⟩, ⟨b, by omega⟩, by omega⟩
theorem elC_iff (h1 : Lat m1 n1 rk1 und1) (h2 : Lat m2 n2 rk2 und2) {i : Nat} {c : Int × Int} : elC (elL m1 rk1) (elL m2 rk2) (i + 1) c ↔ ElP m1 m2 rk1 rk2 1 i c := by
 constructor
 ·rintro (⟨e, _⟩ | ⟨p, q, hp, hq, a, b, e⟩)
  ·omega
  have h3 := a.2; have h4 := b.2
  refine ⟨a.1, b.1, by show rk1 c.1 + rk2 c.2 + 0 = _; omega, fun h => ?_⟩
  rcases h with ⟨_, h | h⟩ | h
  ·rw [h, h1.r0] at h3; omega
  ·rw [h, h2.r0] at h4; omega
  omega
 rintro ⟨a, b, e, hx⟩
 have e : rk1 c.1 + rk2 c.2 + 0 = i := e
 have k1 := h1.rng a; have k2 := h2.rng b
 have n1 : rk1 c.1 ≠ -1 := fun h => hx (.inl ⟨O, .inl (h1.zero a h)⟩)
 have n2 : rk2 c.2 ≠ -1 := fun h => hx (.inl ⟨O, .inr (h2.zero b h)⟩)
 exact .inr ⟨(rk1 c.1 + 1).toNat, (rk2 c.2 + 1).toNat, by omega, by omega, ⟨a, by omega⟩, ⟨b, by omega⟩, by omega⟩
def elS (N1 N2 : Nat) {α β : Type} (el1 : Nat → α → Prop) (el2 : Nat → β → Prop) : Nat → α × β → Prop := elD (N1 + N2 - 1) (elC (elD N1 el1) (elD N2 el2))
theorem elS_iff (h1 : Lat m1 n1 rk1 und1) (h2 : Lat m2 n2 rk2 und2) {i : Nat} (hi : i < n1 + n2) {c : Int × Int} : elS (n1 + 1) (n2 + 1) (elL m1 rk1) (elL m2 rk2) (i + 1) c ↔ ElP m1 m2 rk1 rk2 2 i c := by
 constructor
 ·rintro ⟨hN, ⟨e, _⟩ | ⟨p, q, hp, hq, ⟨hp', a⟩, ⟨hq', b⟩, e⟩⟩
  ·omega
  have h3 := a.2; have h4 := b.2
  refine ⟨a.1, b.1, by show rk1 c.1 + rk2 c.2 + 1 = _; omega, fun h => ?_⟩
  rcases h with h | ⟨_, h | h⟩
  ·omega
  ·rw [h, h1.rt] at h3; omega
  rw [h, h2.rt] at h4; omega
 rintro ⟨a, b, e, hx⟩
 have e : rk1 c.1 + rk2 c.2 + 1 = i := e
 have k1 := h1.rng a; have k2 := h2.rng b
 have x1 : rk1 c.1 ≠ n1 := fun h => hx (.inr ⟨O, .inl (h1.whole a h)⟩)
 have x2 : rk2 c.2 ≠ n2 := fun h => hx (.inr ⟨O, .inr (h2.whole b h)⟩)
 refine ⟨by omega, .inr ⟨n1 + 1 - (rk1 c.1 + 1).toNat, n2 + 1 - (rk2 c.2 + 1).toNat, by omega, by omega, ⟨by omega, a, ?_⟩, ⟨by omega, b, ?_⟩, by omega⟩⟩
 ·rw [show n1 + 1 - (n1 + 1 - (rk1 c.1 + 1).toNat) = (rk1 c.1 + 1).toNat by omega]; omega
 rw [show n2 + 1 - (n2 + 1 - (rk2 c.2 + 1).toNat) = (rk2 c.2 + 1).toNat by omega]; omega
variable [DecidableRel und1] [DecidableRel und2] {kind : Int}
theorem rep_of (h1 : Lat m1 n1 rk1 und1) (h2 : Lat m2 n2 rk2 und2) {k : Nat} (hk : 1 ≤ k) {el : Nat → Int × Int → Prop} {le : Int × Int → Int × Int → Prop} (g : GrP (k + 1) el le) (hel : ∀ i : Nat, i < k → ∀ c : Int × Int, el (i + 1) c ↔ ElP m1 m2 rk1 rk2 kind i c) (hle : ∀ c d : Int × Int, le c d ↔ und1 c.1 d.1 ∧ und2 c.2 d.2) :
  RepZ k ((prL m1 m2 rk1 rk2 kind k).map (rkP rk1 rk2 kind)) (prB und1 und2 (prL m1 m2 rk1 rk2 kind k)) el le (gp (prL m1 m2 rk1 rk2 kind k)) := by
 have hl : ((prL m1 m2 rk1 rk2 kind k).map (rkP rk1 rk2 kind)).length = (prL m1 m2 rk1 rk2 kind k).length := by simp
 refine ⟨hk, g, fun e he i hi hr => ?_, fun i a hi ha => ?_, fun d e hd he h => ?_, fun d e hd he hr => ?_⟩
 ·rw [hl] at he
  obtain ⟨j, hj, hE, hJ⟩ := gp_el he
  have : i = j := by omega
  subst this
  exact (hel i hi _).2 hE
 ·obtain ⟨e, he, h⟩ := el_gp hi ((hel i hi a).1 ha)
  refine ⟨e, by rw [hl]; exact he, ?_, h⟩
  obtain ⟨j, hj, hE, hJ⟩ := gp_el he
  rw [hJ]
  rw [h] at hE
  have h3 := ((hel i hi a).1 ha).2.2.1
  have h4 := hE.2.2.1
  omega
 ·rw [hl] at hd he
  exact gp_inj hd he h
 rw [hl] at hd he
 rw [prB_at he.1 he.2, prBe_mem h1 h2 he, hle]
 exact ⟨fun h => h.2.2, fun h => ⟨hd, fun e => by rw [e] at hr; omega, h⟩⟩
theorem prod_rep (h1 : Lat m1 n1 rk1 und1) (h2 : Lat m2 n2 rk2 und2) (b1 : BtwL m1 rk1 und1) (b2 : BtwL m2 rk2 und2) (s1 : SecC (elL m1 rk1) und1) (s2 : SecC (elL m2 rk2) und2) (hkd : 0 ≤ kind ∧ kind ≤ 2) {k : Nat} (hk : (k : Int) = rnP n1 n2 kind) (hk1 : 1 ≤ k) :
  ∃ (el : Nat → Int × Int → Prop) (le : Int × Int → Int × Int → Prop), RepZ k ((prL m1 m2 rk1 rk2 kind k).map (rkP rk1 rk2 kind)) (prB und1 und2 (prL m1 m2 rk1 rk2 kind k)) el le (gp (prL m1 m2 rk1 rk2 kind k)) ∧ SecC el le := by
 have g1 := h1.grp b1
 have g2 := h2.grp b2
 rcases (show kind = 0 ∨ kind = 1 ∨ kind = 2 by omega) with rfl | rfl | rfl
 ·have e : (k : Int) = n1 + n2 + 1 := hk
  have g := joinG g1 g2
  rw [show n1 + 1 + (n2 + 1) = k + 1 by omega] at g
  exact ⟨_, _, rep_of h1 h2 hk1 g (fun i _ c => elJ_iff h1 h2) (fun c d => Iff.rfl), joinC g1 g2 s1 s2⟩
 ·have e : (k : Int) = n1 + n2 := hk
  have g := cartG g1 g2 (by omega) (by omega)
  rw [show n1 + 1 + (n2 + 1) - 1 = k + 1 by omega] at g
  exact ⟨_, _, rep_of h1 h2 hk1 g (fun i _ c => elC_iff h1 h2) (fun c d => Iff.rfl), cartC g1 g2 s1 s2⟩
 have e : (k : Int) = n1 + n2 := hk
 have g0 := cartG g1.dual g2.dual (by omega) (by omega)
 have g := g0.dual
 have c0 := (cartC g1.dual g2.dual (s1.dual g1) (s2.dual g2)).dual g0
 have hg : GrP (k + 1) (elS (n1 + 1) (n2 + 1) (elL m1 rk1) (elL m2 rk2)) (leD (leP (leD und1) (leD und2))) := by
  have := g
  rw [show n1 + 1 + (n2 + 1) - 1 = k + 1 by omega] at this
  unfold elS
  rw [show n1 + 1 + (n2 + 1) - 1 = k + 1 by omega]
  exact this
 exact ⟨_, _, rep_of h1 h2 hk1 hg (fun i hi c => elS_iff h1 h2 (by omega)) (fun c d => Iff.rfl), c0⟩
theorem prod_ply (h1 : Lat m1 n1 rk1 und1) (h2 : Lat m2 n2 rk2 und2) (b1 : BtwL m1 rk1 und1) (b2 : BtwL m2 rk2 und2) (s1 : SecC (elL m1 rk1) und1) (s2 : SecC (elL m2 rk2) und2) (d1 : DiaL m1 rk1 und1) (d2 : DiaL m2 rk2 und2) (c1 : ChnL m1 n1 rk1 und1) (c2 : ChnL m2 n2 rk2 und2) (hkd : 0 ≤ kind ∧ kind ≤ 2) {k : Nat} (hk : (k : Int) = rnP n1 n2 kind) (hk2 : 2 ≤ k) (hneg : 1 ≤ (n1 : Int) ∧ (1 ≤ (n2 : Int) ∨ kind = 0)) : PlyP k ((prL m1 m2 rk1 rk2 kind k).map (rkP rk1 rk2 kind)) (prB und1 und2 (prL m1 m2 rk1 rk2 kind k)) := by
 obtain ⟨el, le, hr, hs⟩ := prod_rep h1 h2 b1 b2 s1 s2 hkd hk (by omega)
 refine ⟨prod_flg h1 h2 c1 c2 hkd hk (by omega) hneg, hr.pure fun e h0 h9 => ?_, prod_dia h1 h2 d1 d2 hkd hk hk2 hneg, hr.con (conF_of hr.g hs)⟩
 rw [List.length_map] at h9
 obtain ⟨i, hi, _, e⟩ := gp_el ⟨h0, h9⟩
 rw [e]; omega
end
/-
 Plain mathematics: the number of flags of a product.
-/
def bnZ : Nat → Nat → Nat
 | 0, _ => 1
 | _ + 1, 0 => 1
 | r + 1, s + 1 => bnZ r (s + 1) + bnZ (r + 1) s
theorem bnZ_0 (s : Nat) : bnZ 0 s = 1 := by rw [bnZ]
theorem bnZ_1 (r : Nat) : bnZ r 0 = 1 := by cases r <;> rw [bnZ]
theorem bnZ_s (r s : Nat) : bnZ (r + 1) (s + 1) = bnZ r (s + 1) + bnZ (r + 1) s := by rw [bnZ]
section
variable {α : Type}
def cU (U : α → List α) : Nat → α → Nat
 | 0, _ => 1
 | r + 1, a => ((U a).map (cU U r)).sum
structure EnZ (el : Nat → α → Prop) (le : α → α → Prop) (U : α → List α) : Prop where
 nd : ∀ {p : Nat} {a : α}, el p a → (U a).Nodup
 mem : ∀ {p : Nat} {a b : α}, el p a → (b ∈ U a ↔ el (p + 1) b ∧ le a b)
theorem sum_perm {l m : List Nat} (h : l.Perm m) : l.sum = m.sum := by
 induction h with
 | nil => rfl
 | cons x _ ih => simp [ih]
 | swap x y l => simp [Nat.add_left_comm]
 | trans _ _ h1 h2 => exact h1.trans h2
theorem perm_of {l m : List α} (hl : l.Nodup) (hm : m.Nodup) (h : ∀ x, x ∈ l ↔ x ∈ m) : l.Perm m := (List.perm_ext_iff_of_nodup hl hm).2 h
theorem sum_map_congr {l : List α} {f g : α → Nat} (h : ∀ x ∈ l, f x = g x) : (l.map f).sum = (l.map g).sum := by rw [List.map_congr_left h]
theorem sum_map_mul (l : List α) (f : α → Nat) (k : Nat) : (l.map fun x => f x * k).sum = (l.map f).sum * k := by
 induction l with
 | nil => simp
 | cons x l ih => simp only [List.map_cons, List.sum_cons, ih, Nat.add_mul]
theorem map_nodup {β : Type} {l : List α} {f : α → β} (hn : l.Nodup) (h : ∀ x ∈ l, ∀ y ∈ l, f x = f y → x = y) : (l.map f).Nodup := by
 induction l with
 | nil => simp
 | cons x l ih =>
  rw [List.nodup_cons] at hn
  rw [List.map_cons, List.nodup_cons]
  refine ⟨fun hm => ?_, ih hn.2 fun a ha b hb => h a (List.mem_cons_of_mem _ ha) b (List.mem_cons_of_mem _ hb)⟩
  obtain ⟨y, hy, e⟩ := List.mem_map.1 hm
  have := h y (List.mem_cons_of_mem _ hy) x (List.mem_cons_self ..) e
  subst this
  exact hn.1 hy
theorem RepZ.ext {n : Nat} {R : List Int} {B : List (List Int)} {el : Nat → α → Prop} {le : α → α → Prop} {φ : Int → α} (h : RepZ n R B el le φ) {U : α → List α} (hU : EnZ el le U) :
  ∀ (r : Nat) (e : Int) (i : Nat), 0 ≤ e ∧ e < R.length → gi R e = i → i + r < n → (extP R B r e).length = cU U r (φ e) := by
 intro r
 induction r with
 | zero => intro e i _ _ _; rfl
 | succ r ih =>
  intro e i he hr hi
  have hel := h.lev e he i (by omega) hr
  have hp : ((upsP R B e).map φ).Perm (U (φ e)) := by
   refine perm_of (map_nodup (upsP_SA R B e).nodup fun x hx y hy => h.inj x y (upsP_mem.1 hx).1 (upsP_mem.1 hy).1) (hU.nd hel) fun b => ?_
   rw [List.mem_map, hU.mem hel]
   constructor
   ·rintro ⟨f, hf, rfl⟩
    have hf := upsP_mem.1 hf
    refine ⟨h.lev f hf.1 (i + 1) (by omega) (by omega), (h.inc e f he hf.1 hf.2.1).1 hf.2.2⟩
   ·rintro ⟨h1, h2⟩
    obtain ⟨f, hf, k1, k2⟩ := h.sur (i + 1) b (by omega) h1
    subst k2
    exact ⟨f, upsP_mem.2 ⟨hf, by omega, (h.inc e f he hf (by omega)).2 h2⟩, O⟩
  show ((upsP R B e).flatMap fun f => (extP R B r f).map (f :: ·)).length = ((U (φ e)).map (cU U r)).sum
  rw [List.length_flatMap, ← sum_perm (hp.map (cU U r)), List.map_map]
  refine sum_map_congr fun f hf => ?_
  have hf := upsP_mem.1 hf
  rw [List.length_map, ih f (i + 1) hf.1 (by omega) (by omega)]
  rfl
theorem RepZ.flags {n : Nat} {R : List Int} {B : List (List Int)} {el : Nat → α → Prop} {le : α → α → Prop} {φ : Int → α} (h : RepZ n R B el le φ) {U : α → List α} (hU : EnZ el le U) {o : α} (ho : el 0 o) (ho' : ∀ (i : Nat) (a : α), el i a → le o a) : (flgP n R B).length = cU U n o := by
 have hn := h.n1
 obtain ⟨k, rfl⟩ : ∃ k, n = k + 1 := ⟨n - 1, by omega⟩
 have hp : ((botP R).map φ).Perm (U o) := by
  refine perm_of (map_nodup ((rngI_SA _).nodup.filter _) fun x hx y hy => h.inj x y (botP_mem.1 hx).1 (botP_mem.1 hy).1) (hU.nd ho) fun b => ?_
  rw [List.mem_map, hU.mem ho]
  constructor
  ·rintro ⟨f, hf, rfl⟩
   have hf := botP_mem.1 hf
   have := h.lev f hf.1 0 (by omega) (by omega)
   exact ⟨this, ho' _ _ this⟩
  rintro ⟨h1, h2⟩
  obtain ⟨f, hf, k1, k2⟩ := h.sur 0 b (by omega) h1
  exact ⟨f, botP_mem.2 ⟨hf, by omega⟩, k2⟩
 show ((botP R).flatMap fun e => (extP R B (k + 1 - 1) e).map (e :: ·)).length = ((U o).map (cU U k)).sum
 rw [List.length_flatMap, ← sum_perm (hp.map (cU U k)), List.map_map]
 refine sum_map_congr fun f hf => ?_
 have hf := botP_mem.1 hf
 rw [List.length_map, h.ext hU _ f 0 hf.1 (by omega) (by omega)]
 rfl
open Classical in
theorem RepZ.en {n : Nat} {R : List Int} {B : List (List Int)} {el : Nat → α → Prop} {le : α → α → Prop} {φ : Int → α} (h : RepZ n R B el le φ) (hr : ∀ e : Int, 0 ≤ e → e < R.length → gi R e < n) : ∃ U, EnZ el le U := by
 obtain ⟨t, ht, ht'⟩ := h.g.top
 have hL : ∀ (a : α) (e : Int), e ∈ (rngI R.length).filter (fun e => decide (∃ p : Nat, el p a ∧ gi R e = (p : Int) ∧ le a (φ e))) ↔ (0 ≤ e ∧ e < R.length) ∧ ∃ p : Nat, el p a ∧ gi R e = (p : Int) ∧ le a (φ e) := fun a e => by
  rw [List.mem_filter, rngI_mem, decide_eq_true_eq]
 refine ⟨fun a => ((rngI R.length).filter (fun e => decide (∃ p : Nat, el p a ∧ gi R e = (p : Int) ∧ le a (φ e)))).map φ ++ (if el n a then [t] else []), fun {p a} ha => ?_, fun {p a b} ha => ?_⟩
 ·rw [List.nodup_append]
  refine ⟨map_nodup ((rngI_SA _).nodup.filter _) fun x hx y hy => h.inj x y ((hL a x).1 hx).1 ((hL a y).1 hy).1, by split <;> simp, fun x hx y hy => ?_⟩
  split at hy
  ·rename_i hn
   obtain ⟨e, he, rfl⟩ := List.mem_map.1 hx
   obtain ⟨he, q, hq, hqr, _⟩ := (hL a e).1 he
   have := h.g.one hq hn
   have := hr e he.1 he.2
   omega
  cases hy
 rw [List.mem_append, List.mem_map]
 constructor
 ·rintro (⟨e, he, rfl⟩ | hb)
  ·obtain ⟨he, q, hq, hqr, hle⟩ := (hL a e).1 he
   have e2 := h.g.one hq ha
   have := hr e he.1 he.2
   exact ⟨e2 ▸ h.lev e he q (by omega) hqr, hle⟩
  split at hb
  ·rename_i hn
   have e2 := h.g.one hn ha
   have : b = t := by simpa using hb
   subst this
   exact ⟨e2 ▸ ht, (ht' _ _ ha).1⟩
  cases hb
 rintro ⟨hb, hle⟩
 by_cases hp : p < n
 ·obtain ⟨e, he, k1, k2⟩ := h.sur p b hp hb
  exact .inl ⟨e, (hL a e).2 ⟨he, p, ha, k1, by rw [k2]; exact hle⟩, k2⟩
 have hb' := h.g.bnd hb
 obtain rfl : p = n := by omega
 refine .inr ?_
 rw [if_pos ha, (ht' _ _ hb).2 rfl]
 exact List.mem_singleton.2 O
theorem cU_top {N : Nat} {el : Nat → α → Prop} {le : α → α → Prop} (g : GrP (N + 1) el le) {U : α → List α} (hU : EnZ el le U) : ∀ (r p : Nat) (a : α), el p a → p + r = N → cU U (r + 1) a = cU U r a := by
 intro r
 induction r with
 | zero =>
  intro p a ha hp
  obtain ⟨t, ht, ht'⟩ := g.top
  obtain rfl : p = N := by omega
  have : (U a).Perm [t] := perm_of (hU.nd ha) (by simp) fun b => by
   rw [hU.mem ha, List.mem_singleton]
   exact ⟨fun h => (ht' _ _ h.1).2 rfl, fun h => by subst h; exact ⟨ht, (ht' _ _ ha).1⟩⟩
  show ((U a).map (cU U 0)).sum = 1
  rw [sum_perm (this.map _)]; rfl
 | succ r ih =>
  intro p a ha hp
  show ((U a).map (cU U (r + 1))).sum = ((U a).map (cU U r)).sum
  exact sum_map_congr fun b hb => ih (p + 1) b ((hU.mem ha).1 hb).1 (by omega)
end
section
variable {α β : Type} {N1 N2 : Nat} {el1 : Nat → α → Prop} {le1 : α → α → Prop} {el2 : Nat → β → Prop} {le2 : β → β → Prop} {U1 : α → List α} {U2 : β → List β} {U : α × β → List (α × β)}
theorem cntG (h1 : EnZ el1 le1 U1) (h2 : EnZ el2 le2 U2) {K1 K2 s : Nat}
    (hU : ∀ (p q r1 r2 : Nat) (a : α) (b : β), s ≤ p → s ≤ q → el1 p a → el2 q b → p + r1 = K1 → q + r2 = K2 → 1 ≤ r1 + r2 → (U (a, b)).Perm ((if r1 = 0 then [] else (U1 a).map fun x => (x, b)) ++ (if r2 = 0 then [] else (U2 b).map fun y => (a, y)))) :
    ∀ (d r1 r2 p q : Nat) (a : α) (b : β), r1 + r2 = d → s ≤ p → s ≤ q → el1 p a → el2 q b → p + r1 = K1 → q + r2 = K2 → cU U d (a, b) = cU U1 r1 a * cU U2 r2 b * bnZ r1 r2 := by
  intro d
  induction d with
  | zero =>
    intro r1 r2 p q a b hd _ _ _ _ _ _
    obtain rfl : r1 = 0 := by omega
    obtain rfl : r2 = 0 := by omega
    rw [bnZ_0]; rfl
  | succ d ih =>
    intro r1 r2 p q a b hd hp hq ha hb e1 e2
    show ((U (a, b)).map (cU U d)).sum = _
    rw [sum_perm ((hU p q r1 r2 a b hp hq ha hb e1 e2 (by omega)).map (cU U d)), List.map_append, List.sum_append]
    have k1 : ∀ r, r1 = r + 1 → (((U1 a).map fun x => (x, b)).map (cU U d)).sum = cU U1 r1 a * cU U2 r2 b * bnZ r r2 := fun r hr => by
      subst hr
      rw [List.map_map]
      have : ((U1 a).map (cU U d ∘ fun x => (x, b))).sum = ((U1 a).map fun x => cU U1 r x * (cU U2 r2 b * bnZ r r2)).sum := sum_map_congr fun x hx => by
        show cU U d (x, b) = _
        rw [ih r r2 (p + 1) q x b (by omega) (by omega) hq ((h1.mem ha).1 hx).1 hb (by omega) e2, Nat.mul_assoc]
      rw [this, sum_map_mul, ← Nat.mul_assoc]; rfl
    have k2 : ∀ r, r2 = r + 1 → (((U2 b).map fun y => (a, y)).map (cU U d)).sum = cU U1 r1 a * cU U2 r2 b * bnZ r1 r := fun r hr => by
      subst hr
      rw [List.map_map]
      have : ((U2 b).map (cU U d ∘ fun y => (a, y))).sum = ((U2 b).map fun y => cU U2 r y * (cU U1 r1 a * bnZ r1 r)).sum := sum_map_congr fun y hy => by
        show cU U d (a, y) = _
        rw [ih r1 r p (q + 1) a y (by omega) hp (by omega) ha ((h2.mem hb).1 hy).1 e1 (by omega), Nat.mul_assoc, Nat.mul_left_comm]
      rw [this, sum_map_mul]
      show cU U2 (r + 1) b * (cU U1 r1 a * bnZ r1 r) = _
      rw [Nat.mul_left_comm, ← Nat.mul_assoc]
    cases r1 with
    | zero =>
      cases r2 with
      | zero => omega
      | succ r2 =>
        rw [if_pos rfl, if_neg (by omega), k2 r2 rfl, bnZ_0, bnZ_0]; simp
    | succ r1 =>
      cases r2 with
      | zero => rw [if_neg (by omega), if_pos rfl, k1 r1 rfl, bnZ_1, bnZ_1]; simp
      | succ r2 =>
        rw [if_neg (by omega), if_neg (by omega), k1 r1 rfl, k2 r2 rfl, ← Nat.mul_add, bnZ_s]
theorem stepG (g1 : GrP N1 el1 le1) (g2 : GrP N2 el2 le2) (h1 : EnZ el1 le1 U1) (h2 : EnZ el2 le2 U2) {el : Nat → α × β → Prop} (hU : EnZ el (leP le1 le2) U) {K1 K2 m p q r1 r2 : Nat} {a : α} {b : β} (hm : el m (a, b)) (ha : el1 p a) (hb : el2 q b) (hel : ∀ c : α × β, leP le1 le2 (a, b) c → (el (m + 1) c ↔ ∃ i j, i ≤ K1 ∧ j ≤ K2 ∧ el1 i c.1 ∧ el2 j c.2 ∧ i + j = p + q + 1)) (e1 : p + r1 = K1) (e2 : q + r2 = K2) : (U (a, b)).Perm ((if r1 = 0 then [] else (U1 a).map fun x => (x, b)) ++ (if r2 = 0 then [] else (U2 b).map fun y => (a, y))) := by
 have m1 : ∀ c : α × β, (c ∈ if r1 = 0 then ([] : List (α × β)) else (U1 a).map fun x => (x, b)) ↔ r1 ≠ 0 ∧ (el1 (p + 1) c.1 ∧ le1 a c.1) ∧ c.2 = b := fun c => by
  split
  ·simp_all
  rw [List.mem_map]
  constructor
  ·rintro ⟨x, hx, rfl⟩; exact ⟨by assumption, (h1.mem ha).1 hx, rfl⟩
  rintro ⟨_, hx, e⟩; exact ⟨c.1, (h1.mem ha).2 hx, by rw [← e]⟩
 have m2 : ∀ c : α × β, (c ∈ if r2 = 0 then ([] : List (α × β)) else (U2 b).map fun y => (a, y)) ↔ r2 ≠ 0 ∧ (el2 (q + 1) c.2 ∧ le2 b c.2) ∧ c.1 = a := fun c => by
  split
  ·simp_all
  rw [List.mem_map]
  constructor
  ·rintro ⟨x, hx, rfl⟩; exact ⟨by assumption, (h2.mem hb).1 hx, rfl⟩
  rintro ⟨_, hx, e⟩; exact ⟨c.2, (h2.mem hb).2 hx, by rw [← e]⟩
 refine perm_of (hU.nd hm) ?_ fun c => ?_
 ·rw [List.nodup_append]
  refine ⟨?_, ?_, fun x hx y hy e => ?_⟩
  ·split
   ·simp
   exact map_nodup (h1.nd ha) fun x _ y _ e => (Prod.mk.inj e).1
  ·split
   ·simp
   exact map_nodup (h2.nd hb) fun x _ y _ e => (Prod.mk.inj e).2
  subst e
  have hx := (m1 x).1 hx; have hy := (m2 x).1 hy
  have := hx.2.1.1
  rw [hy.2.2] at this
  have := g1.one this ha
  omega
 rw [hU.mem hm, List.mem_append, m1, m2]
 constructor
 ·rintro ⟨hc, hle⟩
  obtain ⟨i, j, hi, hj, k1, k2, k3⟩ := (hel c hle).1 hc
  have l1 := g1.lv ha k1 hle.1
  have l2 := g2.lv hb k2 hle.2
  by_cases e : i = p
  ·subst e
   obtain rfl : j = q + 1 := by omega
   exact .inr ⟨by omega, ⟨k2, hle.2⟩, (l1.2 O).symm⟩
  obtain rfl : i = p + 1 := by omega
  obtain rfl : j = q := by omega
  exact .inl ⟨by omega, ⟨k1, hle.1⟩, (l2.2 O).symm⟩
 rintro (⟨k0, ⟨k1, k2⟩, k3⟩ | ⟨k0, ⟨k1, k2⟩, k3⟩)
 ·have hle : leP le1 le2 (a, b) c := ⟨k2, by rw [k3]; exact g2.rf _⟩
  exact ⟨(hel c hle).2 ⟨p + 1, q, by omega, by omega, k1, by rw [k3]; exact hb, by omega⟩, hle⟩
 have hle : leP le1 le2 (a, b) c := ⟨by rw [k3]; exact g1.rf _, k2⟩
 exact ⟨(hel c hle).2 ⟨p, q + 1, by omega, by omega, by rw [k3]; exact ha, k1, by omega⟩, hle⟩
end
/-
 Plain mathematics: the number of flags of a product (2).
-/
section
variable {α β : Type} {n1 n2 : Nat} {el1 : Nat → α → Prop} {le1 : α → α → Prop} {el2 : Nat → β → Prop} {le2 : β → β → Prop} {U1 : α → List α} {U2 : β → List β} {U : α × β → List (α × β)}
theorem elS_lv {p : Nat} (hp : p ≤ n1 + n2) {c : α × β} : elS (n1 + 1) (n2 + 1) el1 el2 p c ↔ ∃ i j, i ≤ n1 ∧ j ≤ n2 ∧ el1 i c.1 ∧ el2 j c.2 ∧ i + j = p := by
 constructor
 ·rintro ⟨hN, ⟨e, _⟩ | ⟨i, j, hi, hj, ⟨hi', a⟩, ⟨hj', b⟩, e⟩⟩
  ·omega
  exact ⟨n1 + 1 - i, n2 + 1 - j, by omega, by omega, a, b, by omega⟩
 rintro ⟨i, j, hi, hj, a, b, e⟩
 exact ⟨by omega, .inr ⟨n1 + 1 - i, n2 + 1 - j, by omega, by omega, ⟨by omega, by rw [show n1 + 1 - (n1 + 1 - i) = i by omega]; exact a⟩, ⟨by omega, by rw [show n2 + 1 - (n2 + 1 - j) = j by omega]; exact b⟩, by omega⟩⟩
theorem cntJ (g1 : GrP (n1 + 1) el1 le1) (g2 : GrP (n2 + 1) el2 le2) (h1 : EnZ el1 le1 U1) (h2 : EnZ el2 le2 U2) (hU : EnZ (elJ el1 el2) (leP le1 le2) U) {o1 : α} {o2 : β} (k1 : el1 0 o1) (k2 : el2 0 o2) :
  cU U (n1 + 1 + (n2 + 1)) (o1, o2) = cU U1 n1 o1 * cU U2 n2 o2 * bnZ (n1 + 1) (n2 + 1) := by
 rw [cntG h1 h2 (K1 := n1 + 1) (K2 := n2 + 1) (s := 0) (fun p q r1 r2 a b _ _ ha hb e1 e2 _ => stepG g1 g2 h1 h2 hU (m := p + q) ⟨p, q, ha, hb, rfl⟩ ha hb (fun c _ => ?_) e1 e2) _ (n1 + 1) (n2 + 1) 0 0 o1 o2 rfl (Nat.zero_le _) (Nat.zero_le _) k1 k2 (by omega) (by omega), cU_top g1 h1 n1 0 o1 k1 (by omega), cU_top g2 h2 n2 0 o2 k2 (by omega)]
 constructor
 ·rintro ⟨i, j, a, b, e⟩; exact ⟨i, j, g1.bnd a, g2.bnd b, a, b, e.symm⟩
 rintro ⟨i, j, _, _, a, b, e⟩; exact ⟨i, j, a, b, e.symm⟩
theorem cntC (g1 : GrP (n1 + 1) el1 le1) (g2 : GrP (n2 + 1) el2 le2) (h1 : EnZ el1 le1 U1) (h2 : EnZ el2 le2 U2) (hU : EnZ (elC el1 el2) (leP le1 le2) U) {o1 : α} {o2 : β} (k1 : el1 0 o1) (k2 : el2 0 o2) (b1 : ∀ (i : Nat) (a : α), el1 i a → le1 o1 a) (b2 : ∀ (i : Nat) (a : β), el2 i a → le2 o2 a) :
  cU U (n1 + n2 + 1) (o1, o2) = cU U1 n1 o1 * cU U2 n2 o2 * bnZ n1 n2 := by
 have h0 : elC el1 el2 0 (o1, o2) := .inl ⟨O, k1, k2⟩
 have hp : (U (o1, o2)).Perm ((U1 o1).flatMap fun v => (U2 o2).map fun w => (v, w)) := by
  refine perm_of (hU.nd h0) ?_ fun c => ?_
  ·have : ∀ l : List α, l.Nodup → (l.flatMap fun v => (U2 o2).map fun w => (v, w)).Nodup := fun l => by
    induction l with
    | nil => intro _; simp
    | cons x l ih =>
     intro hn
     rw [List.nodup_cons] at hn
     rw [List.flatMap_cons, List.nodup_append]
     refine ⟨map_nodup (h2.nd k2) fun x _ y _ e => (Prod.mk.inj e).2, ih hn.2, fun a ha b hb e => ?_⟩
     subst e
     obtain ⟨w, _, rfl⟩ := List.mem_map.1 ha
     obtain ⟨v, hv, hb⟩ := List.mem_flatMap.1 hb
     obtain ⟨w', _, e⟩ := List.mem_map.1 hb
     have := (Prod.mk.inj e).1
     subst this
     exact hn.1 hv
   exact this _ (h1.nd k1)
  ·rw [hU.mem h0, List.mem_flatMap]
   constructor
   ·rintro ⟨⟨e, _⟩ | ⟨i, j, hi, hj, a, b, e⟩, hle⟩
    ·omega
    ·obtain rfl : i = 1 := by omega
     obtain rfl : j = 1 := by omega
     exact ⟨c.1, (h1.mem k1).2 ⟨a, hle.1⟩, List.mem_map.2 ⟨c.2, (h2.mem k2).2 ⟨b, hle.2⟩, O⟩⟩
   ·rintro ⟨v, hv, hvw⟩
    obtain ⟨w, hw0, rfl⟩ := List.mem_map.1 hvw
    have hv := (h1.mem k1).1 hv
    have hw := (h2.mem k2).1 hw0
    exact ⟨.inr ⟨1, 1, by omega, by omega, hv.1, hw.1, O⟩, ⟨hv.2, hw.2⟩⟩
 have key : ∀ v ∈ U1 o1, ∀ w ∈ U2 o2, cU U (n1 + n2) (v, w) = cU U1 n1 v * cU U2 n2 w * bnZ n1 n2 := fun v hv w hw => by
  have hv := ((h1.mem k1).1 hv).1
  have hw := ((h2.mem k2).1 hw).1
  refine cntG h1 h2 (K1 := n1 + 1) (K2 := n2 + 1) (s := 1) (fun p q r1 r2 a b hp hq ha hb e1 e2 _ => stepG g1 g2 h1 h2 hU (m := p + q - 1) (.inr ⟨p, q, hp, hq, ha, hb, by omega⟩) ha hb (fun c hc => ?_) e1 e2) _ n1 n2 1 1 v w O (Nat.le_refl _) (Nat.le_refl _) hv hw (by omega) (by omega)
  constructor
  ·rintro (⟨e, _⟩ | ⟨i, j, hi, hj, a, b, e⟩)
   ·omega
   ·exact ⟨i, j, g1.bnd a, g2.bnd b, a, b, by omega⟩
  ·rintro ⟨i, j, _, _, a, b, e⟩
   have := (g1.lv ha a hc.1).1; have := (g2.lv hb b hc.2).1
   exact .inr ⟨i, j, by omega, by omega, a, b, by omega⟩
 show ((U (o1, o2)).map (cU U (n1 + n2))).sum = _
 rw [sum_perm (hp.map _), List.map_flatMap]
 have fl : ∀ l : List α, (∀ v ∈ l, v ∈ U1 o1) → (l.flatMap fun v => ((U2 o2).map fun w => (v, w)).map (cU U (n1 + n2))).sum = (l.map (cU U1 n1)).sum * cU U2 (n2 + 1) o2 * bnZ n1 n2 := fun l => by
  induction l with
  | nil => intro _; simp
  | cons v l ih =>
   intro hl
   rw [List.flatMap_cons, List.sum_append, ih fun x hx => hl x (List.mem_cons_of_mem _ hx), List.map_map, List.map_cons, List.sum_cons]
   have : ((U2 o2).map (cU U (n1 + n2) ∘ fun w => (v, w))).sum = ((U2 o2).map fun w => cU U2 n2 w * (cU U1 n1 v * bnZ n1 n2)).sum := sum_map_congr fun w hw => by
    show cU U (n1 + n2) (v, w) = _
    rw [key v (hl v (List.mem_cons_self ..)) w hw, Nat.mul_comm (cU U1 n1 v), Nat.mul_assoc]
   rw [this, sum_map_mul]
   show cU U2 (n2 + 1) o2 * _ + _ = _
   rw [Nat.add_mul, Nat.add_mul, Nat.mul_comm (cU U1 n1 v) (cU U2 (n2 + 1) o2), Nat.mul_assoc (cU U2 (n2 + 1) o2)]
 rw [fl _ fun v h => h]
 show cU U1 (n1 + 1) o1 * cU U2 (n2 + 1) o2 * bnZ n1 n2 = _
 rw [cU_top g1 h1 n1 0 o1 k1 (by omega), cU_top g2 h2 n2 0 o2 k2 (by omega)]
theorem cntS (g1 : GrP (n1 + 1) el1 le1) (g2 : GrP (n2 + 1) el2 le2) (h1 : EnZ el1 le1 U1) (h2 : EnZ el2 le2 U2) (hU : EnZ (elS (n1 + 1) (n2 + 1) el1 el2) (leP le1 le2) U) {o1 : α} {o2 : β} (k1 : el1 0 o1) (k2 : el2 0 o2) :
  cU U (n1 + n2) (o1, o2) = cU U1 n1 o1 * cU U2 n2 o2 * bnZ n1 n2 := by
 refine cntG h1 h2 (K1 := n1) (K2 := n2) (s := 0) (fun p q r1 r2 a b _ _ ha hb e1 e2 _ => stepG g1 g2 h1 h2 hU (m := p + q) ((elS_lv (by omega)).2 ⟨p, q, by omega, by omega, ha, hb, O⟩) ha hb (fun c _ => ?_) e1 e2) _ n1 n2 0 0 o1 o2 O (Nat.zero_le _) (Nat.zero_le _) k1 k2 (by omega) (by omega)
 exact elS_lv (by omega)
end
section
variable {m1 m2 n1 n2 : Nat} {rk1 rk2 : Int → Int} {und1 und2 : Int → Int → Prop} [DecidableRel und1] [DecidableRel und2] {kind : Int} {U1 U2 : Int → List Int}
theorem prod_cnt (h1 : Lat m1 n1 rk1 und1) (h2 : Lat m2 n2 rk2 und2) (b1 : BtwL m1 rk1 und1) (b2 : BtwL m2 rk2 und2) (e1 : EnZ (elL m1 rk1) und1 U1) (e2 : EnZ (elL m2 rk2) und2 U2) (hkd : 0 ≤ kind ∧ kind ≤ 2) {k : Nat} (hk : (k : Int) = rnP n1 n2 kind) (hk1 : 1 ≤ k) : (flgP k ((prL m1 m2 rk1 rk2 kind k).map (rkP rk1 rk2 kind)) (prB und1 und2 (prL m1 m2 rk1 rk2 kind k))).length = cU U1 n1 0 * cU U2 n2 0 * (if kind = 0 then bnZ (n1 + 1) (n2 + 1) else bnZ n1 n2) := by
 have g1 := h1.grp b1
 have g2 := h2.grp b2
 have o1 : elL m1 rk1 0 0 := ⟨⟨by omega, by have := h1.two; omega⟩, by rw [h1.r0]; rfl⟩
 have o2 : elL m2 rk2 0 0 := ⟨⟨by omega, by have := h2.two; omega⟩, by rw [h2.r0]; rfl⟩
 have hr : ∀ e : Int, 0 ≤ e → e < ((prL m1 m2 rk1 rk2 kind k).map (rkP rk1 rk2 kind)).length → gi ((prL m1 m2 rk1 rk2 kind k).map (rkP rk1 rk2 kind)) e < k := fun e h0 h9 => by
  rw [List.length_map] at h9
  obtain ⟨i, hi, _, e⟩ := gp_el ⟨h0, h9⟩
  rw [e]; omega
 rcases (show kind = 0 ∨ kind = 1 ∨ kind = 2 by omega) with rfl | rfl | rfl
 ·have e : (k : Int) = n1 + n2 + 1 := hk
  have g := joinG g1 g2
  have g' := g
  rw [show n1 + 1 + (n2 + 1) = k + 1 by omega] at g'
  have rp := rep_of (kind := 0) h1 h2 hk1 g' (fun i _ c => elJ_iff h1 h2) (fun c d => Iff.rfl)
  obtain ⟨U, hU⟩ := rp.en hr
  rw [rp.flags hU (o := (0, 0)) ⟨0, 0, o1, o2, rfl⟩ fun i a _ => ⟨h1.bot _, h2.bot _⟩, ← cU_top g' hU k 0 (0, 0) ⟨0, 0, o1, o2, rfl⟩ (by omega), if_pos rfl, ← cntJ g1 g2 e1 e2 hU o1 o2, show n1 + 1 + (n2 + 1) = k + 1 by omega]
 ·have e : (k : Int) = n1 + n2 := hk
  have g := cartG g1 g2 (by omega) (by omega)
  have g' := g
  rw [show n1 + 1 + (n2 + 1) - 1 = k + 1 by omega] at g'
  have rp := rep_of (kind := 1) h1 h2 hk1 g' (fun i _ c => elC_iff h1 h2) (fun c d => Iff.rfl)
  obtain ⟨U, hU⟩ := rp.en hr
  have ho : elC (elL m1 rk1) (elL m2 rk2) 0 (0, 0) := .inl ⟨O, o1, o2⟩
  rw [rp.flags hU (o := (0, 0)) ho fun i a _ => ⟨h1.bot _, h2.bot _⟩, ← cU_top g' hU k 0 (0, 0) ho (by omega), if_neg (by omega), ← cntC g1 g2 e1 e2 hU o1 o2 (fun _ a _ => h1.bot a) (fun _ a _ => h2.bot a), show n1 + n2 + 1 = k + 1 by omega]
 have e : (k : Int) = n1 + n2 := hk
 have g := (cartG g1.dual g2.dual (by omega) (by omega)).dual
 have hg : GrP (k + 1) (elS (n1 + 1) (n2 + 1) (elL m1 rk1) (elL m2 rk2)) (leP und1 und2) := by
  have := g
  rw [show n1 + 1 + (n2 + 1) - 1 = k + 1 by omega] at this
  unfold elS
  rw [show n1 + 1 + (n2 + 1) - 1 = k + 1 by omega]
  exact this
 have rp := rep_of (kind := 2) h1 h2 hk1 hg (fun i hi c => elS_iff h1 h2 (by omega)) (fun c d => Iff.rfl)
 obtain ⟨U, hU⟩ := rp.en hr
 have ho : elS (n1 + 1) (n2 + 1) (elL m1 rk1) (elL m2 rk2) 0 (0, 0) := (elS_lv (by omega)).2 ⟨0, 0, by omega, by omega, o1, o2, O⟩
 rw [rp.flags hU (o := (0, 0)) ho fun i a _ => ⟨h1.bot _, h2.bot _⟩, if_neg (by omega), ← cntS g1 g2 e1 e2 hU o1 o2, show n1 + n2 = k by omega]
end
end Go.Proofs.YtopgfgdgfjddpaaGreatDoor.Vc
/-
 Half of a number that is not negative: the rule. Conditions: as it names them.
-/
namespace Go.Proofs.YtopgfgdgfjddpaaGreatDoor.Vc
open Go.RowKit
section
variable {P : Program} {N : Nat} {ops : Array Oper} {K : Env → World → Prop} {rest : List Oper} {e : Env} {w : World} {d : Nat} {ty : TypeId} {pos : String} {af : Array Edge} {x y : Operand} {xt yt : TypeId} {i : Int}
theorem Ops.shr1 {k : IntKind} (hx : ev e x = .int .u64 i) (hy : ev e y = .int k 1) (hb : Nat.blt d N = true) (h0 : 0 ≤ i) (hK : Ops P N ops K rest (upd e d (.int .u64 (i / 2))) w) :
  Ops P N ops K (⟨some d, .binOp .shr xt x y yt, ty, pos, af, none⟩ :: rest) e w := by
 refine .val (v := .int .u64 (i / 2)) ?_ hb hK
 have e1 : min 1 IntKind.u64.bits = 1 := by decide
 have e2 : i.fdiv 2 = i / 2 := Int.fdiv_eq_ediv_of_nonneg _ (by decide)
 simp [execOp, hx, hy, eqGuard, binOp, Op.shift, e1, e2]
end
/-
 Two results, a number and a truth: the rule.
-/
section
variable {w : World} {e : Env}
theorem ret2_ib {R : Value → World → Prop} {t u : Nat} {b : Bool} {k : IntKind} {i : Int} (h : e t = .int k i) (h2 : e u = .bool b) (hR : R (.tuple #[.int k i, .bool b]) w) : ret2 t u R .ret e w := by show R (.tuple #[e t, e u]) w; rw [h, h2]; exact hR
end
/-
 The program's and the reference's tests of posets: searches in ascending lists, walked.
-/
theorem cmpNaN'_c (x : Int) (w : World) : Ret Tryz.prog 221 [.int .i64 x] w (fun v w' => v = .bool (decide (¬ x = x)) ∧ w' = w) := by
 refine Ret.of_cd Tryz.func221 O Tryz.ntmps221 O (post1 O) (Gbr O (ret1_b O ?_))
 exact ⟨O, O⟩
theorem cmpLess'_c (x y : Int) (w : World) : Ret Tryz.prog 207 [.int .i64 x, .int .i64 y] w (fun v w' => v = .bool (decide (x < y)) ∧ w' = w) := by
 refine Ret.of_cd Tryz.func207 O Tryz.ntmps207 O (post1 O) (Gbo O (Ops.call (cmpNaN'_c x w) O O O ?_))
 rintro _ _ ⟨rfl, rfl⟩
 refine Gdo O ?_
 refine Ops.split_p 7 O (fun h => absurd O h) (fun _ => ?_)
 refine Ops.k O O O O O (Ops.k O O O O O (Ops.k O O O O O (Gdo O (Ops.g O O O (Gdo O (Ops.g O O O (Gdo O (Ops.g O O O (Gdr O ?_)))))))))
 refine ret1_b O ?_
 exact ⟨O, O⟩
theorem slNaN_c (x : Int) (w : World) : Ret Tryz.prog 208 [.int .i64 x] w (fun v w' => v = .bool (decide (¬ x = x)) ∧ w' = w) := by
 refine Ret.of_cd Tryz.func208 O Tryz.ntmps208 O (post1 O) (Gbr O (ret1_b O ?_))
 exact ⟨O, O⟩
theorem binD_c (A : Option Addr) (n c : Nat) (xs : List Int) (x : Int) (w : World) (hR : RdI w A n xs) (hs : SA xs) (hn : n ≤ 1000000000) :
  Ret Tryz.prog 148 [.slice A n c, .int .i64 x] w (fun v w' => (∃ k : Int, v = .tuple #[.int .i64 k, .bool (decide (x ∈ xs))]) ∧ w' = w) := by
 have hxl := hR.1
 refine Ret.of_cd Tryz.func148 O Tryz.ntmps148 O (post2 O) ?_
 refine Gbo O (Ops.len O O (Gdc O ?_))
 refine Cd.loop (α := Nat × Nat) (fun z => [(0, .slice A n c), (1, .int .i64 x), (6, .int .i64 (n : Int)), (7, .int .i64 (z.1 : Int)), (8, .int .i64 (z.2 : Int))]) (fun z w' => w' = w ∧ z.1 ≤ z.2 ∧ z.2 ≤ n ∧ (∀ p : Nat, p < z.1 → gi xs (p : Int) < x) ∧ ∀ p : Nat, z.2 ≤ p → p < n → x ≤ gi xs (p : Int)) (fun z => z.2 - z.1) (0, n) ⟨O, O, O, O, O, trivial⟩ ⟨O, Nat.zero_le _, Nat.le_refl _, fun p hp => absurd hp (Nat.not_lt_zero _), fun p hp hp2 => by have hp : n ≤ p := hp; omega⟩ ?_
 rintro ⟨i, j⟩ e w ⟨rfl, hij, hjn, hlo, hhi⟩
 dsimp only at hij hjn hlo hhi ⊢
 refine Gbc O ?_
 refine Cd.cond_p _ O (fun h1 => ?_) (fun h1 => ?_)
 ·refine Gao O (Ops.add O O O (by omega) ?_)
  refine Ops.convK O O (wrap_u64_in _ (by omega)) (Ops.shr1 O O O (by omega) (Ops.convK O O (IntWalk.i64_in _ (by omega)) ?_))
  obtain ⟨h, hh⟩ : ∃ h : Nat, h = (i + j) / 2 := ⟨_, rfl⟩
  rw [show ((i : Int) + (j : Int)) / 2 = (h : Int) by omega]
  refine Gdo O (Ops.idx hR.2 O O O (by omega) (by omega) (Ops.ld_int hR O (by omega) O O (Gdo O (Ops.call (cmpLess'_c _ _ _) O O O ?_))))
  rintro _ _ ⟨rfl, rfl⟩
  refine Gdc O ?_
  refine Cd.cond_p _ O (fun h2 => ?_) (fun h2 => ?_)
  ·refine Gao O (Ops.add O O O (by omega) (Gdn O (tQ ?_)))
   refine ⟨(h + 1, j), by show j - (h + 1) < j - i; omega, ⟨O, O, O, O, O, trivial⟩, O, by show h + 1 ≤ j; omega, hjn, fun p hp => ?_, hhi⟩
   have hp : p < h + 1 := hp
   by_cases e : p = h
   ·subst e; exact h2
   have := hs.lt' (show p < h by omega) (by omega); omega
  refine Gan O (tQ ?_)
  refine ⟨(i, h), by show h - i < j - i; omega, ⟨O, O, O, O, O, trivial⟩, O, by show i ≤ h; omega, by show h ≤ n; omega, hlo, fun p hp hp2 => ?_⟩
  have hp : h ≤ p := hp
  by_cases e : p = h
  ·subst e; omega
  have := hs.lt' (show h < p by omega) (by omega); omega
 obtain rfl : i = j := by omega
 have hno : ∀ p : Nat, p < n → gi xs (p : Int) = x → p = i := fun p hp hx => by
  rcases Nat.lt_trichotomy p i with h | h | h
  ·have := hlo p h; omega
  ·exact h
  have h3 := hs.lt' h (by omega)
  have h4 := hhi i (Nat.le_refl _) (by omega)
  omega
 have hmem : x ∈ xs ↔ i < n ∧ gi xs (i : Int) = x := by
  constructor
  ·intro hm
   obtain ⟨p, hp, e⟩ := List.mem_iff_getElem.1 hm
   have e2 : gi xs (p : Int) = x := by rw [gi_mem hp]; exact e
   have := hno p (by omega) e2
   subst this
   exact ⟨by omega, e2⟩
  rintro ⟨h2, h3⟩
  rw [← h3]; exact gi_in (by omega)
 refine Gax O (thenQ_x (Gfo O ?_))
 refine Ops.split_p 35 O (fun h2 => ?_) (fun h2 => ?_)
 ·refine Ops.g O O O (Gdo O (Ops.g O O O (Gdo O (Ops.g O O O ?_))))
  refine Ops.idx hR.2 O O O (by omega) (by omega) (Ops.g O O O (Ops.ld_int hR O (by omega) O O ?_))
  refine Ops.g O O O (Gdo O (Ops.g O O O (Gdo O (Ops.g O O O (Gdo O ?_)))))
  refine Ops.split_p 42 O (fun h3 => ?_) (fun h3 => ?_)
  ·refine Ops.k O O O O O (Ops.k O O O O O (Ops.k O O O O O (Ops.k O O O O O (Ops.k O O O O O (Ops.k O O O O O (Ops.skipu O O O O (Ops.skipu O O O O (Ops.k O O O O O (Ops.g O O O (Gdr O ?_))))))))))
   refine ret2_ib O O ?_
   exact ⟨⟨_, by rw [decide_eq_true (hmem.2 ⟨by omega, h3⟩)]⟩, O⟩
  refine Ops.g O O O (Gdo O (Ops.g O O O (Gdo O (Ops.g O O O ?_))))
  refine Ops.idx hR.2 O O O (by omega) (by omega) (Ops.g O O O (Ops.ld_int hR O (by omega) O O (Ops.g O O O (Ops.call (slNaN_c _ _) O O O ?_))))
  rintro _ _ ⟨rfl, rfl⟩
  refine Ops.g O O O (Gdo O ?_)
  refine Ops.split_p 48 O (fun h => absurd O h) (fun _ => ?_)
  refine Ops.k O O O O O (Ops.k O O O O O (Ops.g O O O (Gdo O (Ops.g O O O (Gdr O ?_)))))
  refine ret2_ib O O ?_
  exact ⟨⟨_, by rw [decide_eq_false (fun h => h3 (hmem.1 h).2)]⟩, O⟩
 refine Ops.k O O O O O (Ops.k O O O O O (Ops.k O O O O O (Ops.k O O O O O (Ops.k O O O O O (Ops.k O O O O O (Ops.k O O O O O (Ops.skipu O O O O (Ops.skipu O O O O (Ops.skipu O O O O (Ops.skipu O O O O (Ops.skipu O O O O ?_)))))))))))
 refine Ops.skipu O O O O (Ops.skipu O O O O (Ops.skipu O O O O (Ops.skipu O O O O (Ops.k O O O O O (Gdr O ?_)))))
 refine ret2_ib O O ?_
 exact ⟨⟨_, by rw [decide_eq_false (fun h => by have := (hmem.1 h).1; omega)]⟩, O⟩
theorem isBelowN_c (P A D : Option Addr) (cA r cD : Nat) (n : Int) (N : Nat) (rs : List SlV) (B : List (List Int)) (e f : Int) (w : World) (hP : Rd w P 3 (fun j => [Value.int .i64 n, .slice A r cA, .slice D N cD].getD j undef)) (hB : RowsI w D N rs B) (hBl : B.length = N) (hf : 0 ≤ f ∧ f < N) (hs : SA (gl B f)) (hl : (gl B f).length ≤ 1000000) :
  Ret Tryz.prog 139 [.pointer P, .int .i64 e, .int .i64 f] w (fun v w' => v = .bool (decide (e ∈ gl B f)) ∧ w' = w) := by
 have hrow := hB.at_ (i := f) hf.1 hf.2
 have hrn := hrow.1
 refine Ret.of_cd Tryz.func139 O Tryz.ntmps139 O (post1 O) (Gbo O ?_)
 refine Ops.nilp hP (by decide) O O ?_
 refine Ops.fld hP O O O O inferInstance (Ops.ldf_s hP O O O O O (Gdo O (Ops.idx hB.top.2 O O O (by omega) (by omega) (Ops.ld_sl hB.top O (by omega) O O (Gdo O (Ops.call (binD_c _ _ _ (gl B f) e w hrow hs (by omega)) O O O ?_))))))
 rintro _ _ ⟨⟨k, rfl⟩, rfl⟩
 refine Gdr O (ret1_b O ?_)
 exact ⟨O, O⟩
theorem isBelow_c (P A D : Option Addr) (cA cD : Nat) (n : Int) (R : List Int) (rs : List SlV) (B : List (List Int)) (e f : Int) (w : World) (hP : Rd w P 3 (fun j => [Value.int .i64 n, .slice A R.length cA, .slice D B.length cD].getD j undef)) (hB : RowsI w D B.length rs B) (hf : 0 ≤ f ∧ f < B.length) (hs : SA (gl B f)) (hl : (gl B f).length ≤ 1000000) :
  Ret Tryz.prog 139 [.pointer P, .int .i64 e, .int .i64 f] w (fun v w' => v = .bool (decide (e ∈ gl B f)) ∧ w' = w) :=
 isBelowN_c P A D cA R.length cD n B.length rs B e f w hP hB rfl hf hs hl
/-
 The program's faces of flags, walked.
-/
theorem mat_ap {t1 t2 : TypeId} {A : Option Addr} {n c : Nat} {rs : List SlV} {xss : List (List Int)} {ks : List Ck} {q : Ck} {i : Nat} (s : SlV) (xs : List Int) (hr : rs.length = xss.length) (hi : i < rs.length) : (q :: (mat t1 t2 A n c rs xss ++ ks)).set (2 + i) (CkI t2 s.a s.n s.c xs) = q :: (CkR t1 A n c rs :: (rowsCk t2 (rs.set i s) (xss.set i xs) ++ ks)) := by
 rw [show 2 + i = i + 1 + 1 by omega, List.set_cons_succ]
 show _ :: (CkR t1 A n c rs :: (rowsCk t2 rs xss ++ ks)).set (i + 1) _ = _
 rw [List.set_cons_succ, List.set_append_left _ _ (by rw [rowsCk_length hr]; exact hi), rowsCk_upd hr]
def fpG (M : List (List Int)) (i f : Nat) : List (List Int) := (List.range (gl M 0).length).map fun g => (List.range (if g < f then i + 1 else i)).map fun k => fpE M k g
def fpF (M : List (List Int)) : List (List Int) := (List.range (gl M 0).length).map fun g => (List.range M.length).map fun k => fpE M k g
theorem fpG_len (M : List (List Int)) (i f : Nat) : (fpG M i f).length = (gl M 0).length := by simp [fpG]
theorem fpG_zero (M : List (List Int)) (f : Nat) (h : f = 0) : fpG M 0 f = List.replicate (gl M 0).length [] := by
 subst h
 apply List.ext_getElem (by simp [fpG])
 intro i h1 h2
 simp [fpG]
theorem fpG_next (M : List (List Int)) (i : Nat) : fpG M i (gl M 0).length = fpG M (i + 1) 0 := by
 unfold fpG
 refine List.map_congr_left fun g hg => ?_
 rw [if_pos (List.mem_range.1 hg), if_neg (Nat.not_lt_zero _)]
theorem fpG_end (M : List (List Int)) : fpG M M.length 0 = fpF M := by
 unfold fpG fpF
 exact List.map_congr_left fun g _ => by rw [if_neg (Nat.not_lt_zero _)]
theorem fpG_at {M : List (List Int)} {i f g : Nat} (hg : g < (gl M 0).length) : gl (fpG M i f) (g : Int) = (List.range (if g < f then i + 1 else i)).map fun k => fpE M k g := by
 rw [gl_mem (by rw [fpG_len]; exact hg)]
 simp [fpG]
theorem fpG_step {M : List (List Int)} {i f : Nat} (hf : f < (gl M 0).length) : (fpG M i f).set f (gl (fpG M i f) (f : Int) ++ [fpE M i f]) = fpG M i (f + 1) := by
 apply List.ext_getElem (by simp [fpG])
 intro g h1 h2
 have hg : g < (gl M 0).length := by rw [fpG_len] at h2; exact h2
 rw [List.getElem_set]
 have e : (fpG M i (f + 1))[g] = gl (fpG M i (f + 1)) (g : Int) := by rw [gl_mem h2]
 rw [e, fpG_at hg]
 by_cases h : f = g
 ·subst h
  rw [if_pos rfl, if_pos (by omega), fpG_at hg, if_neg (by omega), List.range_succ, List.map_append]; rfl
 rw [if_neg h]
 have e2 : (fpG M i f)[g]'(by rw [fpG_len]; exact hg) = gl (fpG M i f) (g : Int) := by rw [gl_mem]
 rw [e2, fpG_at hg]
 by_cases h3 : g < f
 ·rw [if_pos h3, if_pos (by omega)]
 rw [if_neg h3, if_neg (by omega)]
theorem offP_bd {M : List (List Int)} : ∀ i, offP M i ≤ i * (gl M 0).length
 | 0 => Nat.zero_le _
 | i + 1 => by
  have h1 := offP_bd (M := M) i
  have h2 := facesN_le M i
  show offP M i + (facesN M i).toNat ≤ _
  rw [Nat.succ_mul]; omega
set_option maxHeartbeats 1000000 in
theorem allFaces_c (Ab A : Option Addr) (n c : Nat) (rs : List SlV) (M : List (List Int)) (w : World) (hB : Rd w Ab 1 (fun _ => .slice A n c)) (hR : RowsI w A n rs M) (hM : Mani M) :
  Ret Tryz.prog 97 [.pointer Ab] w (fun v w' => ∃ A' rs', v = .slice A' (gl M 0).length (gl M 0).length ∧ rs'.length = (gl M 0).length ∧ St w w' (mat 32 2 A' (gl M 0).length (gl M 0).length rs' (fpF M) ++ [])) := by
 have hl := hR.len
 have h1 := hM.1
 have h2 := hM.2.1
 have e0 : (rg rs 0).n = (gl M 0).length := (hR.rowLen (by omega) (by omega)).symm
 have hob : ∀ i, i ≤ n → offP M i ≤ 2000 := fun i hi => by
  have h3 := offP_bd (M := M) i
  have h4 : i * (gl M 0).length ≤ 5 * 400 := Nat.mul_le_mul (by omega) (by omega)
  omega
 generalize hF : (gl M 0).length = F at *
 refine Ret.of_cd Tryz.func97 O Tryz.ntmps97 O (post1 O) (Gbo O (Ops.call (flags_c Ab A n c rs M _ w hB O hR (by omega)) O O O ?_))
 rintro _ w ⟨rfl, rfl⟩
 rw [e0]
 refine Ops.mkR F (St.refl w) O O (by omega) ?_
 intro A3 w1 hS1
 have hS1 : St w w1 (mat 32 2 A3 F F (List.replicate F slNil) (List.replicate F [])) := nilRows F hS1
 refine Gdo O (Ops.call (rank_c Ab A n c _ _ (hS1.old hB) O) O O O ?_)
 rintro _ w1 ⟨rfl, rfl⟩
 refine Gdc O ?_
 refine Cd.loop (α := Nat × List SlV) (fun z => [(0, .pointer Ab), (3, .slice A3 F F), (4, .int .i64 (offP M z.1 : Int)), (14, .int .i64 (n : Int)), (15, .int .i64 (z.1 : Int))]) (fun z w' => z.1 ≤ n ∧ z.2.length = F ∧ St w w' (mat 32 2 A3 F F z.2 (fpG M z.1 0) ++ [])) (fun z => n - z.1) (0, List.replicate F slNil) ⟨O, O, O, O, O, trivial⟩ ⟨Nat.zero_le _, by simp, by rw [fpG_zero M 0 O, hF, List.append_nil]; exact hS1⟩ ?_
 clear hS1
 rintro ⟨i, rs3⟩ e w2 ⟨hi, hrl, hS⟩
 dsimp only at hi hrl hS ⊢
 have hoi := hob i hi
 refine Gbc O ?_
 refine Cd.cond_p _ O (fun h3 => ?_) (fun h3 => ?_)
 ·have hin : i < n := by omega
  have ho1 := hob (i + 1) (by omega)
  have hfN := facesN_le M i
  have hos : offP M (i + 1) = offP M i + (facesN M i).toNat := O
  refine Gao O (Ops.call (faces_c Ab A n c rs M i _ (hS.old hB) (hS.oldRows hR) hM hin) O O O ?_)
  rintro _ w3 ⟨A6, rfl, hst⟩
  have hS3 := (hS.call hst).perm (List.perm_append_comm (l₁ := [CkI 2 A6 (gl M 0).length (gl M 0).length (facesL M i)]))
  rw [hF] at hS3 ⊢
  clear hst hS
  refine Gdo O (Ops.len O O (Gdc O ?_))
  refine Cd.loop (α := Nat × List SlV) (fun z => [(0, .pointer Ab), (3, .slice A3 F F), (4, .int .i64 (offP M i : Int)), (7, .int .i64 (facesN M i)), (14, .int .i64 (n : Int)), (15, .int .i64 (i : Int)), (24, .slice A6 F F), (5, .int .i64 (i : Int)), (25, .int .i64 (F : Int)), (26, .int .i64 (z.1 : Int))]) (fun z w' => z.1 ≤ F ∧ z.2.length = F ∧ St w w' (mat 32 2 A3 F F z.2 (fpG M i z.1) ++ [CkI 2 A6 F F (facesL M i)])) (fun z => F - z.1) (0, rs3) ⟨O, O, O, O, O, O, O, O, O, O, trivial⟩ ⟨Nat.zero_le _, hrl, by simpa using hS3⟩ ?_
  clear hS3
  rintro ⟨f, rs4⟩ e w4 ⟨hf, hrl4, hS4⟩
  dsimp only at hf hrl4 hS4 ⊢
  have hgl := fpG_len M i f
  rw [hF] at hgl
  refine Gbc O ?_
  refine Cd.cond_p _ O (fun h4 => ?_) (fun h4 => ?_)
  ·have hfF : f < F := by omega
   have hRM := St.rowsI hS4 hgl
   have hlk : (mat 32 2 A3 F F rs4 (fpG M i f) ++ [CkI 2 A6 F F (facesL M i)])[F + 1]? = some (CkI 2 A6 F F (facesL M i)) := by
    rw [List.getElem?_append_right (by rw [mat_len (by omega)]; omega), mat_len (by omega), hrl4, Nat.sub_self]; rfl
   have hlb : RdI w4 A6 F (facesL M i) := hS4.rdI (F + 1) hlk
   have hin2 := fpE_in hM (i := i) (f := f) (by omega)
   have hfpe : (offP M i : Int) + gi (facesL M i) (f : Int) = fpE M i f := O
   have hrow := hRM.at_ (i := (f : Int)) (by omega) (by omega)
   have hrn : (rg rs4 (f : Int)).n ≤ 5 := by
    have := hrow.1
    rw [← this, fpG_at (by omega), if_neg (by omega)]; simp; omega
   refine Gao O (Ops.idx hlb.2 O O O (by omega) (by omega) (Ops.ld_int hlb O (by omega) O O (Gdo O (Ops.idx hRM.top.2 O O O (by omega) (by omega) (Ops.ld_sl hRM.top O (by omega) O O ?_)))))
   refine Gdo O (Ops.add O O O (by omega) ?_)
   refine Ops.bs1I hS4 O O O ?_
   intro AQ wQ hQ
   have hgQ : (CkI 2 AQ 1 1 [((offP M i : Int) + gi (facesL M i) (f : Int))] :: (mat 32 2 A3 F F rs4 (fpG M i f) ++ [CkI 2 A6 F F (facesL M i)]))[2 + f]? = some (CkI 2 (rg rs4 (f : Int)).a (rg rs4 (f : Int)).n (rg rs4 (f : Int)).c (gl (fpG M i f) (f : Int))) := by
    have h0 := mat_get (t1 := 32) (t2 := 2) (A := A3) (n := F) (c := F) (rs := rs4) (xss := (fpG M i f)) (pre := [CkI 2 AQ 1 1 [((offP M i : Int) + gi (facesL M i) (f : Int))]]) (ks := [CkI 2 A6 F F (facesL M i)]) (i := f) (by omega) (by omega)
    exact h0
   refine Ops.appI (2 + f) hQ hgQ (hQ.rdI 0 O) O O O (by omega) (by omega) O ?_
   intro AZ cZ wZ hZ
   rw [mat_ap ⟨AZ, (rg rs4 (f : Int)).n + 1, cZ⟩ (gl (fpG M i f) (f : Int) ++ [((offP M i : Int) + gi (facesL M i) (f : Int))]) (by omega) (by omega)] at hZ
   have hTZ : RdR wZ A3 F rs4 := hZ.rdR 1 O
   refine Ops.idx hTZ.2 O O O (by omega) (by omega) (Ops.st_sl (te := 32) (n := F) (c := F) (A := A3) (xs := rs4) 1 hZ O O O (by omega) ?_)
   intro wY hY
   have hS5 : St w wY (mat 32 2 A3 F F (rs4.set f ⟨AZ, (rg rs4 (f : Int)).n + 1, cZ⟩) ((fpG M i f).set f (gl (fpG M i f) (f : Int) ++ [((offP M i : Int) + gi (facesL M i) (f : Int))])) ++ [CkI 2 A6 F F (facesL M i)]) := St.tail hY
   clear hY hTZ hZ hgQ hQ
   rw [hfpe, fpG_step (by omega)] at hS5
   refine Gdo O (Ops.add O O O (by omega) (Gdn O (tQ ?_)))
   exact ⟨(f + 1, _), by show F - (f + 1) < F - f; omega, ⟨O, O, O, O, O, O, O, O, O, O, trivial⟩, by show f + 1 ≤ F; omega, by simp [hrl4], hS5⟩
  have hfF : f = F := by omega
  subst hfF
  have hnx := fpG_next M i
  rw [hF] at hnx
  rw [hnx] at hS4
  refine Gax O (thenQ_x (Gfo O (Ops.add O O O (by omega) (Gdo O (Ops.add O O O (by omega) (Gdn O (tQ ?_)))))))
  exact ⟨(i + 1, rs4), by show n - (i + 1) < n - i; omega, ⟨O, O, by show Value.int .i64 ((offP M i : Int) + facesN M i) = .int .i64 ((offP M (i + 1) : Nat) : Int); congr 1; omega, O, O, trivial⟩, by show i + 1 ≤ n; omega, hrl4, hS4.sub (List.Sublist.append_left (List.nil_sublist _) _)⟩
 have hin : i = n := by omega
 subst hin
 have he := fpG_end M
 rw [hl] at he
 rw [he] at hS
 refine Gax O (thenQ_x (Gfr O ?_))
 refine ret1_s O ?_
 exact ⟨A3, rs3, O, hrl, hS⟩
/-
 The walks of comparisons on both sides.
-/
/-! the program's side -/
theorem Equal_c (A : Option Addr) (n c : Nat) (xs : List Int) (A' : Option Addr) (n' c' : Nat) (ys : List Int) (w : World) (hR : RdI w A n xs) (hR' : RdI w A' n' ys) (hn : n ≤ 9223372036854775807) :
  Ret Tryz.prog 99 [.slice A n c, .slice A' n' c'] w (fun v w' => v = .bool (decide (xs = ys)) ∧ St w w' []) := by
 have hl := hR.1
 have hl' := hR'.1
 subst hl
 subst hl'
 refine Ret.of_cd Tryz.func99 O Tryz.ntmps99 O (post1 O) ?_
 refine Gbo O (Ops.len O O (Gdo O (Ops.len O O (Gdc O ?_))))
 refine Cd.cond_p _ O (fun h => ?_) (fun h => ?_)
 ·refine Gar O (ret1_b O ?_)
  exact ⟨by rw [decide_eq_false (fun e : xs = ys => h (by rw [e]))], St.refl _⟩
 refine Gao O (Ops.len O O (Gdc O ?_))
 refine Cd.loop (α := Nat) (fun k => [(0, .slice A xs.length c), (1, .slice A' ys.length c'), (12, .int .i64 (xs.length : Int)), (13, .int .i64 (k : Int))]) (fun k w' => St w w' [] ∧ k ≤ xs.length ∧ xs.take k = ys.take k) (fun k => xs.length - k) 0 ⟨O, O, O, O, trivial⟩ ⟨St.refl w, Nat.zero_le _, O⟩ ?_
 rintro k e w2 ⟨hS2, hk, hI⟩
 have hle : xs.length = ys.length := by omega
 refine Gbc O ?_
 refine Cd.cond_p _ O (fun h1 => ?_) (fun h1 => ?_)
 ·have hA := hS2.oldI hR
  have hB := hS2.oldI hR'
  have h2 : (k : Int) < ys.length := by omega
  have hx := gi_mem (p := xs) (k := k) (by omega)
  have hy := gi_mem (p := ys) (k := k) (by omega)
  refine Gac O ?_
  refine Cd.draw [xS (A) (xs.length) (c), xI ((k : Int)), xP (ptrAt (A) ((k : Int)).toNat), xI (gi (xs) ((k : Int))), xS (A') (ys.length) (c'), xI ((k : Int)), xP (ptrAt (A') ((k : Int)).toNat), xI (gi (ys) ((k : Int))), xB (decide (¬ (gi (xs) ((k : Int))) = (gi (ys) ((k : Int)))))] (by kernel_rfl) (by kernel_rfl) O (exL O) ?_ ?_
  ·exact ⟨Dr O, Dr O, fun _ _ hb _ _ => Ops.idx (hA.later hb).2 O O O (by omega) (by omega) (Az O), fun _ _ hb _ _ => Ops.ld_int (hA.later hb) O (by omega) O O (Az O), Dr O, Dr O, fun _ _ hb _ _ => Ops.idx (hB.later hb).2 O O O (by omega) (by omega) (Az O), fun _ _ hb _ _ => Ops.ld_int (hB.later hb) O (by omega) O O (Az O), Dr O, trivial⟩
  intro u w3 hb3 _
  have hS3 := hS2.later hb3
  refine Gec O ?_
  refine Cd.cond_p _ O (fun h3 => ?_) (fun h3 => ?_)
  ·refine Gar O (thenQ_r (Qk_ret ?_))
   refine ret1_b O ?_
   refine ⟨by rw [decide_eq_false (fun e : xs = ys => h3 (by rw [e]))], hS3⟩
  refine Gao O (Ops.add O O O (by omega) (Gdn O (tQ ?_)))
  refine ⟨k + 1, by omega, ⟨O, O, O, O, trivial⟩, hS3, by omega, ?_⟩
  rw [take_succ_gi (by omega), take_succ_gi (by omega), hI, Classical.not_not.1 h3]
 refine Gax O (thenQ_x (Gfr O ?_))
 refine ret1_b O ?_
 refine ⟨?_, hS2⟩
 rw [List.take_of_length_le (by omega), List.take_of_length_le (by omega)] at hI
 rw [decide_eq_true hI]
/-! the reference's side -/
/-
 The walks of the numbers of faces on both sides.
-/
def cntF (xss : List (List Int)) : List Int := (List.range xss.length).map fun i => facesN xss i
theorem cntF_len (xss : List (List Int)) : (cntF xss).length = xss.length := by simp [cntF]
theorem cntF_take {xss : List (List Int)} {i : Nat} (h : i < xss.length) : (cntF xss).take (i + 1) = (cntF xss).take i ++ [facesN xss i] := by
 rw [List.take_succ_eq_append_getElem (by rw [cntF_len]; exact h)]
 simp [cntF]
theorem faceCounts_c (Ab A : Option Addr) (n c : Nat) (rs : List SlV) (xss : List (List Int)) (w : World) (hB : Rd w Ab 1 (fun _ => .slice A n c)) (hR : RowsI w A n rs xss) (hM : Mani xss) :
  Ret Tryz.prog 124 [.pointer Ab] w (fun v w' => ∃ A' c', v = .slice A' n c' ∧ St w w' [CkI 2 A' n c' (cntF xss)]) := by
 have hl := hR.len
 have h1 := hM.1
 have h2 := hM.2.1
 refine Ret.of_cd Tryz.func124 O Tryz.ntmps124 O (post1 O) (Gbo O (Ops.call (rank_c Ab A n c _ _ hB O) O O O ?_))
 rintro _ w ⟨rfl, rfl⟩
 refine Gdc O ?_
 refine Cd.loop (α := Nat × Option Addr × Nat) (fun s => [(0, .pointer Ab), (3, .slice s.2.1 s.1 s.2.2), (8, .int .i64 (n : Int)), (9, .int .i64 (s.1 : Int))]) (fun s w' => St w w' [CkI 2 s.2.1 s.1 s.2.2 ((cntF xss).take s.1)] ∧ s.1 ≤ n) (fun s => n - s.1) (0, none, 0) ⟨O, O, O, O, trivial⟩ ⟨(St.refl w).nil _, Nat.zero_le _⟩ ?_
 rintro ⟨i, A3, c3⟩ e w1 ⟨hS1, hi⟩
 dsimp only at hS1 hi ⊢
 refine Gbc O ?_
 refine Cd.cond_p _ O (fun h3 => ?_) (fun h3 => ?_)
 ·have hi' : i < n := by omega
  have hfn := facesN_le xss i
  refine Gao O (Ops.call (faces_c Ab A n c rs xss i _ (hB.below hS1.below) (hS1.oldRows hR) hM hi') O O O ?_)
  rintro _ w2 ⟨A5, rfl, hst2⟩
  have hS2 := (hS1.call hst2).tail
  refine Gdo O (Ops.bs1I hS2 O O O ?_)
  intro A6 w3 hS3
  refine Ops.appI 1 hS3 O (hS3.rdI 0 O) O O O (by omega) (by omega) O ?_
  intro A7 c7 w4 hS4
  refine Gdo O (Ops.add O O O (by omega) (Gdn O (tQ ?_)))
  refine ⟨(i + 1, A7, c7), by show n - (i + 1) < n - i; omega, ⟨O, O, O, O, trivial⟩, ?_, hi'⟩
  show St w w4 [CkI _ A7 (i + 1) c7 ((cntF xss).take (i + 1))]
  rw [cntF_take (by omega)]
  exact hS4.tail
 refine Gax O (thenQ_x (Gfr O ?_))
 refine ret1_s O ?_
 have hin : i = n := by omega
 rw [hin, List.take_of_length_le (by rw [cntF_len]; omega)] at hS1
 rw [hin]
 exact ⟨A3, c3, O, hS1⟩
/-
 The walk of the law FnExactIsDesk: it returns true.
-/
theorem St.rowsI1 {w0 w : World} {t1 t2 : TypeId} {A : Option Addr} {n c : Nat} {rs : List SlV} {xss : List (List Int)} (h : St w0 w (mat t1 t2 A n c rs xss)) (hl : xss.length = n) : RowsI w A n rs xss :=
 St.rowsI (ks := []) (by rw [List.append_nil]; exact h) hl
/-
 The program's face poset of a maniplex, walked.
-/
section
variable {P : Program} {N : Nat} {ops : Array Oper} {K : Env → World → Prop} {rest : List Oper} {e : Env} {w0 w w' : World} {ks : List Ck} {d : Nat} {ty : TypeId} {pos : String} {af : Array Edge}
theorem Ops.bldP1 {t : TypeId} {f0 f1 f2 : Field} {z0 z1 z2 y0 y1 y2 : Value} {b b0 b1 b2 : Nat} [Und P t (.struct #[f0, f1, f2])] [Inf P t (.agg #[z0, z1, z2]) 3 b] {x0 : Operand} {v0 : Value} (hI0 : Inf P f0.type y0 1 b0) (hI1 : Inf P f1.type y1 1 b1) (hI2 : Inf P f2.type y2 1 b2) (ho : f0.offset = 0) (ho1 : f1.offset = 1) (ho2 : f2.offset = 2) (h0 : ev e x0 = v0) (c0 : v0.oneCell' = true) (hb : Nat.blt d N = true) (hK : Ops P N ops K rest (upd e d (.agg #[v0, z1, z2])) w) : Ops P N ops K (⟨some d, .build t #[(0, x0)], ty, pos, af, none⟩ :: rest) e w := by
 obtain ⟨inf, hi, hz0, hs, hby⟩ := Inf.get P t
 obtain ⟨inf0, hi0, _, hs0, _⟩ := hI0.get P f0.type
 obtain ⟨inf1, hi1, _, hs1, _⟩ := hI1.get P f1.type
 obtain ⟨inf2, hi2, _, hs2, _⟩ := hI2.get P f2.type
 have e0 : v0.cells = #[v0] := by cases v0 <;> simp [Value.oneCell'] at c0 <;> rfl
 have ez : (Value.agg #[z0, z1, z2]).cells = #[z0, z1, z2] := O
 refine .val (w' := w) ?_ hb hK
 simp [execOp, Instr.build, run_underlying (Und.out (P := P) (t := t)), sizeOf, typeInfo, zeroValue, hi, hz0, hi0, hs0, hi1, hs1, hi2, hs2, ho, h0, e0, ez, Instr.fill]
theorem Ops.bldP0 {t : TypeId} {f0 f1 f2 : Field} {z0 z1 z2 y0 y1 y2 : Value} {b b0 b1 b2 : Nat} [Und P t (.struct #[f0, f1, f2])] [Inf P t (.agg #[z0, z1, z2]) 3 b] (hI0 : Inf P f0.type y0 1 b0) (hI1 : Inf P f1.type y1 1 b1) (hI2 : Inf P f2.type y2 1 b2) (hb : Nat.blt d N = true) (hK : Ops P N ops K rest (upd e d (.agg #[z0, z1, z2])) w) : Ops P N ops K (⟨some d, .build t #[], ty, pos, af, none⟩ :: rest) e w := by
 obtain ⟨inf, hi, hz0, hs, hby⟩ := Inf.get P t
 obtain ⟨inf0, hi0, _, hs0, _⟩ := hI0.get P f0.type
 obtain ⟨inf1, hi1, _, hs1, _⟩ := hI1.get P f1.type
 obtain ⟨inf2, hi2, _, hs2, _⟩ := hI2.get P f2.type
 have ez : (Value.agg #[z0, z1, z2]).cells = #[z0, z1, z2] := O
 refine .val (w' := w) ?_ hb hK
 simp [execOp, Instr.build, run_underlying (Und.out (P := P) (t := t)), sizeOf, typeInfo, zeroValue, hi, hz0, hi0, hs0, hi1, hs1, hi2, hs2, ez, Instr.fill]
theorem Ops.newP {el : TypeId} {v0 v1 v2 : Value} {s b : Nat} [Inf P el (.agg #[v0, v1, v2]) s b] (hS : St w0 w ks) (hb : Nat.blt d N = true) (hK : ∀ A w', St w0 w' (Bx el 3 A [v0, v1, v2] :: ks) → Ops P N ops K rest (upd e d (.pointer A)) w') (hM : isM [v0, v1, v2] = false := by rfl) : Ops P N ops K (⟨some d, .alloc el, ty, pos, af, none⟩ :: rest) e w := .new (el := el) (z := .agg #[v0, v1, v2]) (s := s) (b := b) hS hb rfl hK hM
end
theorem perm_fp {α : Type} (q1 q2 q3 q4 q5 q6 : α) (X Y : List α) : ([q1, q2, q3, q4, q5, q6] ++ Y ++ X).Perm (q4 :: (q2 :: ((q1 :: X) ++ (q3 :: q5 :: q6 :: Y)))) := by
 classical
 refine List.perm_iff_count.2 fun z => ?_
 simp only [List.count_append, List.count_cons, List.cons_append, List.nil_append]
 omega
abbrev poB (A : Option Addr) (n : Int) (AR : Option Addr) (N c : Nat) (AD : Option Addr) (m d : Nat) : Ck := Bx 34 3 A [.int .i64 n, .slice AR N c, .slice AD m d]
theorem cntF_at {M : List (List Int)} {i : Nat} (h : i < M.length) : gi (cntF M) (i : Int) = facesN M i := by
 rw [gi_mem (by rw [cntF_len]; exact h)]
 simp [cntF]
structure RawP (M : List (List Int)) (f i : Nat) (B : List (List Int)) : Prop where
 len : B.length = offP M M.length
 mem : ∀ e : Nat, e < offP M M.length → ∀ x, x ∈ gl B (e : Int) ↔ ∃ f' i', (f' < f ∨ f' = f ∧ i' < i) ∧ f' < (gl M 0).length ∧ i' < M.length ∧ fpE M i' f' = e ∧ ∃ k, k < i' ∧ x = fpE M k f'
 num : ∀ e : Nat, (gl B (e : Int)).length ≤ 25 * f + 5 * i
theorem RawP.zero (M : List (List Int)) : RawP M 0 0 (List.replicate (offP M M.length) []) := by
 have hg : ∀ e : Nat, gl (List.replicate (offP M M.length) ([] : List Int)) (e : Int) = [] := fun e => by
  simp only [gl, Int.toNat_natCast, List.getD_eq_getElem?_getD, List.getElem?_replicate]
  split <;> rfl
 refine ⟨by simp, fun e he x => ?_, fun e => by rw [hg]; exact Nat.zero_le _⟩
 rw [hg]
 constructor
 ·intro h; cases h
 rintro ⟨f', i', h, _⟩; omega
theorem RawP.next {M : List (List Int)} {f i : Nat} {B : List (List Int)} (hM : Mani M) (h : RawP M f i B) (hf : f < (gl M 0).length) (hi : i < M.length) : RawP M f (i + 1) (B.set (fpE M i f).toNat (gl B (fpE M i f) ++ (List.range i).map fun k => fpE M k f)) := by
 have hin := fpE_in hM (i := i) hf
 have hmo := offP_mono M (show i + 1 ≤ M.length by omega)
 have h5 := hM.1
 obtain ⟨q, hq⟩ : ∃ q : Nat, fpE M i f = q := ⟨(fpE M i f).toNat, by omega⟩
 rw [hq, Int.toNat_natCast]
 have hg : ∀ e : Nat, gl (B.set q (gl B (q : Int) ++ (List.range i).map fun k => fpE M k f)) (e : Int) = if q = e then gl B (q : Int) ++ (List.range i).map fun k => fpE M k f else gl B (e : Int) := fun e => gl_set (by rw [h.len]; omega)
 refine ⟨by rw [List.length_set]; exact h.len, fun e he x => ?_, fun e => ?_⟩
 ·rw [hg]
  by_cases e1 : q = e
  ·subst e1
   rw [if_pos rfl, List.mem_append, h.mem q he]
   constructor
   ·rintro (⟨f', i', h1, h2⟩ | h1)
    ·exact ⟨f', i', by omega, h2⟩
    obtain ⟨k, hk, rfl⟩ := List.mem_map.1 h1
    exact ⟨f, i, .inr ⟨O, by omega⟩, hf, hi, hq, k, List.mem_range.1 hk, O⟩
   rintro ⟨f', i', h1, h2, h3, h4, k, hk, rfl⟩
   by_cases e2 : f' = f ∧ i' = i
   ·obtain ⟨rfl, rfl⟩ := e2
    exact .inr (List.mem_map.2 ⟨k, List.mem_range.2 hk, O⟩)
   exact .inl ⟨f', i', by omega, h2, h3, h4, k, hk, O⟩
  rw [if_neg e1, h.mem e he]
  constructor
  ·rintro ⟨f', i', h1, h2⟩
   exact ⟨f', i', by omega, h2⟩
  rintro ⟨f', i', h1, h2, h3, h4, h6⟩
  refine ⟨f', i', ?_, h2, h3, h4, h6⟩
  by_cases e2 : f' = f ∧ i' = i
  ·obtain ⟨rfl, rfl⟩ := e2; omega
  omega
 rw [hg]
 have h1 := h.num q
 have h2 := h.num e
 split
 ·rw [List.length_append, List.length_map, List.length_range]; omega
 omega
theorem RawP.row {M : List (List Int)} {f : Nat} {B : List (List Int)} (hM : Mani M) (h : RawP M f M.length B) : RawP M (f + 1) 0 B := by
 have h5 := hM.1
 refine ⟨h.len, fun e he x => ?_, fun e => by have := h.num e; omega⟩
 rw [h.mem e he]
 constructor
 ·rintro ⟨f', i', h1, h2⟩; exact ⟨f', i', by omega, h2⟩
 rintro ⟨f', i', h1, h2, h3, h4⟩; exact ⟨f', i', by omega, h2, h3, h4⟩
theorem RawP.done {M : List (List Int)} {B : List (List Int)} (hM : Mani M) (h : RawP M (gl M 0).length 0 B) {e : Nat} (he : e < offP M M.length) : cs (gl B (e : Int)) = gl (fpB M) (e : Int) := by
 refine (cs_SA _).eq ?_ fun x => ?_
 ·rw [gl_mem (by rw [fpB_len]; exact he)]
  unfold fpB
  rw [List.getElem_map]
  exact List.Pairwise.filter _ (rngI_SA _)
 rw [cs_mem, h.mem e he, fpB_at (by omega) (by omega)]
 constructor
 ·rintro ⟨f', i', _, h2, h3, h4, k, hk, rfl⟩
  have hI : IncP M (fpE M k f') (e : Int) := ⟨f', h2, i', h3, k, hk, h4.symm, O⟩
  exact ⟨(hI.rng hM).1, hI⟩
 rintro ⟨_, f', h2, i', h3, k, hk, h4, rfl⟩
 exact ⟨f', i', .inl h2, h2, h3, h4.symm, k, hk, O⟩
def AnsFp (M : List (List Int)) (w : World) (v : Value) (w' : World) : Prop := (500 < offP M M.length ∧ v = .tuple #[.agg #[.int .i64 0, .slice none 0 0, .slice none 0 0], .bool false] ∧ St w w' []) ∨ (offP M M.length ≤ 500 ∧ ∃ AR c AD d rs, v = .tuple #[.agg #[.int .i64 (M.length : Int), .slice AR (offP M M.length) c, .slice AD (offP M M.length) d], .bool true] ∧ rs.length = offP M M.length ∧ St w w' (CkI 2 AR (offP M M.length) c (fpR M M.length) :: (mat 32 2 AD (offP M M.length) d rs (fpB M) ++ [])))
set_option maxHeartbeats 2000000 in
theorem facePoset_c (A : Option Addr) (n c : Nat) (rs : List SlV) (M : List (List Int)) (w : World) (hR : RowsI w A n rs M) (hM : Mani M) :
  Ret Tryz.prog 92 [.agg #[.slice A n c]] w (AnsFp M w) := by
 have hl := hR.len
 have h1 := hM.1
 have h2 := hM.2.1
 have hob : ∀ i, i ≤ n → offP M i ≤ 2000 := fun i hi => by
  have h3 := offP_bd (M := M) i
  have h4 : i * (gl M 0).length ≤ 5 * 400 := Nat.mul_le_mul (by omega) (by omega)
  omega
 refine Ret.of_cd Tryz.func92 O Tryz.ntmps92 O (postc2 O O) (Gbo O (Ops.box1 (St.refl w) O O ?_))
 intro A1 w1 hS1
 refine Ops.newP hS1 O ?_
 intro A2 w2 hS2
 refine Gdo O (Ops.call (rank_c A1 A n c _ _ (Rd.one (hS2.rd 1 O)) O) O O O ?_)
 rintro _ w2 ⟨rfl, rfl⟩
 refine Ops.bldP1 (by exact inferInstance) (by exact inferInstance) (by exact inferInstance) O O O O O O (Ops.newP hS2 O ?_)
 intro A4 w3 hS3
 refine Ops.st_agg 3 0 hS3 O O O O O O O ?_
 intro w4 hS4
 have hS4 : St w w4 [poB A4 n none 0 0 none 0 0, poB A2 0 none 0 0 none 0 0, Bx 24 1 A1 [.slice A n c]] := hS4
 clear hS3 hS2 hS1
 refine Gdo O (Ops.call (faceCounts_c A1 A n c rs M _ (Rd.one (hS4.rd 2 O)) (hS4.oldRows hR) hM) O O O ?_)
 rintro _ w5 ⟨A14, c14, rfl, hst⟩
 have hS5 := hS4.call hst
 clear hst hS4
 have hS5 : St w w5 [poB A4 n none 0 0 none 0 0, CkI 2 none 0 0 [], CkI 2 A14 n c14 (cntF M), poB A2 0 none 0 0 none 0 0, Bx 24 1 A1 [.slice A n c]] := (hS5.nil 2).perm (List.perm_middle (l₁ := [_, _]))
 refine Ops.len O O (Gdc O ?_)
 refine Cd.loop (α := Nat × Option Addr × Nat) (fun z => [(1, .pointer A1), (2, .pointer A2), (4, .pointer A4), (14, .slice A14 n c14), (15, .int .i64 (n : Int)), (16, .int .i64 (z.1 : Int))]) (fun z w' => z.1 ≤ n ∧ St w w' [poB A4 n z.2.1 (offP M z.1) z.2.2 none 0 0, CkI 2 z.2.1 (offP M z.1) z.2.2 (fpR M z.1), CkI 2 A14 n c14 (cntF M), poB A2 0 none 0 0 none 0 0, Bx 24 1 A1 [.slice A n c]]) (fun z => n - z.1) (0, none, 0) ⟨O, O, O, O, O, O, trivial⟩ ⟨Nat.zero_le _, hS5⟩ ?_
 clear hS5
 rintro ⟨i, AR, cR⟩ e w6 ⟨hi, hS⟩
 dsimp only at hi hS ⊢
 have hoi := hob i hi
 have hRl := fpR_len M i
 refine Gbc O ?_
 refine Cd.cond_p _ O (fun h3 => ?_) (fun h3 => ?_)
 ·have hin : i < n := by omega
  have hcn := cntF_at (M := M) (i := i) (by omega)
  have hfN := facesN_le M i
  have ho1 := hob (i + 1) (by omega)
  have hos : offP M (i + 1) = offP M i + (facesN M i).toNat := O
  have hfr : fpR M (i + 1) = fpR M i ++ List.replicate (facesN M i).toNat (i : Int) := O
  have hC := hS.rdI 2 O
  refine Gao O (Ops.idx hC.2 O O O (by omega) (by omega) (Ops.ld_int hC O (by omega) O O (Gdc O ?_)))
  rw [hcn]
  obtain ⟨N, hN⟩ : ∃ N : Nat, facesN M i = N := ⟨(facesN M i).toNat, by omega⟩
  rw [hN, Int.toNat_natCast] at hos hfr
  rw [hN] at hfN ⊢
  refine Cd.drawP [6, 8] [yP (ptrAt (A4) 1), yS (AR) (offP M i) (cR), yI ((i : Int)), .pr (fun v w' => ∃ A9, v = .slice A9 1 1 ∧ St w w' (CkI 2 A9 1 1 [(i : Int)] :: [poB A4 n AR (offP M i) cR none 0 0, CkI 2 AR (offP M i) cR (fpR M i), CkI 2 A14 n c14 (cntF M), poB A2 0 none 0 0 none 0 0, Bx 24 1 A1 [.slice A n c]])), yI ((N : Int)), .pr (fun v w' => ∃ A9, v = .slice A9 N N ∧ St w w' (CkI 2 A9 N N (List.replicate N (i : Int)) :: [poB A4 n AR (offP M i) cR none 0 0, CkI 2 AR (offP M i) cR (fpR M i), CkI 2 A14 n c14 (cntF M), poB A2 0 none 0 0 none 0 0, Bx 24 1 A1 [.slice A n c]])), .pr (fun v w' => ∃ A10 c10, v = .slice A10 (offP M i + N) c10 ∧ St w w' [poB A4 n AR (offP M i) cR none 0 0, CkI 2 A10 (offP M i + N) c10 (fpR M i ++ List.replicate N (i : Int)), CkI 2 A14 n c14 (cntF M), poB A2 0 none 0 0 none 0 0, Bx 24 1 A1 [.slice A n c]]), yP (ptrAt (A4) 1), .pr (fun _ w' => ∃ A10 c10, St w w' [poB A4 n A10 (offP M i + N) c10 none 0 0, CkI 2 A10 (offP M i + N) c10 (fpR M i ++ List.replicate N (i : Int)), CkI 2 A14 n c14 (cntF M), poB A2 0 none 0 0 none 0 0, Bx 24 1 A1 [.slice A n c]])] (by kernel_rfl) (by kernel_rfl) (ly (ly (ly (List.forall_mem_cons.2 ⟨Ye.lasts_pr (fun v w w' h hb => by obtain ⟨A9, hv, hT⟩ := h; exact ⟨A9, hv, hT.later hb⟩), (ly (List.forall_mem_cons.2 ⟨Ye.lasts_pr (fun v w w' h hb => by obtain ⟨A9, hv, hT⟩ := h; exact ⟨A9, hv, hT.later hb⟩), (List.forall_mem_cons.2 ⟨Ye.lasts_pr (fun v w w' h hb => by obtain ⟨A10, c10, hv, hT⟩ := h; exact ⟨A10, c10, hv, hT.later hb⟩), (ly (List.forall_mem_cons.2 ⟨Ye.lasts_pr (fun v w w' h hb => by obtain ⟨A10, c10, hT⟩ := h; exact ⟨A10, c10, hT.later hb⟩), (fun _ h => by cases h)⟩))⟩)⟩))⟩)))) ?_ ?_
  ·refine ⟨cP fun _ _ hb _ _ _ => Ops.fld ((hS.rd 0 O).below hb) O O O O inferInstance (AzP O O), cP fun _ _ hb _ _ _ => Ops.ldf_s ((hS.rd 0 O).below hb) O O O O O (AzP O O), DrP O, ?_, DrP O, ?_, ?_, ?_, ?_, trivial⟩
   ·refine cP fun e1 w1 hb hp hun hq => ?_
    refine Ops.bs1I (St.refl _) O O O ?_
    intro A9 w9 hst
    refine Ops.n ?_
    exact AfterP.dn O hst.below ⟨A9, O, (hS.later hb).call hst⟩
   ·refine cP fun e1 w1 hb hp hun hq => ?_
    obtain ⟨A9, h24, hT⟩ := (hp 3 _ _ (by kernel_rfl) rfl rfl (by kernel_rfl))
    refine Ops.call (Repeat_c A9 1 (i : Int) N _ (hT.rdI 0 O) (by omega)) O (by exact congrArg (fun v => [v, Value.int .i64 (N : Int)]) h24) O ?_
    rintro _ w2 ⟨A5, rfl, hst⟩
    refine Ops.n ?_
    exact AfterP.dn O hst.below ⟨A5, O, hT.tail.call hst⟩
   ·refine cPT fun e1 w1 hb hp hun hq => ?_
    obtain ⟨A9, h26, hT⟩ := (hp 5 _ _ (by kernel_rfl) rfl rfl (by kernel_rfl))
    refine Ops.appI 2 hT O (hT.rdI 0 O) O (by exact h26) O (by omega) (by omega) O ?_
    intro A10 c10 w10 hT10
    refine Ops.n ?_
    exact AfterU.dn O ⟨A10, c10, O, hT10.tail⟩
   ·refine dP 1 fun e1 w1 hp hun hq => ?_
    have hph := hp 6 _ _ (by kernel_rfl) O O (by kernel_rfl)
    obtain ⟨A10, c10, h27, hT⟩ := hph
    refine Ops.fld ((hT.rd 0 O)) O O O O inferInstance (Ops.n (p0_ O (by exact O)))
   refine dPT 1 fun e1 w1 hp hun hq => ?_
   have hph := hp 6 _ _ (by kernel_rfl) O O (by kernel_rfl)
   obtain ⟨A10, c10, h27, hT⟩ := hph
   refine Ops.stf 0 hT O O (by exact h27) O O ?_
   intro w11 hT11
   refine Ops.n ?_
   exact AfterU.st O ⟨A10, c10, hT11⟩
  intro u w7 _ hu _ _
  obtain ⟨A10, c10, hT⟩ := hu 8 _ rfl (by kernel_rfl)
  rw [← hos, ← hfr] at hT
  refine Geo O (Ops.add O O O (by omega) (Gdn O (tQ ?_)))
  exact ⟨(i + 1, A10, c10), by show n - (i + 1) < n - i; omega, ⟨O, O, O, O, O, O, trivial⟩, by show i + 1 ≤ n; omega, hT⟩
 obtain rfl : i = n := by omega
 have hnl : M.length = i := hl
 generalize hK : offP M i = N at *
 have hB4 := hS.rd 0 O
 refine Gax O (thenQ_x (Gfo O ?_))
 refine Ops.fld hB4 O O O O inferInstance (Ops.ldf_s hB4 O O O O O ?_)
 refine Ops.len O O (Gdc O ?_)
 refine Cd.cond_p _ O (fun h4 => ?_) (fun h4 => ?_)
 ·refine Gao O (Ops.bldP0 (by exact inferInstance) (by exact inferInstance) (by exact inferInstance) O (Ops.st_agg 3 3 hS O O O O O O O ?_))
  intro w9 hS9
  refine Gdr O (retc2_r O (hS9.rd 3 O) O ?_)
  exact .inl ⟨by rw [hnl, hK]; omega, O, hS9.none⟩
 refine Gao O (Ops.fld hB4 O O O O inferInstance (Ops.ldf_s hB4 O O O O O (Ops.len O O (Ops.mkR N hS O O (by omega) ?_))))
 intro A38 w7 hS7
 have hS7 : St w w7 (CkR 32 A38 N N (List.replicate N slNil) :: [poB A4 i AR N cR none 0 0, CkI 2 AR N cR (fpR M i), CkI 2 A14 i c14 (cntF M), poB A2 0 none 0 0 none 0 0, Bx 24 1 A1 [.slice A i c]]) := hS7
 refine Ops.fld (hS7.rd 1 O) O O O O inferInstance (Ops.stf 1 hS7 O O O O O ?_)
 intro w8 hS8
 have hS8 : St w w8 (CkR 32 A38 N N (List.replicate N slNil) :: [poB A4 i AR N cR A38 N N, CkI 2 AR N cR (fpR M i), CkI 2 A14 i c14 (cntF M), poB A2 0 none 0 0 none 0 0, Bx 24 1 A1 [.slice A i c]]) := hS8
 clear hS7 hS
 refine Gdo O (Ops.call (allFaces_c A1 A i c rs M _ (Rd.one (hS8.rd 5 O)) (hS8.oldRows hR) hM) O O O ?_)
 rintro _ w9 ⟨A40, rs40, rfl, hrl40, hst⟩
 obtain ⟨F, hF⟩ : ∃ F, (gl M 0).length = F := ⟨_, rfl⟩
 rw [hF] at h2 hrl40 hst ⊢
 have hFl : (fpF M).length = F := by simp [fpF, hF]
 have hS9 := hS8.call hst
 clear hst hS8
 obtain ⟨KK, hKK⟩ : ∃ KK : List Ck, KK = CkI 2 AR N cR (fpR M i) :: poB A2 0 none 0 0 none 0 0 :: Bx 24 1 A1 [.slice A i c] :: (mat 32 2 A40 F F rs40 (fpF M) ++ []) := ⟨_, rfl⟩
 have hS9 : St w w9 (poB A4 i AR N cR A38 N N :: (mat 32 2 A38 N N (List.replicate N slNil) (List.replicate N []) ++ KK)) := by
  rw [hKK]
  have h9 := (hS9.perm List.perm_append_comm)
  have h9 := nilRows (t := 2) N h9
  have hp : ([CkR 32 A38 N N (List.replicate N slNil), poB A4 i AR N cR A38 N N, CkI 2 AR N cR (fpR M i), CkI 2 A14 i c14 (cntF M), poB A2 0 none 0 0 none 0 0, Bx 24 1 A1 [.slice A i c]] ++ (mat 32 2 A40 F F rs40 (fpF M) ++ []) ++ rowsCk 2 (List.replicate N slNil) (List.replicate N [])).Perm (CkI 2 A14 i c14 (cntF M) :: (poB A4 i AR N cR A38 N N :: (mat 32 2 A38 N N (List.replicate N slNil) (List.replicate N []) ++ (CkI 2 AR N cR (fpR M i) :: poB A2 0 none 0 0 none 0 0 :: Bx 24 1 A1 [.slice A i c] :: (mat 32 2 A40 F F rs40 (fpF M) ++ []))))) := by
   unfold mat
   generalize rowsCk 2 (List.replicate N slNil) (List.replicate N []) = X
   generalize CkR 32 A40 F F rs40 :: rowsCk 2 rs40 (fpF M) ++ [] = Y
   generalize CkR 32 A38 N N (List.replicate N slNil) = q1
   generalize poB A4 i AR N cR A38 N N = q2
   generalize CkI 2 AR N cR (fpR M i) = q3
   generalize CkI 2 A14 i c14 (cntF M) = q4
   generalize poB A2 0 none 0 0 none 0 0 = q5
   generalize Bx 24 1 A1 [.slice A i c] = q6
   exact perm_fp q1 q2 q3 q4 q5 q6 X Y
  exact (h9.perm hp).tail
 have hlk : ∀ (rs' : List SlV) (B : List (List Int)), (mat 32 2 A40 F F rs40 (fpF M)).Sublist (poB A4 i AR N cR A38 N N :: (mat 32 2 A38 N N rs' B ++ KK)) := fun rs' B => by
  rw [hKK]
  refine List.Sublist.cons _ (List.Sublist.trans ?_ (List.sublist_append_right _ _))
  refine List.Sublist.cons _ (List.Sublist.cons _ (List.Sublist.cons _ ?_))
  rw [List.append_nil]
  exact List.Sublist.refl _
 have hNM : offP M M.length = N := by rw [hnl, hK]
 refine Ops.len O O (Gdc O ?_)
 refine Cd.loop (α := Nat × List SlV × List (List Int)) (fun z => [(1, .pointer A1), (2, .pointer A2), (4, .pointer A4), (40, .slice A40 F F), (41, .int .i64 (F : Int)), (42, .int .i64 (z.1 : Int))]) (fun z w' => z.1 ≤ F ∧ z.2.1.length = N ∧ RawP M z.1 0 z.2.2 ∧ St w w' (poB A4 i AR N cR A38 N N :: (mat 32 2 A38 N N z.2.1 z.2.2 ++ KK))) (fun z => F - z.1) (0, List.replicate N slNil, List.replicate N []) ⟨O, O, O, O, O, O, trivial⟩ ⟨Nat.zero_le _, by simp, by have := RawP.zero M; rwa [hNM] at this, hS9⟩ ?_
 clear hS9
 rintro ⟨f, rs3, B⟩ e w10 ⟨hf, hrl3, hB, hS⟩
 dsimp only at hf hrl3 hB hS ⊢
 refine Gbc O ?_
 refine Cd.cond_p _ O (fun h5 => ?_) (fun h5 => ?_)
 ·have hfF : f < F := by omega
  have hFR := (hS.sub (hlk rs3 B)).rowsI1 hFl
  have hrow := hFR.at_ (i := (f : Int)) (by omega) (by omega)
  have hrl := hrow.1
  have hgf : gl (fpF M) (f : Int) = (List.range M.length).map fun k => fpE M k f := by rw [gl_mem (by omega)]; simp [fpF]
  have hrn : (rg rs40 (f : Int)).n = i := by rw [← hrl, hgf]; simp [hnl]
  refine Gao O (Ops.idx hFR.top.2 O O O (by omega) (by omega) (Ops.ld_sl hFR.top O (by omega) O O ?_))
  refine Gdo O (Ops.len O O (Gdc O ?_))
  refine Cd.loop (α := Nat × List SlV × List (List Int)) (fun z => [(1, .pointer A1), (2, .pointer A2), (4, .pointer A4), (40, .slice A40 F F), (41, .int .i64 (F : Int)), (42, .int .i64 (f : Int)), (8, .slice (rg rs40 (f : Int)).a (rg rs40 (f : Int)).n (rg rs40 (f : Int)).c), (46, .slice (rg rs40 (f : Int)).a (rg rs40 (f : Int)).n (rg rs40 (f : Int)).c), (47, .int .i64 ((rg rs40 (f : Int)).n : Int)), (48, .int .i64 (z.1 : Int))]) (fun z w' => z.1 ≤ i ∧ z.2.1.length = N ∧ RawP M f z.1 z.2.2 ∧ St w w' (poB A4 i AR N cR A38 N N :: (mat 32 2 A38 N N z.2.1 z.2.2 ++ KK))) (fun z => i - z.1) (0, rs3, B) ⟨O, O, O, O, O, O, O, O, O, O, trivial⟩ ⟨Nat.zero_le _, hrl3, hB, hS⟩ ?_
  clear hS hB hFR hrow hrl hrl3
  rintro ⟨j, rs4, B4⟩ e w11 ⟨hj, hrl4, hB4, hS4⟩
  dsimp only at hj hrl4 hB4 hS4 ⊢
  have hBl : B4.length = N := by rw [hB4.len, hNM]
  refine Gbc O ?_
  refine Cd.cond_p _ O (fun h6 => ?_) (fun h6 => ?_)
  ·have hji : j < i := by omega
   have hFR := (hS4.sub (hlk rs4 B4)).rowsI1 hFl
   have hrow := hFR.at_ (i := (f : Int)) (by omega) (by omega)
   have hrl := hrow.1
   have hgj : gi (gl (fpF M) (f : Int)) (j : Int) = fpE M j f := by rw [gi_mem (by omega)]; simp [hgf]
   have hin := fpE_in hM (i := j) (f := f) (by omega)
   have hmo := offP_mono M (show j + 1 ≤ M.length by omega)
   rw [hNM] at hmo
   obtain ⟨E, hE⟩ : ∃ E : Nat, fpE M j f = E := ⟨(fpE M j f).toNat, by omega⟩
   rw [hE] at hgj hin
   have hnx := hB4.next hM (by omega) (show j < M.length by omega)
   rw [hE, Int.toNat_natCast] at hnx
   have hEN : E < N := by omega
   have htk : (gl (fpF M) (f : Int)).take j = (List.range j).map fun k => fpE M k f := by
    rw [hgf, ← List.map_take, List.take_range, Nat.min_eq_left (by omega)]
   have hRM : RowsI w11 A38 N rs4 B4 := (hS4.perm (List.perm_middle (l₁ := mat 32 2 A38 N N rs4 B4)).symm).rowsI hBl
   have hrE := (hRM.at_ (i := (E : Int)) (by omega) (by omega)).1
   have hnum := hB4.num E
   refine Gao O (Ops.idx hrow.2 O O O (by omega) (by omega) (Ops.ld_int hrow O (by omega) O O (Gdc O ?_)))
   rw [hgj]
   have hgQ : (poB A4 i AR N cR A38 N N :: (mat 32 2 A38 N N rs4 B4 ++ KK))[2 + E]? = some (CkI 2 (rg rs4 (E : Int)).a (rg rs4 (E : Int)).n (rg rs4 (E : Int)).c (gl B4 (E : Int))) := mat_get (t1 := 32) (t2 := 2) (A := A38) (n := N) (c := N) (rs := rs4) (xss := B4) (pre := [poB A4 i AR N cR A38 N N]) (ks := KK) (i := E) (by omega) (by omega)
   have hap := fun (s : SlV) (xs : List Int) => mat_ap (t1 := 32) (t2 := 2) (A := A38) (n := N) (c := N) (rs := rs4) (xss := B4) (ks := KK) (q := poB A4 i AR N cR A38 N N) (i := E) s xs (by omega) (by omega)
   refine Cd.drawP [11, 13] [yP (ptrAt A4 2), yS (A38) (N) (N), yI ((E : Int)), yP (ptrAt (A4) 2), yS (A38) (N) (N), yI ((E : Int)), yP (ptrAt (A38) ((E : Int)).toNat), yS ((rg (rs4) ((E : Int))).a) ((rg (rs4) ((E : Int))).n) ((rg (rs4) ((E : Int))).c), yS ((rg rs40 (f : Int)).a) ((rg rs40 (f : Int)).n) ((rg rs40 (f : Int)).c), yI ((j : Int)), yS ((rg rs40 (f : Int)).a) (j) ((rg rs40 (f : Int)).c), .pr (fun v w' => ∃ AZ cZ, v = .slice AZ ((rg rs4 (E : Int)).n + j) cZ ∧ St w w' (poB A4 i AR N cR A38 N N :: (CkR 32 A38 N N rs4 :: (rowsCk 2 (rs4.set E ⟨AZ, (rg rs4 (E : Int)).n + j, cZ⟩) (B4.set E (gl B4 (E : Int) ++ (gl (fpF M) (f : Int)).take j)) ++ KK)))), yP (ptrAt A38 ((E : Int)).toNat), .pr (fun _ w' => ∃ AZ cZ, St w w' (poB A4 i AR N cR A38 N N :: (mat 32 2 A38 N N (rs4.set E ⟨AZ, (rg rs4 (E : Int)).n + j, cZ⟩) (B4.set E (gl B4 (E : Int) ++ (gl (fpF M) (f : Int)).take j)) ++ KK)))] (by kernel_rfl) (by kernel_rfl) (ly (ly (ly (ly (ly (ly (ly (ly (ly (ly (ly (List.forall_mem_cons.2 ⟨Ye.lasts_pr (fun v w w' h hb => by obtain ⟨AZ, cZ, hv, hT⟩ := h; exact ⟨AZ, cZ, hv, hT.later hb⟩), (ly (List.forall_mem_cons.2 ⟨Ye.lasts_pr (fun v w w' h hb => by obtain ⟨AZ, cZ, hT⟩ := h; exact ⟨AZ, cZ, hT.later hb⟩), (fun _ h => by cases h)⟩))⟩)))))))))))) ?_ ?_
   ·refine ⟨?_, ?_, DrP O, cP fun _ _ hb _ _ _ => Ops.fld ((hS4.rd 0 O).below hb) O O O O inferInstance (AzP O O), cP fun _ _ hb _ _ _ => Ops.ldf_s ((hS4.rd 0 O).below hb) O O O O O (AzP O O), DrP O, cP fun _ _ hb _ _ _ => Ops.idx (hRM.top.later hb).2 O O O (by omega) (by omega) (AzP O O), cP fun _ _ hb _ _ _ => Ops.ld_sl (hRM.top.later hb) O (by omega) O O (AzP O O), DrP O, DrP O, aP fun _ _ => Ops.cut_h O O O (by have := hFR.cap_ (i := (f : Int)) (by omega) (by omega); omega) (AzP O O), ?_, ?_, ?_, trivial⟩
    ·intro e1 w1 cc hlo hhi hb0 hp hun hq; show Ops _ _ _ _ _ _ _
     have hX : Rd w1 A4 3 (fun q => [Value.int .i64 (i : Int), .slice AR N cR, .slice A38 N N].getD q undef) := by { have hhi := le_of_hi hhi (b := 1) (by kernel_rfl); rcases (show cc = 0 ∨ cc = 1 by omega) with h | h; { exact (hS4.later (hb0 h)).rd 0 rfl }; { subst h; obtain ⟨AZ, cZ, _, hT⟩ := hq 11 _ _ (by kernel_rfl) (by kernel_rfl) (by kernel_rfl) rfl rfl (by kernel_rfl); exact hT.rd 0 rfl } }
     refine Ops.fld hX O O O O inferInstance (Ops.n (p0_ O (by exact O)))
    ·intro e1 w1 cc hlo hhi hb0 hp hun hq; show Ops _ _ _ _ _ _ _
     have hX : Rd w1 A4 3 (fun q => [Value.int .i64 (i : Int), .slice AR N cR, .slice A38 N N].getD q undef) := by { have hhi := le_of_hi hhi (b := 1) (by kernel_rfl); rcases (show cc = 0 ∨ cc = 1 by omega) with h | h; { exact (hS4.later (hb0 h)).rd 0 rfl }; { subst h; obtain ⟨AZ, cZ, _, hT⟩ := hq 11 _ _ (by kernel_rfl) (by kernel_rfl) (by kernel_rfl) rfl rfl (by kernel_rfl); exact hT.rd 0 rfl } }
     refine Ops.ldf_s hX O O O O O (Ops.n (p0_ O (by exact O)))
    ·refine cPT fun e1 w1 hb hp hun hq => ?_
     have hFR9 := hFR.later hb
     refine Ops.appI (2 + E) (hS4.later hb) hgQ ((hFR9.at_ (i := (f : Int)) (by omega) (by omega)).take (l := j) (by omega)) O O O (by omega) (by omega) O ?_
     intro AZ cZ wZ hZ
     rw [hap ⟨AZ, (rg rs4 (E : Int)).n + j, cZ⟩ (gl B4 (E : Int) ++ (gl (fpF M) (f : Int)).take j)] at hZ
     refine Ops.n ?_
     exact AfterU.dn O ⟨AZ, cZ, O, hZ⟩
    ·intro e1 w1 cc hlo hhi hb0 hp hun hq; show Ops _ _ _ _ _ _ _
     have hX : RdR w1 A38 N rs4 := by { have hhi := le_of_hi hhi (b := 1) (by kernel_rfl); rcases (show cc = 0 ∨ cc = 1 by omega) with h | h; { exact (hS4.later (hb0 h)).rdR 1 rfl }; { subst h; obtain ⟨AZ, cZ, _, hT⟩ := hq 11 _ _ (by kernel_rfl) (by kernel_rfl) (by kernel_rfl) rfl rfl (by kernel_rfl); exact hT.rdR 1 rfl } }
     refine Ops.idx hX.2 O O O (by omega) (by omega) (Ops.n (p0_ O (by exact O)))
    refine dPT 1 fun e1 w1 hp hun hq => ?_
    have hph := hp 11 _ _ (by kernel_rfl) O O (by kernel_rfl)
    obtain ⟨AZ, cZ, h64, hT⟩ := hph
    refine Ops.st_sl (te := 32) (n := N) (c := N) (A := A38) (xs := rs4) 1 hT O O (by exact h64) (by omega) ?_
    intro wY hY
    refine Ops.n ?_
    exact AfterU.st O ⟨AZ, cZ, hY⟩
   intro u w12 _ hu _ _
   obtain ⟨AZ, cZ, hT⟩ := hu 13 _ rfl (by kernel_rfl)
   rw [htk] at hT
   refine Geo O (Ops.add O O O (by omega) (Gdn O (tQ ?_)))
   exact ⟨(j + 1, _, _), by show i - (j + 1) < i - j; omega, ⟨O, O, O, O, O, O, O, O, O, O, trivial⟩, by show j + 1 ≤ i; omega, by simp [hrl4], hnx, hT⟩
  have hji : j = M.length := by omega
  subst hji
  refine Gax O (thenQ_x (Gfo O (Ops.add O O O (by omega) (Gdn O (tQ ?_)))))
  exact ⟨(f + 1, rs4, B4), by show F - (f + 1) < F - f; omega, ⟨O, O, O, O, O, O, trivial⟩, by show f + 1 ≤ F; omega, hrl4, hB4.row hM, hS4⟩
 have hfF : f = F := by omega
 subst hfF
 have hBl : B.length = N := by rw [hB.len, hNM]
 have hdone : ∀ e' : Nat, e' < N → cs (gl B (e' : Int)) = gl (fpB M) (e' : Int) := fun e' he' => RawP.done hM (by rw [hF]; exact hB) (by omega)
 have hnum : ∀ e' : Nat, (gl B (e' : Int)).length ≤ 25 * f := fun e' => by have := hB.num e'; omega
 have hB4 := hS.rd 0 O
 refine Gax O (thenQ_x (Gfo O ?_))
 refine Ops.fld hB4 O O O O inferInstance (Ops.ldf_s hB4 O O O O O ?_)
 refine Ops.len O O (Gdc O ?_)
 refine Cd.loop (α := Nat × List SlV) (fun z => [(2, .pointer A2), (4, .pointer A4), (70, .int .i64 (N : Int)), (71, .int .i64 (z.1 : Int))]) (fun z w' => z.1 ≤ N ∧ z.2.length = N ∧ St w w' (poB A4 i AR N cR A38 N N :: (mat 32 2 A38 N N z.2 (mixL B z.1) ++ KK))) (fun z => N - z.1) (0, rs3) ⟨O, O, O, O, trivial⟩ ⟨Nat.zero_le _, hrl3, by rw [mixL_zero]; exact hS⟩ ?_
 clear hS hB4
 rintro ⟨E, rs4⟩ e w11 ⟨hE, hrl4, hS⟩
 dsimp only at hE hrl4 hS ⊢
 have hml := mixL_len B E
 refine Gbc O ?_
 refine Cd.cond_p _ O (fun h6 => ?_) (fun h6 => ?_)
 ·have hEN : E < N := by omega
  have hmg := mixL_get (B := B) (e := E) (by omega)
  have hstep := mixL_step (B := B) (e := E) (by omega)
  have hB4 := hS.rd 0 O
  have hRM : RowsI w11 A38 N rs4 (mixL B E) := (hS.perm (List.perm_middle (l₁ := mat 32 2 A38 N N rs4 (mixL B E))).symm).rowsI (by omega)
  have hrE := (hRM.at_ (i := (E : Int)) (by omega) (by omega)).1
  rw [hmg] at hrE
  have hq := hnum E
  have hgQ : (poB A4 i AR N cR A38 N N :: (mat 32 2 A38 N N rs4 (mixL B E) ++ KK))[2 + E]? = some (CkI 2 (rg rs4 (E : Int)).a (rg rs4 (E : Int)).n (rg rs4 (E : Int)).c (gl B (E : Int))) := by
   have h0 := mat_get (t1 := 32) (t2 := 2) (A := A38) (n := N) (c := N) (rs := rs4) (xss := mixL B E) (pre := [poB A4 i AR N cR A38 N N]) (ks := KK) (i := E) (by omega) (by omega)
   rw [← hmg]; exact h0
  have hlt1 := (List.getElem?_eq_some_iff.1 hgQ).1
  have hap := fun (s : SlV) (xs : List Int) => mat_ap (t1 := 32) (t2 := 2) (A := A38) (n := N) (c := N) (rs := rs4) (xss := mixL B E) (ks := KK) (q := poB A4 i AR N cR A38 N N) (i := E) s xs (by omega) (by omega)
  refine Gao O (Ops.fld hB4 O O O O inferInstance (Ops.ldf_s hB4 O O O O O (Gdo O (Ops.idx hRM.top.2 O O O (by omega) (by omega) (Ops.ld_sl hRM.top O (by omega) O O (Ops.call (sort0_c (2 + E) hS hgQ (by omega)) O O O ?_))))))
  rintro _ w12 ⟨rfl, hS7⟩
  have hg7 : ((poB A4 i AR N cR A38 N N :: (mat 32 2 A38 N N rs4 (mixL B E) ++ KK)).set (2 + E) (CkI 2 (rg rs4 (E : Int)).a (rg rs4 (E : Int)).n (rg rs4 (E : Int)).c (srt (gl B (E : Int)))))[2 + E]? = some (CkI 2 (rg rs4 (E : Int)).a (rg rs4 (E : Int)).n (rg rs4 (E : Int)).c (srt (gl B (E : Int)))) := by
   rw [List.getElem?_set, if_pos rfl, if_pos hlt1]
  have e7 := hap ⟨(rg rs4 (E : Int)).a, (rg rs4 (E : Int)).n, (rg rs4 (E : Int)).c⟩ (srt (gl B (E : Int)))
  have hT7 : RdR w12 A38 N rs4 := by
   have h8 := hS7
   rw [e7] at h8
   exact h8.rdR 1 O
  have hB7 : Rd w12 A4 3 (fun q => [Value.int .i64 (i : Int), .slice AR N cR, .slice A38 N N].getD q undef) := by
   have h8 := hS7
   rw [e7] at h8
   exact h8.rd 0 O
  refine Gdc O ?_
  refine Cd.drawP [8, 10] [yP (ptrAt A4 2), yS (A38) (N) (N), yI ((E : Int)), yP (ptrAt (A4) 2), yS (A38) (N) (N), yI ((E : Int)), yP (ptrAt (A38) ((E : Int)).toNat), yS ((rg (rs4) ((E : Int))).a) ((rg (rs4) ((E : Int))).n) ((rg (rs4) ((E : Int))).c), .pr (fun v w' => v = .slice (rg rs4 (E : Int)).a (cmpL (srt (gl B (E : Int)))).length (rg rs4 (E : Int)).c ∧ St w w' (poB A4 i AR N cR A38 N N :: (CkR 32 A38 N N rs4 :: (rowsCk 2 (rs4.set E ⟨(rg rs4 (E : Int)).a, (cmpL (srt (gl B (E : Int)))).length, (rg rs4 (E : Int)).c⟩) ((mixL B E).set E (cmpL (srt (gl B (E : Int))))) ++ KK)))), yP (ptrAt A38 ((E : Int)).toNat), .pr (fun _ w' => St w w' (poB A4 i AR N cR A38 N N :: (mat 32 2 A38 N N (rs4.set E ⟨(rg rs4 (E : Int)).a, (cmpL (srt (gl B (E : Int)))).length, (rg rs4 (E : Int)).c⟩) ((mixL B E).set E (cmpL (srt (gl B (E : Int))))) ++ KK)))] (by kernel_rfl) (by kernel_rfl) (ly (ly (ly (ly (ly (ly (ly (ly (List.forall_mem_cons.2 ⟨Ye.lasts_pr (fun v w w' h hb => ⟨h.1, h.2.later hb⟩), (ly (List.forall_mem_cons.2 ⟨Ye.lasts_pr (fun v w w' h hb => h.later hb), (fun _ h => by cases h)⟩))⟩))))))))) ?_ ?_
  ·refine ⟨?_, ?_, DrP O, cP fun _ _ hb _ _ _ => Ops.fld (hB7.below hb) O O O O inferInstance (AzP O O), cP fun _ _ hb _ _ _ => Ops.ldf_s (hB7.below hb) O O O O O (AzP O O), DrP O, cP fun _ _ hb _ _ _ => Ops.idx (hT7.later hb).2 O O O (by omega) (by omega) (AzP O O), cP fun _ _ hb _ _ _ => Ops.ld_sl (hT7.later hb) O (by omega) O O (AzP O O), ?_, ?_, ?_, trivial⟩
   ·intro e1 w1 cc hlo hhi hb0 hp hun hq; show Ops _ _ _ _ _ _ _
    have hX : Rd w1 A4 3 (fun q => [Value.int .i64 (i : Int), .slice AR N cR, .slice A38 N N].getD q undef) := by { have hhi := le_of_hi hhi (b := 1) (by kernel_rfl); rcases (show cc = 0 ∨ cc = 1 by omega) with h | h; { exact Rd.below hB7 (hb0 h) }; { subst h; obtain ⟨_, hT⟩ := hq 8 _ _ (by kernel_rfl) (by kernel_rfl) (by kernel_rfl) rfl rfl (by kernel_rfl); exact hT.rd 0 rfl } }
    refine Ops.fld hX O O O O inferInstance (Ops.n (p0_ O (by exact O)))
   ·intro e1 w1 cc hlo hhi hb0 hp hun hq; show Ops _ _ _ _ _ _ _
    have hX : Rd w1 A4 3 (fun q => [Value.int .i64 (i : Int), .slice AR N cR, .slice A38 N N].getD q undef) := by { have hhi := le_of_hi hhi (b := 1) (by kernel_rfl); rcases (show cc = 0 ∨ cc = 1 by omega) with h | h; { exact Rd.below hB7 (hb0 h) }; { subst h; obtain ⟨_, hT⟩ := hq 8 _ _ (by kernel_rfl) (by kernel_rfl) (by kernel_rfl) rfl rfl (by kernel_rfl); exact hT.rd 0 rfl } }
    refine Ops.ldf_s hX O O O O O (Ops.n (p0_ O (by exact O)))
   ·refine cPT fun e1 w1 hb hp hun hq => ?_
    refine Ops.call (compact0_c (2 + E) (hS7.later hb) hg7 (by omega)) O O O ?_
    rintro _ w9 ⟨rfl, hS8⟩
    rw [List.set_set, hap ⟨(rg rs4 (E : Int)).a, (cmpL (srt (gl B (E : Int)))).length, (rg rs4 (E : Int)).c⟩ (cmpL (srt (gl B (E : Int))))] at hS8
    refine Ops.n ?_
    exact AfterU.dn O ⟨O, hS8⟩
   ·intro e1 w1 cc hlo hhi hb0 hp hun hq; show Ops _ _ _ _ _ _ _
    have hX : RdR w1 A38 N rs4 := by { have hhi := le_of_hi hhi (b := 1) (by kernel_rfl); rcases (show cc = 0 ∨ cc = 1 by omega) with h | h; { exact hT7.later (hb0 h) }; { subst h; obtain ⟨_, hT⟩ := hq 8 _ _ (by kernel_rfl) (by kernel_rfl) (by kernel_rfl) rfl rfl (by kernel_rfl); exact hT.rdR 1 rfl } }
    refine Ops.idx hX.2 O O O (by omega) (by omega) (Ops.n (p0_ O (by exact O)))
   refine dPT 1 fun e1 w1 hp hun hq => ?_
   have hph := hp 8 _ _ (by kernel_rfl) O O (by kernel_rfl)
   obtain ⟨h88, hT⟩ := hph
   refine Ops.st_sl (te := 32) (n := N) (c := N) (A := A38) (xs := rs4) 1 hT O O (by exact h88) (by omega) ?_
   intro wY hY
   refine Ops.n ?_
   exact AfterU.st O hY
  intro u w13 _ hu _ _
  have hT := hu 10 _ O (by kernel_rfl)
  have hT : St w w13 (poB A4 i AR N cR A38 N N :: (mat 32 2 A38 N N (rs4.set E ⟨(rg rs4 (E : Int)).a, (cmpL (srt (gl B (E : Int)))).length, (rg rs4 (E : Int)).c⟩) ((mixL B E).set E (cs (gl B (E : Int)))) ++ KK)) := hT
  rw [hstep] at hT
  refine Geo O (Ops.add O O O (by omega) (Gdn O (tQ ?_)))
  exact ⟨(E + 1, _), by show N - (E + 1) < N - E; omega, ⟨O, O, O, O, trivial⟩, by show E + 1 ≤ N; omega, by simp [hrl4], hT⟩
 have hEN : E = N := by omega
 have hall : mixL B E = fpB M := by
  rw [hEN, ← hBl, mixL_all]
  apply List.ext_getElem
  ·rw [List.length_map, fpB_len, hBl, hNM]
  intro k h1 h2
  rw [List.length_map] at h1
  have e1 := hdone k (by omega)
  rw [gl_mem h1, gl_mem h2] at e1
  rw [List.getElem_map]; exact e1
 rw [hall] at hS
 refine Gax O (thenQ_x (Gfo O ?_))
 refine Ops.ld_agg 2 (hS.rd 0 O) O O O ?_
 have hS2 : St w w11 (poB A2 0 none 0 0 none 0 0 :: (CkI 2 AR N cR (fpR M i) :: (mat 32 2 A38 N N rs4 (fpB M) ++ []))) := by
  have hs : (mat 32 2 A38 N N rs4 (fpB M) ++ [CkI 2 AR N cR (fpR M i), poB A2 0 none 0 0 none 0 0]).Sublist (poB A4 i AR N cR A38 N N :: (mat 32 2 A38 N N rs4 (fpB M) ++ KK)) := by
   rw [hKK]
   exact List.Sublist.cons _ (List.Sublist.append_left (List.Sublist.cons_cons _ (List.Sublist.cons_cons _ (List.nil_sublist _))) _)
  refine (hS.sub hs).perm ?_
  rw [List.append_nil]
  exact (List.perm_append_comm).trans (List.Perm.swap _ _ _)
 refine Ops.st_agg 3 0 hS2 O O O O O O O ?_
 intro w12 hS12
 refine Gdr O (retc2_r O (hS12.rd 0 O) O ?_)
 refine .inr ⟨by omega, AR, cR, A38, N, rs4, ?_, by rw [hNM]; exact hrl4, ?_⟩
 ·rw [hNM, hnl]; rfl
 rw [hNM, hnl]; exact hS12.tail
/-
 The program's test of posets, walked where it holds.
-/
theorem IsSorted_c (A : Option Addr) (n c : Nat) (xs : List Int) (w : World) (hR : RdI w A n xs) (hn : n ≤ 1000000000) :
  Ret Tryz.prog 147 [.slice A n c] w (fun v w' => ∃ b : Bool, v = .bool b ∧ (b = true ↔ Asc xs) ∧ St w w' []) := by
 have hxl := hR.1
 refine Ret.of_cd Tryz.func147 O Tryz.ntmps147 O (post1 O) ?_
 refine Gbo O (Ops.len O O (Ops.sub O O O (by omega) (Gdc O ?_)))
 refine Cd.loop (α := Nat) (fun k => [(0, .slice A n c), (3, .int .i64 ((n : Int) - 1 - (k : Int)))]) (fun k w' => St w w' [] ∧ (k ≤ n - 1) ∧ ∀ j : Nat, n - k ≤ j → j < n → gi xs ((j : Int) - 1) ≤ gi xs (j : Int)) (fun k => n - k) 0 ⟨O, congrArg (Value.int .i64) (by show (n : Int) - 1 = (n : Int) - 1 - ((0 : Nat) : Int); omega), trivial⟩ ⟨St.refl w, Nat.zero_le _, fun j h1 h2 => by omega⟩ ?_
 rintro k e w1 ⟨hS, hk, hK⟩
 have hR1 := hS.oldI hR
 refine Gbc O ?_
 refine Cd.cond_p _ O (fun h1 => ?_) (fun h1 => ?_)
 ·have e1 : ((n : Int) - 1 - (k : Int)) = ((n - 1 - k : Nat) : Int) := by omega
  have e2 : ((n : Int) - 1 - (k : Int) - 1) = ((n - 1 - k : Nat) : Int) - 1 := by omega
  refine Gac O ?_
  refine Cd.draw [xS (A) (n) (c), xI (((n : Int) - 1 - (k : Int))), xP (ptrAt (A) (((n : Int) - 1 - (k : Int))).toNat), xI (gi (xs) (((n : Int) - 1 - (k : Int)))), xS (A) (n) (c), xI (((n : Int) - 1 - (k : Int))), xI ((((n : Int) - 1 - (k : Int))) - ((1 : Int))), xP (ptrAt (A) ((((n : Int) - 1 - (k : Int))) - ((1 : Int))).toNat), xI (gi (xs) ((((n : Int) - 1 - (k : Int))) - ((1 : Int)))), xB (decide (gi xs ((n : Int) - 1 - (k : Int)) < gi xs ((n : Int) - 1 - (k : Int) - 1)))] (by kernel_rfl) (by kernel_rfl) O (exL O) ?_ ?_
  ·refine ⟨Dr O, Dr O, fun _ _ hb _ _ => Ops.idx (hR1.later hb).2 O O O (by omega) (by omega) (Az O), fun _ _ hb _ _ => Ops.ld_int (hR1.later hb) O (by omega) O O (Az O), Dr O, Dr O, fun _ _ _ _ _ => Ops.sub O O O (by omega) (Az O), fun _ _ hb _ _ => Ops.idx (hR1.later hb).2 O O O (by omega) (by omega) (Az O), fun _ _ hb _ _ => Ops.ld_int (hR1.later hb) O (by omega) O O (Az O), ?_, trivial⟩
   ·intro e1 w1 hb hp hun; refine Ops.call (cmpLess'_c _ _ _) O O O ?_
    rintro _ w2 ⟨rfl, hst⟩
    subst hst
    refine Ops.n (d0 (by exact O))
  intro u w2 hb _
  have hS2 := hS.later hb
  refine Gec O ?_
  refine Cd.cond_p _ O (fun h2 => ?_) (fun h2 => ?_)
  ·refine Gar O (thenQ_r (Qk_ret ?_))
   refine ret1_b O ?_
   refine ⟨false, rfl, ⟨fun h => (by cases h), fun h => ?_⟩, hS2⟩
   rw [e1] at h2
   have h3 := List.pairwise_iff_getElem.1 h (n - 1 - k - 1) (n - 1 - k) (by omega) (by omega) (by omega)
   rw [← gi_mem (by omega), ← gi_mem (by omega), show ((n - 1 - k - 1 : Nat) : Int) = ((n - 1 - k : Nat) : Int) - 1 by omega] at h3
   omega
  ·refine Gao O (Ops.sub O O O (by omega) (Gdn O (tQ ?_)))
   refine ⟨k + 1, by show n - (k + 1) < n - k; omega, ⟨O, congrArg (Value.int .i64) (by show (n : Int) - 1 - (k : Int) - 1 = (n : Int) - 1 - ((k + 1 : Nat) : Int); omega), trivial⟩, hS2, by omega, fun j hj1 hj2 => ?_⟩
   by_cases ej : n - k ≤ j
   ·exact hK j ej hj2
   ·have : (j : Int) = (n : Int) - 1 - (k : Int) := by omega
    rw [this]
    omega
 ·refine Gax O (thenQ_x (Gfr O ?_))
  refine ret1_b O ?_
  refine ⟨true, O, ⟨fun _ => ?_, fun _ => O⟩, hS⟩
  have key : ∀ j i : Nat, i ≤ j → j < n → gi xs (i : Int) ≤ gi xs (j : Int) := by
   intro j
   induction j with
   | zero =>
    intro i hi _
    have : i = 0 := by omega
    rw [this]; exact Int.le_refl _
   | succ j ih =>
    intro i hi hj
    by_cases e : i = j + 1
    ·subst e; exact Int.le_refl _
    ·have h3 := ih i (by omega) (by omega)
     have h4 := hK (j + 1) (by omega) hj
     rw [show ((j + 1 : Nat) : Int) - 1 = (j : Int) by omega] at h4
     omega
  refine List.pairwise_iff_getElem.2 fun i j hi hj hij => ?_
  have := key j i (by omega) (by omega)
  rwa [gi_mem hi, gi_mem hj] at this
theorem allIn_of {n : Int} {R : List Int} (h : ∀ x ∈ R, 0 ≤ x ∧ x ≤ n - 1) : allIn 0 (n - 1) R := h
set_option maxHeartbeats 2000000 in
theorem isPosetT_c (n : Int) (A D : Option Addr) (cA cD : Nat) (R : List Int) (rs : List SlV) (B : List (List Int)) (w : World) (hR : RdI w A R.length R) (hB : RowsI w D B.length rs B) (hP : PosP n R B) :
  Ret Tryz.prog 85 [.agg #[.int .i64 n, .slice A R.length cA, .slice D B.length cD]] w (fun v w' => v = .bool true ∧ St w w' []) := by
 have hn := hP.n1
 have hbg := hP.big
 have hle := hP.len
 have hrow := fun e (h : e < R.length) => hP.row e h
 have hrl : ∀ e : Nat, e < R.length → (gl B (e : Int)).length ≤ 500 := fun e h => by
  have := nodup_le_int (N := R.length) (hrow e h).1.nodup fun x hx => ((hrow e h).2 x hx).1
  omega
 obtain ⟨N, hN⟩ : ∃ N, R.length = N := ⟨_, rfl⟩
 rw [hN] at hR hbg hle hrow hrl ⊢
 rw [hle] at hB ⊢
 refine Ret.of_cd Tryz.func85 O Tryz.ntmps85 O (post1 O) (Gbo O (Ops.box3T (St.refl w) O O ?_))
 intro A1 w1 hS1
 have hb1 := hS1.below
 have h1 : Rd w1 A1 3 (fun j => [Value.int .i64 n, .slice A N cA, .slice D N cD].getD j undef) := hS1.rd 0 O
 have hR := hR.later hb1; have hB := hB.later hb1
 have hS1 := hS1.none
 refine Gdo O (Ops.fld h1 O O O O inferInstance (Ops.ldf_s h1 O O O O O (Ops.call (sizeI_c _ _ _ _) O O O ?_)))
 rintro _ w1 ⟨rfl, rfl⟩
 refine Gdo O (Ops.fld h1 O O O O inferInstance (Ops.ldf_i (j := 0) h1 (by exact congrArg Value.pointer O) O O O O (Ops.call (within_c _ _ _ _) O O O ?_)))
 rintro _ w1 ⟨rfl, rfl⟩
 first | refine Ops.not_p rfl rfl ?_ | refine Ops.not rfl rfl ?_
 refine Gdo O ?_
 refine Ops.split_p 23 O (fun h => absurd (by omega) h) (fun _ => ?_)
 refine Ops.g O O O (Gdo O (Ops.g O O O (Gdo O ?_)))
 refine Ops.split_p 27 O (fun h => by omega) (fun _ => ?_)
 refine Ops.g O O O (Ops.fld h1 O O O O inferInstance (Ops.g O O O (Ops.ldf_s h1 O O O O O ?_)))
 refine Ops.g O O O (Ops.len O O (Ops.g O O O ?_))
 refine Ops.fld h1 O O O O inferInstance (Ops.g O O O (Ops.ldf_s h1 O O O O O ?_))
 refine Ops.g O O O (Ops.len O O (Ops.g O O O (Gdo O ?_)))
 refine Ops.split_p 36 O (fun h => absurd O h) (fun _ => ?_)
 refine Ops.g O O O (Ops.fld h1 O O O O inferInstance (Ops.g O O O (Ops.ldf_s h1 O O O O O (Ops.g O O O (Ops.fld h1 O O O O inferInstance (Ops.g O O O (Ops.ldf_i (j := 0) h1 (by exact congrArg Value.pointer O) O O O O ?_)))))))
 refine Ops.g O O O (Ops.sub O O O (by omega) (Ops.g O O O ?_))
 refine Ops.call (areWithin_c A N cA R 0 (n - 1) _ hR (by omega)) O O O ?_
 rintro _ w2 ⟨rfl, hst⟩
 have hb := hst.below
 have h1 := Rd.below h1 hb; have hR := hR.later hb; have hB := hB.later hb; have hS1 := hS1.later hb
 clear hst hb
 refine Ops.g O O O ?_
 first | refine Ops.not_p rfl rfl ?_ | refine Ops.not rfl rfl ?_
 refine Gdo O ?_
 refine Ops.split_p 45 O (fun h => absurd (allIn_of hP.rng) h) (fun _ => ?_)
 refine Ops.g O O O (Ops.fld h1 O O O O inferInstance (Ops.g O O O (Ops.ldf_s h1 O O O O O (Ops.g O O O (Ops.call (IsSorted_c A N cA R _ hR (by omega)) O O O ?_)))))
 rintro _ w3 ⟨b, rfl, hbS, hst⟩
 obtain rfl := hbS.2 hP.asc
 have hb := hst.below
 have h1 := Rd.below h1 hb; have hR := hR.later hb; have hB := hB.later hb; have hS1 := hS1.later hb
 clear hst hb
 refine Ops.g O O O ?_
 first | refine Ops.not_p rfl rfl ?_ | refine Ops.not rfl rfl ?_
 refine Gdc O (Cd.cond_f O (Gao O (Ops.fld h1 O O O O inferInstance (Ops.ldf_s h1 O O O O O ?_))))
 refine Ops.len O O (Gdc O ?_)
 refine Cd.loop (α := Nat) (fun k => [(1, .pointer A1), (3, .int .i64 (N : Int)), (52, .slice D N cD), (53, .int .i64 (N : Int)), (54, .int .i64 (k : Int))]) (fun k w' => k ≤ N ∧ St w3 w' []) (fun k => N - k) 0 ⟨O, O, O, O, O, trivial⟩ ⟨Nat.zero_le _, St.refl _⟩ ?_
 rintro k e w4 ⟨hk, hst⟩
 have hb := hst.below
 have h1 := Rd.below h1 hb; have hR := hR.later hb; have hB := hB.later hb; have hS1 := hS1.later hb
 clear hb
 refine Gbc O ?_
 refine Cd.cond_p _ O (fun h3 => ?_) (fun h3 => ?_)
 ·have hkN : k < N := by omega
  have hro := hB.at_ (i := (k : Int)) (by omega) (by omega)
  have hrn := hro.1
  have hr5 := hrl k hkN
  have hrk := hrow k hkN
  refine Gao O (Ops.idx hB.top.2 O O O (by omega) (by omega) (Ops.ld_sl hB.top O (by omega) O O ?_))
  refine Gdo O (Ops.len O O (Gdc O ?_))
  refine Cd.loop (α := Nat) (fun q => [(1, .pointer A1), (3, .int .i64 (N : Int)), (52, .slice D N cD), (53, .int .i64 (N : Int)), (54, .int .i64 (k : Int)), (4, .int .i64 (k : Int)), (5, .slice (rg rs (k : Int)).a (rg rs (k : Int)).n (rg rs (k : Int)).c), (59, .slice (rg rs (k : Int)).a (rg rs (k : Int)).n (rg rs (k : Int)).c), (60, .int .i64 ((rg rs (k : Int)).n : Int)), (61, .int .i64 (q : Int))]) (fun q w' => q ≤ (rg rs (k : Int)).n ∧ St w4 w' []) (fun q => (rg rs (k : Int)).n - q) 0 ⟨O, O, O, O, O, O, O, O, O, O, trivial⟩ ⟨Nat.zero_le _, St.refl _⟩ ?_
  rintro q e w5 ⟨hq, hst2⟩
  have hb := hst2.below
  have h1 := Rd.below h1 hb; have hR := hR.later hb; have hB := hB.later hb; have hro := hro.later hb
  clear hb
  refine Gbc O ?_
  refine Cd.cond_p _ O (fun h4 => ?_) (fun h4 => ?_)
  ·have hqn : q < (gl B (k : Int)).length := by omega
   have hd := hrk.2 (gi (gl B (k : Int)) (q : Int)) (gi_in hqn)
   refine Gao O (Ops.idx hro.2 O O O (by omega) (by omega) (Ops.ld_int hro O (by omega) O O (Gdc O ?_)))
   generalize hdd : gi (gl B (k : Int)) (q : Int) = d at *
   by_cases hq0 : 0 < q
   ·
    have hsa := hrk.1.lt' (show q - 1 < q by omega) hqn
    rw [hdd, show ((q - 1 : Nat) : Int) = (q : Int) - 1 by omega] at hsa
    refine Cd.draw [xI (d), xI ((N : Int)), xI (((N : Int)) - ((1 : Int))), xB (decide (0 ≤ d ∧ d ≤ (N : Int) - 1)), xB (false), xB (false), xP (ptrAt (A1) 1), xS (A) (N) (cA), xI (d), xP (ptrAt (A) (d).toNat), xI (gi (R) (d)), xP (ptrAt (A1) 1), xS (A) (N) (cA), xI ((k : Int)), xP (ptrAt (A) ((k : Int)).toNat), xI (gi (R) ((k : Int))), xB (false), xB (false), xB (false), xI ((q : Int)), xB (true), xB (true), xS ((rg rs (k : Int)).a) ((rg rs (k : Int)).n) ((rg rs (k : Int)).c), xI ((q : Int)), xI (((q : Int)) - ((1 : Int))), xP (ptrAt ((rg rs (k : Int)).a) (((q : Int)) - ((1 : Int))).toNat), xI (gi (gl B (k : Int)) (((q : Int)) - ((1 : Int)))), xI (d), xB (false), xB (false), xB (false)] (by kernel_rfl) (by kernel_rfl) O (exL O) ?_ ?_
    ·refine ⟨Dr O, Dr O, fun _ _ _ _ _ => Ops.sub O O O (by omega) (Az O), ?_, fun _ _ _ _ _ => Ops.not_p O O (Az (by exact congrArg Value.bool (decide_eq_false (fun h => h (by omega))))), Dr O, fun _ _ hb _ _ => Ops.g O O O (Ops.fld (h1.below hb) O O O O inferInstance (Az O)), fun _ _ hb _ _ => Ops.g O O O (Ops.ldf_s (h1.below hb) O O O O O (Az O)), Dr O, fun _ _ hb _ _ => Ops.g O O O (Ops.idx (hR.later hb).2 O O O (by omega) (by omega) (Az O)), fun _ _ hb _ _ => Ops.g O O O (Ops.ld_int (hR.later hb) O (by omega) O O (Az O)), fun _ _ hb _ _ => Ops.g O O O (Ops.fld (h1.below hb) O O O O inferInstance (Az O)), fun _ _ hb _ _ => Ops.g O O O (Ops.ldf_s (h1.below hb) O O O O O (Az O)), Dr O, fun _ _ hb _ _ => Ops.g O O O (Ops.idx (hR.later hb).2 O O O (by omega) (by omega) (Az O)), fun _ _ hb _ _ => Ops.g O O O (Ops.ld_int (hR.later hb) O (by omega) O O (Az O)), fun _ _ _ _ _ => Dk O (by exact congrArg Value.bool (decide_eq_false (by omega))), Dr O, Dr O, Dr O, fun _ _ _ _ _ => Dk O (by exact congrArg Value.bool (decide_eq_true (by omega))), Dr O, Dr O, Dr O, fun _ _ _ _ _ => Ops.g O O O (Ops.sub O O O (by omega) (Az O)), fun _ _ hb _ _ => Ops.g O O O (Ops.idx (hro.later hb).2 O O O (by omega) (by omega) (Az O)), fun _ _ hb _ _ => Ops.g O O O (Ops.ld_int (hro.later hb) O (by omega) O O (Az O)), Dr O, fun _ _ _ _ _ => Dk O (by exact congrArg Value.bool (decide_eq_false (by omega))), Dr O, Dr O, trivial⟩
     intro e1 w1 hb hp hun
     refine Ops.call (within_c _ _ _ _) O O O ?_
     rintro _ w2 ⟨rfl, hst⟩
     subst hst
     refine Ops.n (d0 (by exact O))
    intro u w6 hb _
    refine Gec O (Cd.cond_f O ?_)
    refine Gao O (Ops.add O O O (by omega) (Gdn O (tQ ?_)))
    exact ⟨q + 1, by show (rg rs (k : Int)).n - (q + 1) < (rg rs (k : Int)).n - q; omega, ⟨O, O, O, O, O, O, O, O, O, O, trivial⟩, by omega, hst2.later hb⟩
   refine Cd.draw [xI (d), xI ((N : Int)), xI (((N : Int)) - ((1 : Int))), xB (decide (0 ≤ d ∧ d ≤ (N : Int) - 1)), xB (false), xB (false), xP (ptrAt (A1) 1), xS (A) (N) (cA), xI (d), xP (ptrAt (A) (d).toNat), xI (gi (R) (d)), xP (ptrAt (A1) 1), xS (A) (N) (cA), xI ((k : Int)), xP (ptrAt (A) ((k : Int)).toNat), xI (gi (R) ((k : Int))), xB (false), xB (false), xB (false), xI ((q : Int)), xB (false), xB (false), xU, xU, xU, xU, xU, xU, xU, xB (false), xB (false)] (by kernel_rfl) (by kernel_rfl) O (exL O) ?_ ?_
   ·refine ⟨Dr O, Dr O, fun _ _ _ _ _ => Ops.sub O O O (by omega) (Az O), ?_, fun _ _ _ _ _ => Ops.not_p O O (Az (by exact congrArg Value.bool (decide_eq_false (fun h => h (by omega))))), Dr O, fun _ _ hb _ _ => Ops.g O O O (Ops.fld (h1.below hb) O O O O inferInstance (Az O)), fun _ _ hb _ _ => Ops.g O O O (Ops.ldf_s (h1.below hb) O O O O O (Az O)), Dr O, fun _ _ hb _ _ => Ops.g O O O (Ops.idx (hR.later hb).2 O O O (by omega) (by omega) (Az O)), fun _ _ hb _ _ => Ops.g O O O (Ops.ld_int (hR.later hb) O (by omega) O O (Az O)), fun _ _ hb _ _ => Ops.g O O O (Ops.fld (h1.below hb) O O O O inferInstance (Az O)), fun _ _ hb _ _ => Ops.g O O O (Ops.ldf_s (h1.below hb) O O O O O (Az O)), Dr O, fun _ _ hb _ _ => Ops.g O O O (Ops.idx (hR.later hb).2 O O O (by omega) (by omega) (Az O)), fun _ _ hb _ _ => Ops.g O O O (Ops.ld_int (hR.later hb) O (by omega) O O (Az O)), fun _ _ _ _ _ => Dk O (by exact congrArg Value.bool (decide_eq_false (by omega))), Dr O, Dr O, Dr O, fun _ _ _ _ _ => Dk O (by exact congrArg Value.bool (decide_eq_false (by omega))), Dr O, Dr O, Dr O, Dr O, Dr O, Dr O, Dr O, Dr O, Dr O, Dr O, trivial⟩
    intro e1 w1 hb hp hun
    refine Ops.call (within_c _ _ _ _) O O O ?_
    rintro _ w2 ⟨rfl, hst⟩
    subst hst
    refine Ops.n (d0 (by exact O))
   intro u w6 hb _
   refine Gec O (Cd.cond_f O ?_)
   refine Gao O (Ops.add O O O (by omega) (Gdn O (tQ ?_)))
   exact ⟨q + 1, by show (rg rs (k : Int)).n - (q + 1) < (rg rs (k : Int)).n - q; omega, ⟨O, O, O, O, O, O, O, O, O, O, trivial⟩, by omega, hst2.later hb⟩
  refine Gax O (thenQ_x (Gfo O (Ops.add O O O (by omega) (Gdn O (tQ ?_)))))
  exact ⟨k + 1, by show N - (k + 1) < N - k; omega, ⟨O, O, O, O, O, trivial⟩, by omega, hst.later hst2.below⟩
 clear hst h3
 refine Gax O (thenQ_x (Gfo O ?_))
 refine Ops.fld h1 O O O O inferInstance (Ops.ldf_s h1 O O O O O ?_)
 refine Ops.len O O (Gdc O ?_)
 refine Cd.loop (α := Nat) (fun k => [(1, .pointer A1), (100, .slice D N cD), (101, .int .i64 (N : Int)), (102, .int .i64 (k : Int))]) (fun k w' => k ≤ N ∧ St w4 w' []) (fun k => N - k) 0 ⟨O, O, O, O, trivial⟩ ⟨Nat.zero_le _, St.refl _⟩ ?_
 rintro k e w5 ⟨hk, hst⟩
 have hb := hst.below
 have h1 := Rd.below h1 hb; have hB := hB.later hb; have hS1 := hS1.later hb
 clear hb
 refine Gbc O ?_
 refine Cd.cond_p _ O (fun h3 => ?_) (fun h3 => ?_)
 ·have hkN : k < N := by omega
  have hro := hB.at_ (i := (k : Int)) (by omega) (by omega)
  have hrn := hro.1
  have hr5 := hrl k hkN
  have hrk := hrow k hkN
  refine Gao O (Ops.idx hB.top.2 O O O (by omega) (by omega) (Ops.ld_sl hB.top O (by omega) O O ?_))
  refine Gdo O (Ops.len O O (Gdc O ?_))
  refine Cd.loop (α := Nat) (fun q => [(1, .pointer A1), (100, .slice D N cD), (101, .int .i64 (N : Int)), (102, .int .i64 (k : Int)), (9, .slice (rg rs (k : Int)).a (rg rs (k : Int)).n (rg rs (k : Int)).c), (106, .slice (rg rs (k : Int)).a (rg rs (k : Int)).n (rg rs (k : Int)).c), (107, .int .i64 ((rg rs (k : Int)).n : Int)), (108, .int .i64 (q : Int))]) (fun q w' => q ≤ (rg rs (k : Int)).n ∧ w' = w5) (fun q => (rg rs (k : Int)).n - q) 0 ⟨O, O, O, O, O, O, O, O, trivial⟩ ⟨Nat.zero_le _, O⟩ ?_
  rintro q e w6 ⟨hq, rfl⟩
  refine Gbc O ?_
  refine Cd.cond_p _ O (fun h4 => ?_) (fun h4 => ?_)
  ·have hqn : q < (gl B (k : Int)).length := by omega
   have hdm := gi_in hqn
   have hd := hrk.2 (gi (gl B (k : Int)) (q : Int)) hdm
   refine Gao O (Ops.idx hro.2 O O O (by omega) (by omega) (Ops.ld_int hro O (by omega) O O (Gdo O (Ops.fld h1 O O O O inferInstance (Ops.ldf_s h1 O O O O O (Gdo O ?_))))))
   generalize hdd : gi (gl B (k : Int)) (q : Int) = d at *
   have hrd := hB.at_ (i := d) (by omega) (by omega)
   have hrdn := hrd.1
   have hr6 : (gl B d).length ≤ 500 := by
    have := hrl d.toNat (by omega)
    rwa [Int.toNat_of_nonneg hd.1.1] at this
   refine Ops.idx hB.top.2 O O O (by omega) (by omega) (Ops.ld_sl hB.top O (by omega) O O ?_)
   refine Ops.len O O (Gdc O ?_)
   refine Cd.loop (α := Nat) (fun t => [(1, .pointer A1), (100, .slice D N cD), (101, .int .i64 (N : Int)), (102, .int .i64 (k : Int)), (9, .slice (rg rs (k : Int)).a (rg rs (k : Int)).n (rg rs (k : Int)).c), (106, .slice (rg rs (k : Int)).a (rg rs (k : Int)).n (rg rs (k : Int)).c), (107, .int .i64 ((rg rs (k : Int)).n : Int)), (108, .int .i64 (q : Int)), (116, .slice (rg rs d).a (rg rs d).n (rg rs d).c), (117, .int .i64 ((rg rs d).n : Int)), (118, .int .i64 (t : Int))]) (fun t w' => t ≤ (rg rs d).n ∧ w' = w6) (fun t => (rg rs d).n - t) 0 ⟨O, O, O, O, O, O, O, O, O, O, O, trivial⟩ ⟨Nat.zero_le _, O⟩ ?_
   rintro t e w7 ⟨ht, rfl⟩
   refine Gbc O ?_
   refine Cd.cond_p _ O (fun h5 => ?_) (fun h5 => ?_)
   ·have htn : t < (gl B d).length := by omega
    have hcm := gi_in htn
    have htr := hP.tr k (by omega) d hdm _ hcm
    refine Gao O (Ops.idx hrd.2 O O O (by omega) (by omega) (Ops.ld_int hrd O (by omega) O O (Gdo O (Ops.call (binD_c _ _ _ (gl B (k : Int)) _ _ hro hrk.1 (by omega)) O O O ?_))))
    rintro _ _ ⟨⟨p, rfl⟩, rfl⟩
    refine Gdo O ?_
    first | refine Ops.not_p rfl rfl ?_ | refine Ops.not rfl rfl ?_
    refine Gdc O ?_
    refine Cd.cond_pf O (fun h => h htr) ?_
    refine Gao O (Ops.add O O O (by omega) (Gdn O (tQ ?_)))
    exact ⟨t + 1, by show (rg rs d).n - (t + 1) < (rg rs d).n - t; omega, ⟨O, O, O, O, O, O, O, O, O, O, O, trivial⟩, by omega, O⟩
   refine Gax O (thenQ_x (Gfo O (Ops.add O O O (by omega) (Gdn O (tQ ?_)))))
   exact ⟨q + 1, by show (rg rs (k : Int)).n - (q + 1) < (rg rs (k : Int)).n - q; omega, ⟨O, O, O, O, O, O, O, O, trivial⟩, by omega, O⟩
  refine Gax O (thenQ_x (Gfo O (Ops.add O O O (by omega) (Gdn O (tQ ?_)))))
  exact ⟨k + 1, by show N - (k + 1) < N - k; omega, ⟨O, O, O, O, trivial⟩, by omega, hst⟩
 refine Gax O (thenQ_x (Gfr O ?_))
 refine ret1_b O ?_
 exact ⟨O, hS1⟩
/-
 The reference's face poset of a maniplex, walked.
-/
theorem perm_a {α : Type} (x a b c d e f g : α) (X Y : List α) : (x :: a :: b :: c :: d :: e :: f :: g :: (X ++ Y)).Perm (a :: b :: c :: d :: e :: f :: g :: ((X ++ [x]) ++ Y)) := by
 classical
 refine List.perm_iff_count.2 fun z => ?_
 simp only [List.count_append, List.count_cons, List.count_nil]
 omega
theorem perm_b {α : Type} (x a b c d e f g : α) (X Y : List α) : (x :: a :: b :: c :: d :: e :: f :: g :: (X ++ Y)).Perm (a :: b :: c :: d :: e :: f :: g :: (X ++ (Y ++ [x]))) := by
 classical
 refine List.perm_iff_count.2 fun z => ?_
 simp only [List.count_append, List.count_cons, List.count_nil]
 omega
theorem perm_c {α : Type} (a b c d e f g : α) (X Y : List α) : (a :: b :: c :: d :: e :: f :: g :: (X ++ Y)).Perm (a :: ((f :: X) ++ (b :: c :: d :: e :: ((g :: Y) ++ [])))) := by
 classical
 refine List.perm_iff_count.2 fun z => ?_
 simp only [List.count_append, List.count_cons, List.count_nil]
 omega
def offL (M : List (List Int)) (i : Nat) : List Int := (List.range i).map fun k => (offP M k : Int)
def labL (M : List (List Int)) (i : Nat) : List (List Int) := (List.range i).map (facesL M)
theorem offL_succ (M : List (List Int)) (i : Nat) : offL M (i + 1) = offL M i ++ [(offP M i : Int)] := by simp [offL, List.range_succ]
theorem labL_succ (M : List (List Int)) (i : Nat) : labL M (i + 1) = labL M i ++ [facesL M i] := by simp [labL, List.range_succ]
theorem offL_at {M : List (List Int)} {i k : Nat} (h : k < i) : gi (offL M i) (k : Int) = (offP M k : Int) := by
 rw [gi_mem (by simp [offL]; exact h)]
 simp [offL]
theorem labL_at {M : List (List Int)} {i k : Nat} (h : k < i) : gl (labL M i) (k : Int) = facesL M k := by
 rw [gl_mem (by simp [labL]; exact h)]
 simp [labL]
theorem labL_len (M : List (List Int)) (i : Nat) : (labL M i).length = i := by simp [labL]
def FndP (M : List (List Int)) (i f k : Nat) (G : List Bool) : Prop := G.length = offP M M.length * offP M M.length ∧ ∀ e d : Nat, e < offP M M.length → d < offP M M.length → (gb G ((e * offP M M.length + d : Nat) : Int) = true ↔ ∃ f' k', (f' < f ∨ f' = f ∧ k' < k) ∧ f' < (gl M 0).length ∧ k' < i ∧ fpE M i f' = e ∧ fpE M k' f' = d)
theorem pair_inj {N e d e' d' : Nat} (h1 : d < N) (h2 : d' < N) (h : e * N + d = e' * N + d') : e = e' ∧ d = d' := by
 have h3 : (e * N + d) / N = e := by rw [Nat.add_comm, Nat.add_mul_div_right _ _ (by omega), Nat.div_eq_of_lt h1, Nat.zero_add]
 have h4 : (e' * N + d') / N = e' := by rw [Nat.add_comm, Nat.add_mul_div_right _ _ (by omega), Nat.div_eq_of_lt h2, Nat.zero_add]
 have h5 : e = e' := by rw [← h3, h, h4]
 subst h5
 exact ⟨O, by omega⟩
theorem pair_lt {N e d : Nat} (h1 : e < N) (h2 : d < N) : e * N + d < N * N := by
 have : (e + 1) * N ≤ N * N := Nat.mul_le_mul_right N h1
 rw [Nat.succ_mul] at this
 omega
theorem FndP.zero (M : List (List Int)) (i : Nat) : FndP M i 0 0 (List.replicate (offP M M.length * offP M M.length) false) := by
 refine ⟨by simp, fun e d he hd => ?_⟩
 have : gb (List.replicate (offP M M.length * offP M M.length) false) ((e * offP M M.length + d : Nat) : Int) = false := by
  simp only [gb, Int.toNat_natCast, List.getD_eq_getElem?_getD, List.getElem?_replicate]
  split <;> rfl
 rw [this]
 constructor
 ·intro h; cases h
 rintro ⟨f', k', h, _⟩; omega
theorem FndP.next {M : List (List Int)} (hM : Mani M) {i f k : Nat} {G : List Bool} (h : FndP M i f k G) (hf : f < (gl M 0).length) (hi : i < M.length) (hk : k < i) : FndP M i f (k + 1) (G.set ((fpE M i f).toNat * offP M M.length + (fpE M k f).toNat) true) := by
 have h1 := fpE_in hM (i := i) hf
 have h2 := fpE_in hM (i := k) hf
 have h3 := offP_mono M (show i + 1 ≤ M.length by omega)
 have h4 := offP_mono M (show k + 1 ≤ M.length by omega)
 refine ⟨by rw [List.length_set]; exact h.1, fun e d he hd => ?_⟩
 have hl := pair_lt (e := (fpE M i f).toNat) (d := (fpE M k f).toNat) (N := offP M M.length) (by omega) (by omega)
 have hg : gb (G.set ((fpE M i f).toNat * offP M M.length + (fpE M k f).toNat) true) ((e * offP M M.length + d : Nat) : Int) = if (fpE M i f).toNat * offP M M.length + (fpE M k f).toNat = e * offP M M.length + d then true else gb G ((e * offP M M.length + d : Nat) : Int) := by
  simp only [gb, Int.toNat_natCast, List.getD_eq_getElem?_getD, List.getElem?_set]
  by_cases e1 : (fpE M i f).toNat * offP M M.length + (fpE M k f).toNat = e * offP M M.length + d
  ·rw [if_pos e1, if_pos (by rw [h.1]; exact hl), if_pos e1]; rfl
  rw [if_neg e1, if_neg e1]
 rw [hg]
 by_cases e1 : (fpE M i f).toNat * offP M M.length + (fpE M k f).toNat = e * offP M M.length + d
 ·rw [if_pos e1]
  have := pair_inj (by omega) hd e1
  exact ⟨fun _ => ⟨f, k, .inr ⟨O, by omega⟩, hf, hk, by omega, by omega⟩, fun _ => O⟩
 rw [if_neg e1, h.2 e d he hd]
 constructor
 ·rintro ⟨f', k', q, r⟩; exact ⟨f', k', by omega, r⟩
 rintro ⟨f', k', q, r1, r2, r3, r4⟩
 refine ⟨f', k', ?_, r1, r2, r3, r4⟩
 by_cases e2 : f' = f ∧ k' = k
 ·obtain ⟨rfl, rfl⟩ := e2
  exact absurd (by rw [r3, r4]; rfl) e1
 omega
theorem FndP.row {M : List (List Int)} {i f : Nat} {G : List Bool} (h : FndP M i f i G) : FndP M i (f + 1) 0 G := by
 refine ⟨h.1, fun e d he hd => ?_⟩
 rw [h.2 e d he hd]
 constructor
 ·rintro ⟨f', k', q, r⟩; exact ⟨f', k', by omega, r⟩
 rintro ⟨f', k', q, r1, r2, r3⟩; exact ⟨f', k', by omega, r1, r2, r3⟩
theorem FndP.done {M : List (List Int)} (hM : Mani M) {i : Nat} {G : List Bool} (h : FndP M i (gl M 0).length 0 G) (hi : i < M.length) {e d : Nat} (he : e < offP M M.length) (hd : d < offP M M.length) : gb G ((e * offP M M.length + d : Nat) : Int) = true ↔ ((offP M i ≤ e ∧ e < offP M (i + 1)) ∧ (d : Int) ∈ gl (fpB M) (e : Int)) := by
 rw [h.2 e d he hd, fpB_at (by omega) (by omega)]
 constructor
 ·rintro ⟨f', k', _, r1, r2, r3, r4⟩
  have := fpE_in hM (i := i) r1
  exact ⟨by omega, by omega, f', r1, i, hi, k', r2, r3.symm, r4.symm⟩
 rintro ⟨h1, _, f', r1, i', hi', k', r2, r3, r4⟩
 have h5 := fpE_in hM (i := i') r1
 have : i' = i := by
  rcases Nat.lt_trichotomy i' i with h | h | h
  ·have := offP_mono M (show i' + 1 ≤ i by omega); omega
  ·exact h
  have := offP_mono M (show i + 1 ≤ i' by omega); omega
 subst this
 exact ⟨f', k', by omega, r1, r2, r3.symm, r4.symm⟩
noncomputable def belE (M : List (List Int)) (i e d x : Nat) : List Int := if x < offP M i then gl (fpB M) (x : Int) else if offP M (i + 1) ≤ x then [] else if x < e then gl (fpB M) (x : Int) else if x = e then (gl (fpB M) (x : Int)).filter fun y => decide (y < d) else []
noncomputable def belL (M : List (List Int)) (i e d : Nat) : List (List Int) := (List.range (offP M M.length)).map (belE M i e d)
theorem belL_len (M : List (List Int)) (i e d : Nat) : (belL M i e d).length = offP M M.length := by simp [belL]
theorem belL_at {M : List (List Int)} {i e d x : Nat} (h : x < offP M M.length) : gl (belL M i e d) (x : Int) = belE M i e d x := by
 rw [gl_mem (by rw [belL_len]; exact h)]
 simp [belL]
theorem fpB_row {M : List (List Int)} {e : Nat} (he : e < offP M M.length) : gl (fpB M) (e : Int) = (gl (fpB M) (e : Int)).filter (fun y => decide (y < (offP M M.length : Int))) := by
 refine (List.filter_eq_self.2 fun y hy => ?_).symm
 rw [fpB_at (by omega) (by omega)] at hy
 exact decide_eq_true hy.1.2
theorem fpB_sa (M : List (List Int)) (e : Int) : SA (gl (fpB M) e) := by
 have hall : ∀ l ∈ fpB M, SA l := fun l hl => by
  unfold fpB at hl
  obtain ⟨x, _, rfl⟩ := List.mem_map.1 hl
  exact List.Pairwise.filter _ (rngI_SA _)
 by_cases h : e.toNat < (fpB M).length
 ·have : gl (fpB M) e = gl (fpB M) (e.toNat : Int) := by simp only [gl, Int.toNat_natCast]
  rw [this, gl_mem h]
  exact hall _ (List.getElem_mem _)
 have : gl (fpB M) e = [] := by simp [gl, List.getD_eq_getElem?_getD, List.getElem?_eq_none (Nat.le_of_not_lt h)]
 rw [this]; exact List.Pairwise.nil
theorem fpB_zero {M : List (List Int)} (hM : Mani M) {e : Nat} (he : e < offP M 1) : gl (fpB M) (e : Int) = [] := by
 have h5 := hM.1
 have hmo := offP_mono M (show 1 ≤ M.length by omega)
 refine List.eq_nil_iff_forall_not_mem.2 fun y hy => ?_
 rw [fpB_at (by omega) (by omega)] at hy
 obtain ⟨_, f, hf, i, hi, k, hk, h1, _⟩ := hy
 have h2 := fpE_in hM (i := i) hf
 have h3 := offP_mono M (show 1 ≤ i by omega)
 omega
theorem belL_one {M : List (List Int)} (hM : Mani M) : belL M 1 0 0 = List.replicate (offP M M.length) [] := by
 apply List.ext_getElem (by simp [belL])
 intro x h1 h2
 rw [belL_len] at h1
 simp only [belL, List.getElem_map, List.getElem_range, List.getElem_replicate]
 unfold belE
 split
 ·exact fpB_zero hM (by assumption)
 split
 ·rfl
 split
 ·omega
 split
 ·rename_i h; subst h; rw [List.filter_eq_nil_iff]; intro y hy h
  have := of_decide_eq_true h
  rw [fpB_at (by omega) (by omega)] at hy; omega
 rfl
theorem belL_next {M : List (List Int)} {i : Nat} : belL M i (offP M M.length) 0 = belL M (i + 1) 0 0 := by
 unfold belL
 refine List.map_congr_left fun x hx => ?_
 have hx := List.mem_range.1 hx
 have h1 := offP_mono M (show i + 1 ≤ i + 1 + 1 by omega)
 have h2 := offP_mono M (show i ≤ i + 1 by omega)
 have hz : ∀ y ∈ gl (fpB M) (x : Int), 0 ≤ y := fun y hy => by rw [fpB_at (by omega) (by omega)] at hy; omega
 unfold belE
 by_cases c1 : x < offP M i
 ·rw [if_pos c1, if_pos (by omega)]
 rw [if_neg c1]
 by_cases c2 : x < offP M (i + 1)
 ·rw [if_neg (by omega), if_pos hx, if_pos c2]
 rw [if_pos (by omega), if_neg c2]
 split
 ·rfl
 rw [if_neg (by omega)]
 split
 ·rename_i h; subst h
  symm
  rw [List.filter_eq_nil_iff]
  intro y hy h
  have := of_decide_eq_true h
  have := hz y hy; omega
 rfl
theorem belL_row {M : List (List Int)} {i e : Nat} : belL M i e (offP M M.length) = belL M i (e + 1) 0 := by
 unfold belL
 refine List.map_congr_left fun x hx => ?_
 have hx := List.mem_range.1 hx
 have hz : ∀ y ∈ gl (fpB M) (x : Int), 0 ≤ y := fun y hy => by rw [fpB_at (by omega) (by omega)] at hy; omega
 unfold belE
 by_cases c1 : x < offP M i
 ·rw [if_pos c1, if_pos c1]
 rw [if_neg c1, if_neg c1]
 by_cases c2 : offP M (i + 1) ≤ x
 ·rw [if_pos c2, if_pos c2]
 rw [if_neg c2, if_neg c2]
 by_cases c3 : x < e
 ·rw [if_pos c3, if_pos (by omega)]
 rw [if_neg c3]
 by_cases c4 : x = e
 ·rw [if_pos c4, if_pos (by omega), ← fpB_row hx]
 rw [if_neg c4, if_neg (by omega)]
 split
 ·rename_i h; subst h
  symm
  rw [List.filter_eq_nil_iff]
  intro y hy h
  have := of_decide_eq_true h
  have := hz y hy; omega
 rfl
theorem belL_skip {M : List (List Int)} {i e d : Nat} (he : e < offP M M.length) (hd : d < offP M M.length) (h : ¬ ((offP M i ≤ e ∧ e < offP M (i + 1)) ∧ (d : Int) ∈ gl (fpB M) (e : Int))) : belL M i e (d + 1) = belL M i e d := by
 unfold belL
 refine List.map_congr_left fun x hx => ?_
 unfold belE
 by_cases c1 : x < offP M i
 ·rw [if_pos c1, if_pos c1]
 rw [if_neg c1, if_neg c1]
 by_cases c2 : offP M (i + 1) ≤ x
 ·rw [if_pos c2, if_pos c2]
 rw [if_neg c2, if_neg c2]
 by_cases c3 : x < e
 ·rw [if_pos c3, if_pos c3]
 rw [if_neg c3, if_neg c3]
 by_cases c4 : x = e
 ·subst c4
  rw [if_pos rfl, if_pos rfl]
  refine List.filter_congr fun y hy => ?_
  have hne : y ≠ (d : Int) := fun e => h ⟨by omega, e ▸ hy⟩
  exact decide_eq_decide.2 (by omega)
 rw [if_neg c4, if_neg c4]
theorem belL_put {M : List (List Int)} {i e d : Nat} (he : e < offP M M.length) (h : (offP M i ≤ e ∧ e < offP M (i + 1)) ∧ (d : Int) ∈ gl (fpB M) (e : Int)) : (belL M i e d).set e (gl (belL M i e d) (e : Int) ++ [(d : Int)]) = belL M i e (d + 1) := by
 apply List.ext_getElem (by simp [belL])
 intro x h1 h2
 rw [belL_len] at h2
 rw [List.getElem_set]
 have e2 : ∀ d' (hx : x < (belL M i e d').length), (belL M i e d')[x] = belE M i e d' x := fun d' hx => by simp [belL]
 rw [e2 (d + 1) (by rw [belL_len]; exact h2), e2 d (by rw [belL_len]; exact h2)]
 by_cases c : e = x
 ·subst c
  rw [if_pos rfl, belL_at he]
  have hz : ∀ d' : Nat, belE M i e d' e = (gl (fpB M) (e : Int)).filter fun y => decide (y < (d' : Int)) := fun d' => by
   unfold belE
   rw [if_neg (by omega), if_neg (by omega), if_neg (by omega), if_pos rfl]
  rw [hz, hz]
  have hs := fpB_sa M (e : Int)
  refine SA.eq ?_ (List.Pairwise.filter _ hs) fun y => ?_
  ·rw [SA, List.pairwise_append]
   refine ⟨List.Pairwise.filter _ hs, List.pairwise_singleton _ _, fun a ha b hb => ?_⟩
   obtain rfl := List.mem_singleton.1 hb
   exact of_decide_eq_true (List.mem_filter.1 ha).2
  rw [List.mem_append, List.mem_filter, List.mem_filter, List.mem_singleton]
  simp only [decide_eq_true_eq]
  constructor
  ·rintro (⟨h3, h4⟩ | rfl)
   ·exact ⟨h3, by omega⟩
   exact ⟨h.2, by omega⟩
  rintro ⟨h3, h4⟩
  by_cases e3 : y = (d : Int)
  ·exact .inr e3
  exact .inl ⟨h3, by omega⟩
 rw [if_neg c]
 unfold belE
 by_cases c1 : x < offP M i
 ·rw [if_pos c1, if_pos c1]
 rw [if_neg c1, if_neg c1]
 by_cases c2 : offP M (i + 1) ≤ x
 ·rw [if_pos c2, if_pos c2]
 rw [if_neg c2, if_neg c2]
 by_cases c3 : x < e
 ·rw [if_pos c3, if_pos c3]
 rw [if_neg c3, if_neg c3, if_neg (fun h => c h.symm), if_neg (fun h => c h.symm)]
theorem belL_all {M : List (List Int)} : belL M M.length 0 0 = fpB M := by
 apply List.ext_getElem (by rw [belL_len, fpB_len])
 intro x h1 h2
 rw [belL_len] at h1
 simp only [belL, List.getElem_map, List.getElem_range]
 unfold belE
 rw [if_pos h1, gl_mem h2]
end Go.Proofs.YtopgfgdgfjddpaaGreatDoor.Vc
