/-
  The texts Key, Gi1, Co9, Co10, Co11, Co12, Co15, Co16, Co19 in one. Conditions: as each part states them.
-/
import Derived.Test.YtiblelgfkakmiaaGreatDoorInst
import Derived.Test.YtiblelgfkakmiaaGreatDoorZd
import Derived.Test.YtiblelgfkakmiaaGreatDoorZb
import Derived.Lib.ItoaLen
import Derived.Test.YtiblelgfkakmiaaGreatDoorLayd
import Derived.Shelf.Strconv.AppendIntPublic10
import Derived.Test.YtiblelgfkakmiaaGreatDoorZc
/-
 The text of a list of numbers, which is alike for equal lists alone. Conditions: the library's table of powers of ten holds what the program's text lays there.
-/
namespace Go.Proofs.YtiblelgfkakmiaaGreatDoor.Vc
open Go.RowKit
/-! the text, plainly -/
def keyL (xs : List Int) : List UInt8 := xs.flatMap fun x => Lib.itoa x ++ [32]
def keyB (xs : List Int) : ByteArray := ⟨(keyL xs).toArray⟩
def valD (l : List UInt8) : Nat := l.foldl (fun a b => 10 * a + (b.toNat - 48)) 0
theorem u8_digit {d : Nat} (h : d < 10) : (UInt8.ofNat (48 + d)).toNat = 48 + d := by
 rw [UInt8.toNat_ofNat']
 omega
theorem dec_val : ∀ u : Nat, valD (Lib.decDigits u) = u ∧ ∀ b ∈ Lib.decDigits u, 48 ≤ b.toNat ∧ b.toNat ≤ 57 := by
 intro u
 induction u using Nat.strongRecOn with
 | ind u ih =>
  rw [Lib.decDigits]
  split
  ·rename_i h
   refine ⟨?_, fun b hb => ?_⟩
   ·simp only [valD, List.foldl_cons, List.foldl_nil, u8_digit h]; omega
   ·simp only [List.mem_singleton] at hb
    subst hb
    rw [u8_digit h]; omega
  ·rename_i h
   obtain ⟨h1, h2⟩ := ih (u / 10) (by omega)
   refine ⟨?_, fun b hb => ?_⟩
   ·unfold valD at h1 ⊢
    rw [List.foldl_append, h1]
    simp only [List.foldl_cons, List.foldl_nil, u8_digit (show u % 10 < 10 by omega)]
    omega
   ·rcases List.mem_append.1 hb with hb | hb
    ·exact h2 b hb
    ·simp only [List.mem_singleton] at hb
     subst hb
     rw [u8_digit (by omega)]; omega
theorem dec_inj {u v : Nat} (h : Lib.decDigits u = Lib.decDigits v) : u = v := by rw [← (dec_val u).1, h, (dec_val v).1]
theorem itoa_bytes {x : Int} : ∀ b ∈ Lib.itoa x, b ≠ 32 := by
 intro b hb e
 subst e
 unfold Lib.itoa at hb
 split at hb
 ·rcases List.mem_cons.1 hb with h | h
  ·exact absurd h (by decide)
  ·have := (dec_val _).2 _ h
   exact absurd this (by decide)
 ·have := (dec_val _).2 _ hb
  exact absurd this (by decide)
theorem itoa_inj {x y : Int} (h : Lib.itoa x = Lib.itoa y) : x = y := by
 have no45 : ∀ (u v : Nat), 45 :: Lib.decDigits u ≠ Lib.decDigits v := fun u v e => by
  have := (dec_val v).2 45 (by rw [← e]; simp)
  exact absurd this (by decide)
 unfold Lib.itoa at h
 split at h <;> split at h
 ·simp only [List.cons.injEq, true_and] at h
  have := dec_inj h
  omega
 ·exact absurd h (no45 _ _)
 ·exact absurd h.symm (no45 _ _)
 ·have := dec_inj h
  omega
theorem split_at : ∀ {a b r s : List UInt8}, (∀ x ∈ a, x ≠ 32) → (∀ x ∈ b, x ≠ 32) → a ++ 32 :: r = b ++ 32 :: s → a = b ∧ r = s
 | [], [], _, _, _, _, h => by simpa using h
 | [], y :: b, _, _, _, hb, h => by
  simp only [List.nil_append, List.cons_append, List.cons.injEq] at h
  exact absurd h.1.symm (hb y (by simp))
 | x :: a, [], _, _, ha, _, h => by
  simp only [List.nil_append, List.cons_append, List.cons.injEq] at h
  exact absurd h.1 (ha x (by simp))
 | x :: a, y :: b, _, _, ha, hb, h => by
  simp only [List.cons_append, List.cons.injEq] at h
  obtain ⟨h1, h2⟩ := split_at (fun z hz => ha z (by simp [hz])) (fun z hz => hb z (by simp [hz])) h.2
  exact ⟨by rw [h.1, h1], h2⟩
theorem keyL_cons (x : Int) (xs : List Int) : keyL (x :: xs) = Lib.itoa x ++ 32 :: keyL xs := by simp [keyL]
theorem keyL_snoc (xs : List Int) (x : Int) : keyL (xs ++ [x]) = (keyL xs ++ Lib.itoa x) ++ [32] := by simp [keyL]
theorem keyL_inj : ∀ {xs ys : List Int}, keyL xs = keyL ys → xs = ys
 | [], [], _ => rfl
 | [], y :: ys, h => by rw [keyL_cons] at h; simp [keyL] at h
 | x :: xs, [], h => by rw [keyL_cons] at h; simp [keyL] at h
 | x :: xs, y :: ys, h => by
  rw [keyL_cons, keyL_cons] at h
  obtain ⟨h1, h2⟩ := split_at itoa_bytes itoa_bytes h
  rw [itoa_inj h1, keyL_inj h2]
theorem keyB_inj {xs ys : List Int} (h : keyB xs = keyB ys) : xs = ys := by
 have h1 : (keyL xs).toArray = (keyL ys).toArray := congrArg ByteArray.data h
 exact keyL_inj (by simpa using h1)
theorem fold_push : ∀ (l : List UInt8) (s : ByteArray), (l.map fun b => ((b.toNat : Nat) : Int)).foldl (fun r n => r.push (UInt8.ofNat n.toNat)) s = ⟨s.data ++ l.toArray⟩
 | [], s => by simp
 | b :: l, s => by
  simp only [List.map_cons, List.foldl_cons]
  rw [fold_push l]
  have e : UInt8.ofNat ((b.toNat : Nat) : Int).toNat = b := by simp
  rw [e]
  have e2 : (s.push b).data = s.data.push b := rfl
  rw [e2]
  congr 1
  apply Array.ext'
  simp
/-! the library's table -/
def Tab (w : World) : Prop := Lib.TabIs Tryz.prog w "internal/strconv.uint64pow10" .u64 Lib.pow10Tab
theorem Tab.later {w w' : World} (h : Tab w) (hb : Below w.heap.size w w') : Tab w' := Lib.tabBelow_of_tabIs h w' hb.toBelow
def OwB (B : Nat) (w : World) (A : Option Addr) (m c : Nat) (l : List UInt8) : Prop := w.ownsRow B 5 1 (.slice A m c) m (Lib.byteCells l)
theorem owns_slice {B m : Nat} {w : World} {v : Value} {xs : List Value} (h : w.ownsRow B 5 1 v m xs) : ∃ A c, v = .slice A m c := by
 rcases h.2 with ⟨rfl, rfl⟩ | ⟨g, cap, cur, rfl, _⟩
 ·exact ⟨_, _, rfl⟩
 ·exact ⟨_, _, rfl⟩
theorem OwB.later {B : Nat} {w w' : World} {A : Option Addr} {m c : Nat} {l : List UInt8} (h : OwB B w A m c l) (hb : Below w.heap.size w w') : OwB B w' A m c l := by
 refine ⟨h.1, ?_⟩
 rcases h.2 with h1 | ⟨g, cap, cur, h1, h2, h3, r⟩
 ·exact .inl h1
 ·exact .inr ⟨g, cap, cur, h1, h2, by rw [hb.block g (Array.getElem?_eq_some_iff.1 h3).1]; exact h3, r⟩
section
variable {N : Nat} {ops : Array Oper} {K : Env → World → Prop} {rest : List Oper} {e : Env} {w0 w w' : World} {ks : List Ck} {d : Nat} {ty : TypeId} {pos : String} {af : Array Edge}
theorem Ops.appW {B m c : Nat} {A : Option Addr} {l : List UInt8} {A1 : Option Addr} {b : UInt8} {x y : Operand} (hO : OwB B w A m c l) (hB : B ≤ w.heap.size) (hR : Rd w A1 1 (fun _ => .int .u8 (b.toNat : Nat))) (hx : ev e x = .slice A m c) (hy : ev e y = .slice A1 1 1) (hm : m ≤ 1000000000) (hb : Nat.blt d N = true)
    (hK : ∀ A2 c2 w', Go.RowKit.Below B w w' → OwB B w' A2 (m + 1) c2 (l ++ [b]) → Ops Tryz.prog N ops K rest (upd e d (.slice A2 (m + 1) c2)) w') :
    Ops Tryz.prog N ops K (⟨some d, .call ⟨.builtin .append, #[x, y], #[22, 22]⟩, ty, pos, af, none⟩ :: rest) e w := by
  obtain ⟨inf, hi, hz0, hs, hby⟩ := Inf.get Tryz.prog 5
  obtain ⟨p, hp, hc⟩ := hR 0 (by omega)
  obtain ⟨a, rfl⟩ : ∃ a, A1 = some a := by cases A1 with | none => simp [ptrAt] at hp | some q => exact ⟨q, rfl⟩
  simp only [ptrAt, Option.map_some, Option.some.injEq] at hp
  obtain ⟨v', w', hr, hO', hg, _⟩ := run_append_own (P := Tryz.prog) (w := w) B 22 ty 5 inf (.int .u8 0) 1 1 Tryz.underlying22 hi hz0 hs hby rfl (by decide) (.slice A m c) m (Lib.byteCells l) hO a 1 1 [.int .u8 (b.toNat : Nat)] rfl
    (fun j u hj => by
      match j, hj with
      | 0, hj => simp at hj; subst hj; rw [hp]; exact hc) (fun u hu => by simp at hu; subst hu; rfl) (by simp only [maxLen]; omega) (by omega) hB
  obtain ⟨A2, c2, rfl⟩ := owns_slice hO'
  refine .val (w' := w') ?_ hb (hK A2 c2 w' ?_ ?_)
  · simp [execOp, resolve, invoke, builtin, hx, hy, hr]
  · exact (Go.RowKit.Below.refl B w).grown hg hB (fun k hk => (hO.lt k hk).1)
  · show w'.ownsRow B 5 1 (.slice A2 (m + 1) c2) (m + 1) (Lib.byteCells (l ++ [b]))
    rw [show Lib.byteCells (l ++ [b]) = Lib.byteCells l ++ [.int .u8 (b.toNat : Nat)] by simp [Lib.byteCells]]
    exact hO'
theorem Ops.convS {B m c : Nat} {A : Option Addr} {l : List UInt8} {x : Operand} (hO : OwB B w A m c l) (hx : ev e x = .slice A m c) (hb : Nat.blt d N = true) (hK : Ops Tryz.prog N ops K rest (upd e d (.string ⟨l.toArray⟩)) w) :
  Ops Tryz.prog N ops K (⟨some d, .convert 22 9 x, ty, pos, af, none⟩ :: rest) e w := by
 have hr : (Conv.bytesToString (.slice A m c)).run Tryz.prog w = .ok (.string ⟨l.toArray⟩) w := by
  have hl : (Lib.byteCells l).length = m * 1 := hO.1
  rcases hO.2 with ⟨h1, h2⟩ | ⟨g, cap, cur, h1, _⟩
  ·simp only [Value.slice.injEq] at h1
   obtain ⟨rfl, rfl, rfl⟩ := h1
   have : l = [] := List.eq_nil_of_length_eq_zero (by rw [Lib.byteCells_length] at hl; omega)
   subst this
   rfl
  ·simp only [Value.slice.injEq] at h1
   obtain ⟨rfl, _, rfl⟩ := h1
   have h2 := hO.cells (g := g) rfl
   have h3 := run_loadCells_list (P := Tryz.prog) (w := w) (⟨g, 0, none⟩ : Addr) (Lib.byteCells l) h2
   rw [hl, Nat.mul_one] at h3
   have e1 : Lib.byteCells l = (l.map fun b => ((b.toNat : Nat) : Int)).map (Value.int .u8) := by simp [Lib.byteCells]
   rw [e1] at h3
   rw [run_bytesToString w _ m c _ h3, fold_push]
   simp
 refine .val (w' := w) ?_ hb hK
 simp [execOp, hx, convert, run_underlying Tryz.underlying22, run_underlying Tryz.underlying9, run_underlying Tryz.underlying5, hr]
end
theorem AppendInt_c {B m c : Nat} {A : Option Addr} {l : List UInt8} (x : Int) (w : World) (hx : -9223372036854775808 ≤ x ∧ x ≤ 9223372036854775807) (hO : OwB B w A m c l) (hB : B ≤ w.heap.size) (hm : m ≤ 1000000000) (hT : Lib.TabBelow Tryz.prog B w "internal/strconv.uint64pow10" .u64 Lib.pow10Tab) :
  Ret Tryz.prog 111 [.slice A m c, .int .i64 x, .int .i64 10] w (fun v w' => ∃ A' c', v = .slice A' (m + (Lib.itoa x).length) c' ∧ OwB B w' A' (m + (Lib.itoa x).length) c' (l ++ Lib.itoa x) ∧ Go.RowKit.Below B w w') := by
 have key := Any.strconv_AppendInt_10 lai B m x hx.1 hx.2 (.slice A m c) (Lib.byteCells l) w hO hB (by omega) hT
 refine Calls.mono key fun y w' ⟨v', hy, hO', hb, _⟩ => ⟨_, hy, ?_⟩
 obtain ⟨A2, c2, rfl⟩ := owns_slice hO'
 refine ⟨A2, c2, rfl, ?_, hb⟩
 show w'.ownsRow B 5 1 (.slice A2 _ c2) _ (Lib.byteCells (l ++ Lib.itoa x))
 rw [Lib.byteCells_append]
 exact hO'
theorem itoa_len (x : Int) (hx : -9223372036854775808 ≤ x ∧ x ≤ 9223372036854775807) : (Lib.itoa x).length ≤ 21 := Lib.itoa_length_le x hx.1 hx.2
theorem keyL_len : ∀ (xs : List Int), (∀ x ∈ xs, -9223372036854775808 ≤ x ∧ x ≤ 9223372036854775807) → (keyL xs).length ≤ 22 * xs.length
 | [], _ => by simp [keyL]
 | x :: xs, h => by
  have h1 := itoa_len x (h x (by simp))
  have h2 := keyL_len xs fun y hy => h y (by simp [hy])
  rw [keyL_cons]
  simp only [List.length_append, List.length_cons]
  omega
theorem keyOf_c (A : Option Addr) (n c : Nat) (xs : List Int) (w : World) (hT : Tab w) (hR : RdI w A n xs) (hx : ∀ x ∈ xs, -9223372036854775808 ≤ x ∧ x ≤ 9223372036854775807) (hn : n ≤ 1000000) :
  Ret Tryz.prog 77 [.slice A n c] w (fun v w' => v = .string (keyB xs) ∧ St w w' []) := by
 have hxl := hR.1
 refine Ret.of_cd Tryz.func77 rfl Tryz.ntmps77 rfl (post1 rfl) (Cd.seq (Cd.region (Ops.mv_str rfl rfl rfl (Ops.n (tQ (Cd.seq (Cd.region (Ops.ms rfl rfl rfl (Ops.n ?_)))))))))
 refine tQ (Cd.seq (Cd.seq (Cd.region (Ops.ms rfl rfl rfl (Ops.len rfl rfl (Ops.mi rfl rfl rfl (Ops.n (tQ (Cd.block ?_)))))))))
 refine Cd.loop (α := Nat × Option Addr × Nat) (fun s => [(3, .slice s.2.1 (keyL (xs.take s.1)).length s.2.2), (6, .slice A n c), (7, .int .i64 (n : Int)), (8, .int .i64 (s.1 : Int))]) (fun s w' => OwB w.heap.size w' s.2.1 (keyL (xs.take s.1)).length s.2.2 (keyL (xs.take s.1)) ∧ Go.RowKit.Below w.heap.size w w' ∧ s.1 ≤ n) (fun s => n - s.1) (0, none, 0) ⟨rfl, rfl, rfl, rfl, trivial⟩ ⟨World.ownsRow_nil w _ _ _, Go.RowKit.Below.refl _ _, Nat.zero_le _⟩ ?_
 rintro ⟨i, A3, c3⟩ e w1 ⟨hO, hb1, hi⟩
 dsimp only at hO hb1 hi ⊢
 refine Cd.seq (Cd.region (Ops.lss rfl rfl rfl (Ops.n (tQ (Cd.seq ?_)))))
 refine Cd.cond_p _ rfl (fun h1 => ?_) (fun h1 => ?_)
 ·have hi' : i < xs.length := by omega
  have hR1 : RdI w1 A n xs := hR.later ⟨hb1, fun s => s.elim⟩
  have hT1 : Lib.TabBelow Tryz.prog w.heap.size w1 "internal/strconv.uint64pow10" .u64 Lib.pow10Tab := (Lib.tabBelow_of_tabIs hT).on hb1
  have hxi := hx _ (gi_in hi')
  have hll := keyL_len (xs.take i) fun x hm => hx x (List.mem_of_mem_take hm)
  have hil := itoa_len _ hxi
  rw [List.length_take] at hll
  have hsz := hb1.size
  have htk : keyL (xs.take (i + 1)) = (keyL (xs.take i) ++ Lib.itoa (gi xs (i : Int))) ++ [32] := by rw [take_succ_gi hi', keyL_snoc]
  refine Cd.skip (tQ (Cd.seq (Cd.block (Cd.seq (Cd.region (Ops.idx hR1.2 rfl rfl rfl (by omega) (by omega) (Ops.ld_int hR1 rfl (by omega) rfl rfl (Ops.mi rfl rfl rfl (Ops.n ?_)))))))))
  refine tQ (Cd.seq (Cd.region (Ops.ms rfl rfl rfl (Ops.mi rfl rfl rfl (Ops.call (AppendInt_c (gi xs (i : Int)) _ hxi hO hsz (by omega) hT1) rfl rfl rfl ?_)))))
  rintro _ w2 ⟨A4, c4, rfl, hO2, hb2⟩
  have hsz2 := hb2.size
  refine Ops.ms rfl rfl rfl (Ops.n (tQ (Cd.region (Ops.ms rfl rfl rfl (Ops.bs1 (St.refl w2) rfl rfl rfl rfl ?_)))))
  intro A5 w3 hS3
  have hO3 := hO2.later hS3.below
  have hb3 : Go.RowKit.Below w.heap.size w2 w3 := hS3.below.toBelow.mono (by omega)
  have hsz3 := hb3.size
  refine Ops.appW (b := 32) hO3 (by omega) (hS3.rd 0 rfl |>.congr fun j hj => by obtain rfl : j = 0 := by { have : j < 1 := hj; omega }; rfl) rfl rfl (by omega) rfl ?_
  intro A6 c6 w4 hb4 hO4
  refine Ops.ms rfl rfl rfl (Ops.n (blockQ_n (tQ (Cd.region (Ops.add rfl rfl rfl (by omega) (Ops.mi rfl rfl rfl (Ops.n (tQ ?_))))))))
  refine ⟨(i + 1, A6, c6), by show n - (i + 1) < n - i; omega, ⟨?_, rfl, rfl, rfl, trivial⟩, ?_, ((hb1.trans hb2).trans hb3).trans hb4, by show i + 1 ≤ n; omega⟩
  ·show Value.slice _ _ _ = .slice _ _ _
   rw [htk]
   simp [Nat.add_assoc]
  ·show OwB _ w4 A6 (keyL (xs.take (i + 1))).length c6 (keyL (xs.take (i + 1)))
   rw [htk]
   have e1 : ((keyL (xs.take i) ++ Lib.itoa (gi xs (i : Int))) ++ [32]).length = (keyL (xs.take i)).length + (Lib.itoa (gi xs (i : Int))).length + 1 := by simp; omega
   rw [e1]
   exact hO4
 ·have hin : i = xs.length := by omega
  subst hin
  rw [List.take_length] at hO
  refine Cd.exit (thenQ_x (thenQ_x (blockQ_x (tQ (Cd.seq (Cd.region (Ops.ms rfl rfl rfl ?_)))))))
  refine Ops.convS hO (by show Value.slice _ _ _ = .slice _ _ _; rw [List.take_length]) rfl ?_
  refine Ops.mv_str rfl rfl rfl (Ops.n (tQ (Cd.ret (ret1_v rfl ?_))))
  exact ⟨rfl, ⟨⟨hb1, fun s => s.elim⟩, fun k hk => (by cases hk), List.nodup_nil⟩⟩
/-
 The girth on both sides. Conditions: the library's table of powers of ten holds what the program's text lays there.
-/
structure RowsW (w : World) (n : Nat) (rs : List SlV) (xss : List (List Int)) : Prop where
 rl : rs.length = n
 len : xss.length = n
 row : ∀ i, i < n → RdI w (rs.getD i slNil).a (rs.getD i slNil).n (xss.getD i [])
 cap : ∀ i, i < n → (rs.getD i slNil).n ≤ (rs.getD i slNil).c ∧ (rs.getD i slNil).c ≤ maxLen
theorem RowsW.I {w : World} {A : Option Addr} {n : Nat} {rs : List SlV} {xss : List (List Int)} (h : RowsW w n rs xss) (ht : RdR w A n rs) : RowsI w A n rs xss := ⟨ht, h.len, h.row, h.cap⟩
theorem RowsW.later {w w' : World} {n : Nat} {rs : List SlV} {xss : List (List Int)} (h : RowsW w n rs xss) (hb : Below w.heap.size w w') : RowsW w' n rs xss := ⟨h.rl, h.len, fun i hi => (h.row i hi).later hb, h.cap⟩
/-! what has been seen -/
def seenA (ls : List (List Int)) : List (ByteArray × Bool) := ls.foldl (fun L l => putA L (keyB l) true) []
theorem seenA_snoc (ls : List (List Int)) (l : List Int) : seenA (ls ++ [l]) = putA (seenA ls) (keyB l) true := by simp [seenA, List.foldl_append]
theorem seenA_get (ls : List (List Int)) (l : List Int) : (getA (seenA ls) (keyB l)).getD false = decide (l ∈ ls) := by
 have key : ∀ r : List (List Int), (getA (seenA r.reverse) (keyB l)).getD false = decide (l ∈ r.reverse) := fun r => by
  induction r with
  | nil => rfl
  | cons x r ih =>
   rw [List.reverse_cons, seenA_snoc, getA_put]
   by_cases e : x = l
   ·subst e
    rw [if_pos rfl]; simp
   ·rw [if_neg (fun h => e (keyB_inj h)), ih]
    have : l ≠ x := fun h => e h.symm
    simp [this]
 have := key ls.reverse
 rwa [List.reverse_reverse] at this
instance (l : List (List Int)) : Decidable l.Nodup := by unfold List.Nodup; infer_instance
/-
 The greatest ones of some lists, walked.
-/
theorem rg_map {q : List Nat} (f : Nat → SlV) {k : Nat} (h : k < q.length) : rg (q.map f) (k : Int) = f (q.getD k 0) := by
 simp [rg, List.getD_eq_getElem?_getD, h]
theorem take_succ_getD {q : List Nat} {k : Nat} (h : k < q.length) : q.take (k + 1) = q.take k ++ [q.getD k 0] := by
 rw [List.take_succ_eq_append_getElem h]
 simp [List.getD_eq_getElem?_getD, h]
theorem grt_fac {ls lq : List (List Int)} (hs : ∀ l ∈ ls, SA l) (hp : ∀ x, x ∈ lq ↔ x ∈ ls) (hd : lq.Pairwise fun a b => b.length ≤ a.length) {F : List (List Int)} (hF : F.Perm (grtP lq)) (ho : F.Pairwise fun a b => ¬ LT b a) : F = facP ls := by
 have hsq : ∀ l ∈ lq, SA l := fun l hl => hs l ((hp l).1 hl)
 refine (FacOf.eq (ls := ls) ⟨SL.of_sorted ho (hF.nodup_iff.2 (grtP_nodup hsq)), fun x => ?_⟩ (facP_of ls))
 rw [hF.mem_iff, grtP_mem hsq hd]
 exact ⟨fun h => h.perm hp, fun h => h.perm fun x => (hp x).symm⟩
set_option maxHeartbeats 1000000 in
theorem greatestOf_c (A : Option Addr) (n c : Nat) (rs : List SlV) (ls : List (List Int)) (w : World) (hT : Tab w) (hR : RowsI w A n rs ls) (hn : n ≤ 2000000) (hsa : ∀ l ∈ ls, SA l) (h6 : ∀ l ∈ ls, l.length ≤ 6) (hx : ∀ l ∈ ls, ∀ x ∈ l, -9223372036854775808 ≤ x ∧ x ≤ 9223372036854775807) :
    Ret Tryz.prog 63 [.slice A n c] w (fun v w' => ∃ (q : List Nat) (A' : Option Addr) (c' : Nat), v = .slice A' q.length c' ∧ q.Nodup ∧ (∀ i ∈ q, i < n) ∧ q.map (fun i => ls.getD i []) = facP ls ∧ St w w' [CkR 28 A' q.length c' (q.map fun i => rs.getD i slNil)]) := by
  have hrl : rs.length = n := hR.top.1
  have hll : ls.length = n := hR.len
  have hlen : ∀ i, i < n → (rs.getD i slNil).n = (ls.getD i []).length := fun i hi => (hR.row i hi).1.symm
  have hmem : ∀ i, i < n → ls.getD i [] ∈ ls := fun i hi => by rw [List.getD_eq_getElem?_getD, List.getElem?_eq_getElem (by omega)]; exact List.getElem_mem _
  refine Ret.of_cd Tryz.func63 rfl Tryz.ntmps63 rfl (post1 rfl) (Cd.seq (Cd.region (Ops.ms rfl rfl rfl (Ops.n (tQ (Cd.seq (Cd.region (Ops.ms rfl rfl rfl (Ops.call (CloneRR_c A n c rs w hR.top (by omega)) rfl rfl rfl ?_)))))))))
  rintro _ w1 ⟨A1, c1, rfl, hS1⟩
  refine Ops.ms rfl rfl rfl (Ops.n (tQ (Cd.seq (Cd.region (Ops.ms rfl rfl rfl ?_)))))
  have hcap : ∀ s ∈ rs, s.n ≤ 9223372036854775807 := fun s hs => by
    obtain ⟨i, hi, rfl⟩ := List.mem_iff_getElem.1 hs
    have h := hlen i (by omega)
    have h2 := h6 _ (hmem i (by omega))
    rw [List.getD_eq_getElem?_getD, List.getElem?_eq_getElem hi] at h
    simp only [Option.getD_some] at h
    omega
  refine Ops.call (sortStable_c (by omega) hcap hS1) rfl rfl rfl ?_
  rintro _ w2 ⟨rfl, ds, hpm, hso, hS2⟩
  obtain ⟨q0, hq0, rfl⟩ := perm_idx slNil hpm
  rw [hrl] at hq0
  have hq0l : q0.length = n := by rw [hq0.length_eq, List.length_range]
  have hq0n : q0.Nodup := hq0.nodup_iff.2 List.nodup_range
  have hq0m : ∀ i ∈ q0, i < n := fun i hi => List.mem_range.1 (hq0.mem_iff.1 hi)
  have hget : ∀ k, k < n → q0.getD k 0 < n := fun k hk => hq0m _ (by rw [List.getD_eq_getElem?_getD, List.getElem?_eq_getElem (by omega)]; exact List.getElem_mem _)
  generalize hlsF : (fun i => ls.getD i []) = lsF
  generalize hrsF : (fun i => rs.getD i slNil) = rsF at *
  have hrow : ∀ (w' : World) i, i < n → Below w.heap.size w w' → RdI w' (rsF i).a (rsF i).n (lsF i) := fun w' i hi hb => by
    rw [← hrsF, ← hlsF]; exact (hR.row i hi).later hb
  have hlF : ∀ i, i < n → lsF i ∈ ls := fun i hi => by rw [← hlsF]; exact hmem i hi
  have hlq : ∀ x, x ∈ q0.map lsF ↔ x ∈ ls := fun x => by
    rw [List.mem_map]
    constructor
    · rintro ⟨i, hi, rfl⟩; exact hlF i (hq0m i hi)
    · intro hx
      obtain ⟨i, hi, rfl⟩ := List.mem_iff_getElem.1 hx
      refine ⟨i, hq0.mem_iff.2 (List.mem_range.2 (by omega)), ?_⟩
      rw [← hlsF]; simp [List.getD_eq_getElem?_getD, hi]
  have hlq2 : (q0.map lsF).Pairwise fun a b => b.length ≤ a.length := by
    rw [List.pairwise_map, List.pairwise_iff_getElem]
    intro i j hi hj hij
    have h := hso i j (Nat.zero_le _) hij (by omega)
    rw [gs_mem (by simp; omega), gs_mem (by simp; omega)] at h
    simp only [List.getElem_map] at h
    have h1 := (hrow w _ (hq0m _ (List.getElem_mem hi)) (Below.refl _ _)).1
    have h2 := (hrow w _ (hq0m _ (List.getElem_mem hj)) (Below.refl _ _)).1
    unfold knS at h
    omega
  refine Ops.n (tQ (Cd.seq (Cd.region (Ops.mkmap hS2 rfl ?_))))
  intro g w3 hS3
  refine Ops.mv_map rfl rfl rfl (Ops.n (tQ (Cd.seq (Cd.region (Ops.ms rfl rfl rfl (Ops.n (tQ (Cd.seq (Cd.seq ?_)))))))))
  refine Cd.region (Ops.ms rfl rfl rfl (Ops.len rfl rfl (Ops.mi rfl rfl rfl (Ops.n (tQ (Cd.block ?_))))))
  refine Cd.loop (α := Nat × Option Addr × Nat × List Nat) (fun z => [(4, .map (some g)), (5, .slice z.2.1 z.2.2.2.length z.2.2.1), (16, .slice A1 n c1), (17, .int .i64 (n : Int)), (18, .int .i64 (z.1 : Int))])
    (fun z w' => z.1 ≤ n ∧ z.2.2.2.Sublist (q0.take z.1) ∧ z.2.2.2.map lsF = grtP ((q0.take z.1).map lsF) ∧ St w w' [CkR 28 z.2.1 z.2.2.2.length z.2.2.1 (z.2.2.2.map rsF), CkM 108 g (prV Value.string Value.bool (seenA ((z.2.2.2.map lsF).flatMap allP))), CkR 28 A1 n c1 (q0.map rsF)]) (fun z => n - z.1) (0, none, 0, []) ⟨rfl, rfl, rfl, rfl, rfl, trivial⟩ ⟨Nat.zero_le _, List.nil_sublist _, rfl, hS3.nil _⟩ ?_
  rintro ⟨k, A5, c5, q⟩ e w4 ⟨hk, hsub, hgrt, hS4⟩
  dsimp only at hk hsub hgrt hS4 ⊢
  have hqn : q.Nodup := (hq0n.sublist (List.take_sublist _ _)).sublist hsub
  have hqm : ∀ i ∈ q, i < n := fun i hi => hq0m i (List.mem_of_mem_take (hsub.subset hi))
  have hql : q.length ≤ n := by have := hsub.length_le; rw [List.length_take] at this; omega
  refine Cd.seq (Cd.region (Ops.lss rfl rfl rfl (Ops.n (tQ (Cd.seq ?_)))))
  refine Cd.cond_p _ rfl (fun h1 => ?_) (fun h1 => ?_)
  · have hkn : k < n := by omega
    have hR4 := hS4.rdR 2 rfl
    have hrg := rg_map (q := q0) rsF (k := k) (by omega)
    have hi0 := hget k hkn
    have htk := take_succ_getD (q := q0) (k := k) (by omega)
    generalize hi : q0.getD k 0 = i0 at *
    have hr0 := hrow w4 i0 hi0 hS4.below
    have hl0 := hlF i0 hi0
    have hl6 := h6 _ hl0
    have hrn := hr0.1
    have hgs : grtP ((q0.take (k + 1)).map lsF) = grtS (grtP ((q0.take k).map lsF)) (lsF i0) := by rw [htk, List.map_append]; exact grtP_snoc _ _
    have hcap0 : (rsF i0).n ≤ (rsF i0).c := by rw [← hrsF]; exact (hR.cap i0 hi0).1
    refine Cd.skip (tQ (Cd.seq (Cd.block (Cd.seq (Cd.region (Ops.idx hR4.2 rfl rfl rfl (by omega) (by omega) (Ops.ld_sl hR4 rfl (by omega) rfl rfl ?_)))))))
    rw [hrg]
    refine Ops.ms rfl rfl rfl (Ops.n (tQ (Cd.seq (Cd.seq (Cd.region (Ops.ms rfl rfl rfl (Ops.len rfl rfl (Ops.eql rfl rfl rfl (Ops.mb rfl rfl rfl ?_)))))))))
    refine Ops.split_p 25 rfl (fun h2 => ?_) (fun h2 => ?_)
    · have hnil : lsF i0 = [] := List.eq_nil_of_length_eq_zero (by omega)
      refine Ops.k rfl rfl rfl rfl rfl (Ops.k rfl rfl rfl rfl rfl (Ops.k rfl rfl rfl rfl rfl (Ops.k rfl rfl rfl rfl rfl (Ops.pick_t rfl rfl rfl (Ops.n (tQ (Cd.cond_t rfl (Cd.exit (thenQ_x ?_)))))))))
      refine blockQ_x (tQ (Cd.region (Ops.add rfl rfl rfl (by omega) (Ops.mi rfl rfl rfl (Ops.n (tQ ?_))))))
      refine ⟨(k + 1, A5, c5, q), by show n - (k + 1) < n - k; omega, ⟨rfl, rfl, rfl, rfl, rfl, trivial⟩, by show k + 1 ≤ n; omega, by show q.Sublist (q0.take (k + 1)); rw [htk]; exact hsub.trans (List.sublist_append_left _ _), ?_, hS4⟩
      show q.map lsF = grtP ((q0.take (k + 1)).map lsF)
      rw [hgs, grtS, if_pos (.inl hnil)]; exact hgrt
    · have hne : lsF i0 ≠ [] := fun h => h2 (by rw [h] at hrn; simp at hrn; omega)
      refine Ops.g rfl rfl rfl (Ops.mv_map rfl rfl rfl (Ops.g rfl rfl rfl (Ops.ms rfl rfl rfl (Ops.g rfl rfl rfl (Ops.call (keyOf_c _ _ _ _ _ (hT.later hS4.below) hr0 (hx _ hl0) (by omega)) rfl rfl rfl ?_)))))
      rintro _ w5 ⟨rfl, hst⟩
      have hS5 := hS4.later hst.below
      refine Ops.g rfl rfl rfl (Ops.lookB keyS (keyB (lsF i0)) (hS5.rdM 1 rfl) rfl rfl rfl ?_)
      rw [seenA_get, hgrt]
      refine Ops.pick_f rfl rfl rfl (Ops.n (tQ ?_))
      refine Cd.cond_p _ rfl (fun h3 => ?_) (fun h3 => ?_)
      · refine Cd.exit (thenQ_x (blockQ_x (tQ (Cd.region (Ops.add rfl rfl rfl (by omega) (Ops.mi rfl rfl rfl (Ops.n (tQ ?_))))))))
        refine ⟨(k + 1, A5, c5, q), by show n - (k + 1) < n - k; omega, ⟨rfl, rfl, rfl, rfl, rfl, trivial⟩, by show k + 1 ≤ n; omega, by show q.Sublist (q0.take (k + 1)); rw [htk]; exact hsub.trans (List.sublist_append_left _ _), ?_, hS5⟩
        show q.map lsF = grtP ((q0.take (k + 1)).map lsF)
        rw [hgs, grtS, if_pos (.inr h3)]; exact hgrt
      · refine Cd.skip (tQ (Cd.seq (Cd.region (Ops.ms rfl rfl rfl (Ops.ms rfl rfl rfl (Ops.bs1R hS5 rfl rfl rfl ?_))))))
        intro A6 w6 hS6
        refine Ops.appR 1 hS6 rfl (hS6.rdR 0 rfl) rfl rfl rfl (by omega) (by omega) rfl ?_
        intro A7 c7 w7 hS7
        have hS7 : St w w7 [CkR 28 A7 (q.length + 1) c7 (q.map rsF ++ [rsF i0]), CkM 108 g (prV Value.string Value.bool (seenA ((q.map lsF).flatMap allP))), CkR 28 A1 n c1 (q0.map rsF)] := hS7.tail
        refine Ops.ms rfl rfl rfl (Ops.n (tQ (Cd.seq (Cd.region (Ops.ms rfl rfl rfl (Ops.call (sizeI_c _ _ _ _) rfl rfl rfl ?_))))))
        rintro _ _ ⟨rfl, rfl⟩
        generalize hbase : (q.map lsF).flatMap allP = base at *
        refine Ops.add rfl rfl rfl (by omega) (Ops.mi rfl rfl rfl (Ops.n (tQ (Cd.block ?_))))
        refine Cd.loop (α := Nat) (fun m => [(4, .map (some g)), (5, .slice A7 (q.length + 1) c7), (7, .slice (rsF i0).a (rsF i0).n (rsF i0).c), (16, .slice A1 n c1), (17, .int .i64 (n : Int)), (18, .int .i64 (k : Int)), (37, .int .i64 (((rsF i0).n : Int) + 1)), (38, .int .i64 (m : Int))])
          (fun m w' => m ≤ (lsF i0).length + 1 ∧ St w w' [CkR 28 A7 (q.length + 1) c7 (q.map rsF ++ [rsF i0]), CkM 108 g (prV Value.string Value.bool (seenA (base ++ parA (lsF i0) m))), CkR 28 A1 n c1 (q0.map rsF)]) (fun m => (lsF i0).length + 1 - m) 0 ⟨rfl, rfl, rfl, rfl, rfl, rfl, rfl, rfl, trivial⟩ ⟨Nat.zero_le _, by rw [show parA (lsF i0) 0 = [] from rfl, List.append_nil]; exact hS7⟩ ?_
        rintro m e w8 ⟨hm, hS8⟩
        refine Cd.seq (Cd.region (Ops.lss rfl rfl rfl (Ops.n (tQ (Cd.seq ?_)))))
        refine Cd.cond_p _ rfl (fun h4 => ?_) (fun h4 => ?_)
        · refine Cd.skip (tQ (Cd.seq (Cd.block (Cd.seq (Cd.region (Ops.mi rfl rfl rfl (Ops.mi rfl rfl rfl (Ops.n (tQ ?_)))))))))
          refine Cd.seq (Cd.region (Ops.ms rfl rfl rfl (Ops.mi rfl rfl rfl (Ops.call (partsOf_c m _ _ _ _ _ (hrow w8 i0 hi0 hS8.below) hcap0 (by omega) (by omega)) rfl rfl rfl ?_))))
          rintro _ w9 ⟨A9, c9, rs9, rfl, hrl9, hT9⟩
          have hps : ∀ p ∈ ptsP (lsF i0) m, p.length ≤ 6 ∧ ∀ x ∈ p, -9223372036854775808 ≤ x ∧ x ≤ 9223372036854775807 := fun p hp => by
            have h := (ptsP_mem.1 hp).1
            have h2 := h.length_le
            exact ⟨by omega, fun x hxp => hx _ hl0 x (h.subset hxp)⟩
          have hps2 := parA_succ (lsF i0) m
          have hN64 := ptsP_small (l := lsF i0) m (by omega)
          generalize hN : ptsP (lsF i0) m = N at *
          have hS9 : St w w9 ([CkR 28 A7 (q.length + 1) c7 (q.map rsF ++ [rsF i0]), CkM 108 g (prV Value.string Value.bool (seenA (base ++ parA (lsF i0) m))), CkR 28 A1 n c1 (q0.map rsF)] ++ (mat 28 2 A9 N.length c9 rs9 N ++ [])) := (hS8.call hT9).perm List.perm_append_comm
          refine Ops.len rfl rfl (Ops.mi rfl rfl rfl (Ops.n (tQ (Cd.block ?_))))
          refine Cd.loop (α := Nat) (fun j => [(4, .map (some g)), (5, .slice A7 (q.length + 1) c7), (7, .slice (rsF i0).a (rsF i0).n (rsF i0).c), (16, .slice A1 n c1), (17, .int .i64 (n : Int)), (18, .int .i64 (k : Int)), (37, .int .i64 (((rsF i0).n : Int) + 1)), (38, .int .i64 (m : Int)), (43, .slice A9 N.length c9), (44, .int .i64 (N.length : Int)), (45, .int .i64 (j : Int))])
            (fun j w' => j ≤ N.length ∧ St w w' ([CkR 28 A7 (q.length + 1) c7 (q.map rsF ++ [rsF i0]), CkM 108 g (prV Value.string Value.bool (seenA (base ++ parA (lsF i0) m ++ N.take j))), CkR 28 A1 n c1 (q0.map rsF)] ++ (mat 28 2 A9 N.length c9 rs9 N ++ []))) (fun j => N.length - j) 0 ⟨rfl, rfl, rfl, rfl, rfl, rfl, rfl, rfl, rfl, rfl, rfl, trivial⟩ ⟨Nat.zero_le _, by rw [List.take_zero, List.append_nil]; exact hS9⟩ ?_
          rintro j e w10 ⟨hj, hS10⟩
          have hM := (hS10.sub (List.sublist_append_right _ _)).rowsI rfl
          refine Cd.seq (Cd.region (Ops.lss rfl rfl rfl (Ops.n (tQ (Cd.seq ?_)))))
          refine Cd.cond_p _ rfl (fun h5 => ?_) (fun h5 => ?_)
          · have hjN : j < N.length := by omega
            have hrowj := hM.at_ (i := (j : Int)) (by omega) (by omega)
            have hrlj := hrowj.1
            have hpj := hps (gl N (j : Int)) (by rw [gl_mem hjN]; exact List.getElem_mem _)
            refine Cd.skip (tQ (Cd.seq (Cd.block (Cd.seq (Cd.region (Ops.idx hM.top.2 rfl rfl rfl (by omega) (by omega) (Ops.ld_sl hM.top rfl (by omega) rfl rfl (Ops.ms rfl rfl rfl (Ops.n ?_)))))))))
            refine tQ (Cd.region (Ops.mv_map rfl rfl rfl (Ops.ms rfl rfl rfl (Ops.call (keyOf_c _ _ _ _ _ (hT.later hS10.below) hrowj hpj.2 (by omega)) rfl rfl rfl ?_))))
            rintro _ w11 ⟨rfl, hst⟩
            have hS11 := hS10.later hst.below
            refine Ops.upm rfl keyS 1 (u := true) hS11 rfl rfl rfl rfl ?_
            intro w12 hS12
            refine Ops.n (blockQ_n (tQ (Cd.region (Ops.add rfl rfl rfl (by omega) (Ops.mi rfl rfl rfl (Ops.n (tQ ?_)))))))
            refine ⟨j + 1, by show N.length - (j + 1) < N.length - j; omega, ⟨rfl, rfl, rfl, rfl, rfl, rfl, rfl, rfl, rfl, rfl, rfl, trivial⟩, by omega, ?_⟩
            rw [take_succ_gl hjN, ← List.append_assoc (base ++ parA (lsF i0) m) (N.take j), seenA_snoc]
            exact hS12
          · have hje : j = N.length := by omega
            rw [hje, List.take_length] at hS10
            refine Cd.exit (thenQ_x (thenQ_x (blockQ_x (blockQ_n (tQ (Cd.region (Ops.add rfl rfl rfl (by omega) (Ops.mi rfl rfl rfl (Ops.n ?_)))))))))
            refine tQ ?_
            refine ⟨m + 1, by show (lsF i0).length + 1 - (m + 1) < (lsF i0).length + 1 - m; omega, ⟨rfl, rfl, rfl, rfl, rfl, rfl, rfl, rfl, trivial⟩, by omega, ?_⟩
            rw [hps2, ← List.append_assoc base]
            exact hS10.sub (List.sublist_append_left _ _)
        · have hme : m = (lsF i0).length + 1 := by omega
          rw [hme, parA_all] at hS8
          refine Cd.exit (thenQ_x (thenQ_x (blockQ_x (blockQ_n (tQ (Cd.region (Ops.add rfl rfl rfl (by omega) (Ops.mi rfl rfl rfl (Ops.n ?_)))))))))
          refine tQ ?_
          refine ⟨(k + 1, A7, c7, q ++ [i0]), by show n - (k + 1) < n - k; omega, ⟨rfl, by show Value.slice A7 (q.length + 1) c7 = .slice A7 (q ++ [i0]).length c7; simp, rfl, rfl, rfl, trivial⟩, by show k + 1 ≤ n; omega, by show (q ++ [i0]).Sublist (q0.take (k + 1)); rw [htk]; exact hsub.append (List.Sublist.refl _), ?_, ?_⟩
          · show (q ++ [i0]).map lsF = grtP ((q0.take (k + 1)).map lsF)
            rw [hgs, grtS, if_neg (fun h => by
              rcases h with h | h
              · exact hne h
              · exact h3 h), List.map_append, hgrt]
            rfl
          · show St w w8 [CkR _ A7 (q ++ [i0]).length c7 ((q ++ [i0]).map rsF), CkM _ g (prV Value.string Value.bool (seenA (((q ++ [i0]).map lsF).flatMap allP))), CkR _ A1 n c1 (q0.map rsF)]
            rw [List.map_append, List.map_append, List.flatMap_append, hbase, List.length_append]
            have e1 : ([i0].map lsF).flatMap allP = allP (lsF i0) := by simp
            rw [e1]
            exact hS8
  · have hkn : k = n := by omega
    subst hkn
    rw [← hq0l, List.take_length] at hgrt
    have hsv : ∀ a, a < q.length → sv (q.map rsF) a = rsF (q.getD a 0) := fun a ha => by simp [sv, List.getD_eq_getElem?_getD, ha]
    have hqg : ∀ a, a < q.length → q.getD a 0 ∈ q := fun a ha => by rw [List.getD_eq_getElem?_getD, List.getElem?_eq_getElem ha]; exact List.getElem_mem _
    refine Cd.exit (thenQ_x (thenQ_x (blockQ_x (tQ (Cd.seq (Cd.region (Ops.ms rfl rfl rfl ?_)))))))
    refine Ops.call (sortL_c 0 hS4 rfl (by omega) (fun a => lsF (q.getD a 0)) (fun a ha => by rw [hsv a ha]; have h1 := (hrow w _ (hqm _ (hqg a ha)) (Below.refl _ _)).1; have h2 := h6 _ (hlF _ (hqm _ (hqg a ha))); omega) (fun w' q' _ _ hS' a ha => by rw [hsv a ha]; exact hrow w' _ (hqm _ (hqg a ha)) hS'.below)) rfl rfl rfl ?_
    rintro _ w5 ⟨rfl, q2, hq2, hq2s, hS5⟩
    have hq2l : q2.length = q.length := by rw [hq2.length_eq, List.length_range]
    have hq2m : ∀ a ∈ q2, a < q.length := fun a ha => List.mem_range.1 (hq2.mem_iff.1 ha)
    have hfin : (q2.map fun a => q.getD a 0).Perm q := by
      have h := hq2.map fun a => q.getD a 0
      rwa [← map_range 0 q] at h
    have hrows : q2.map (sv (q.map rsF)) = (q2.map fun a => q.getD a 0).map rsF := by
      rw [List.map_map]
      exact List.map_congr_left fun a ha => hsv a (hq2m a ha)
    have hS6 : St w w5 [CkR 28 A5 q.length c5 (q2.map (sv (q.map rsF)))] := hS5.sub (List.Sublist.cons_cons _ (List.nil_sublist _))
    rw [hrows] at hS6
    refine Ops.n (tQ (Cd.seq (Cd.region (Ops.ms rfl rfl rfl (Ops.ms rfl rfl rfl (Ops.n (tQ (Cd.ret (ret1_s rfl ?_)))))))))
    refine ⟨q2.map fun a => q.getD a 0, A5, c5, by simp [hq2l], hfin.nodup_iff.2 hqn, fun i hi => hqm i (hfin.mem_iff.1 hi), ?_, by simpa [hq2l] using hS6⟩
    refine grt_fac hsa hlq hlq2 ?_ ?_
    · have h := hfin.map lsF
      rwa [hgrt] at h
    · rw [List.pairwise_map, List.pairwise_map]
      exact hq2s
/-
 The complex of some lists, walked.
-/
section
variable {P : Program} {N : Nat} {ops : Array Oper} {K : Env → World → Prop} {rest : List Oper} {e : Env} {w0 w w' : World} {ks : List Ck} {d : Nat} {ty : TypeId} {pos : String} {af : Array Edge}
theorem ret2_ib {R : Value → World → Prop} {t u : Nat} {b : Bool} {k : IntKind} {i : Int} (h : e t = .int k i) (h2 : e u = .bool b) (hR : R (.tuple #[.int k i, .bool b]) w) : ret2 t u R .ret e w := by show R (.tuple #[e t, e u]) w; rw [h, h2]; exact hR
theorem Ops.bldZ2 {t : TypeId} {f0 f1 : Field} {z0 z1 y0 y1 : Value} {b b0 b1 : Nat} [Und P t (.struct #[f0, f1])] [Inf P t (.agg #[z0, z1]) 2 b] (hI0 : Inf P f0.type y0 1 b0) (hI1 : Inf P f1.type y1 1 b1) (ho : f0.offset = 0) (ho1 : f1.offset = 1) (hb : Nat.blt d N = true)
    (hK : Ops P N ops K rest (upd e d (.agg #[z0, z1])) w) : Ops P N ops K (⟨some d, .build t #[], ty, pos, af, none⟩ :: rest) e w := by
  obtain ⟨inf, hi, hz0, hs, hby⟩ := Inf.get P t
  obtain ⟨inf0, hi0, _, hs0, _⟩ := hI0.get P f0.type
  obtain ⟨inf1, hi1, _, hs1, _⟩ := hI1.get P f1.type
  have ez : (Value.agg #[z0, z1]).cells = #[z0, z1] := rfl
  refine .val (w' := w) ?_ hb hK
  simp [execOp, Instr.build, run_underlying (Und.out (P := P) (t := t)), sizeOf, typeInfo, zeroValue, hi, hz0, hi0, hs0, hi1, hs1, ho, ho1, ez, Instr.fill]
end
theorem cmpNaN_c (x : Int) (w : World) : Ret Tryz.prog 121 [.int .i64 x] w (fun v w' => v = .bool (decide (¬ x = x)) ∧ w' = w) := by
 refine Ret.of_cd Tryz.func121 rfl Tryz.ntmps121 rfl (post1 rfl) (Cd.seq (Cd.region (Ops.mb rfl rfl rfl (Ops.n (tQ (Cd.seq (Cd.region (Ops.mi rfl rfl rfl (Ops.mi rfl rfl rfl ?_)))))))))
 refine Ops.neq rfl rfl rfl (Ops.mb rfl rfl rfl (Ops.n (tQ (Cd.ret (ret1_b rfl ?_)))))
 exact ⟨rfl, rfl⟩
theorem cmpLess_c (x y : Int) (w : World) : Ret Tryz.prog 114 [.int .i64 x, .int .i64 y] w (fun v w' => v = .bool (decide (x < y)) ∧ w' = w) := by
 refine Ret.of_cd Tryz.func114 rfl Tryz.ntmps114 rfl (post1 rfl) (Cd.seq (Cd.region (Ops.mb rfl rfl rfl (Ops.n (tQ (Cd.seq (Cd.region (Ops.mi rfl rfl rfl (Ops.call (cmpNaN_c x w) rfl rfl rfl ?_)))))))))
 rintro _ _ ⟨rfl, rfl⟩
 refine Ops.mb rfl rfl rfl ?_
 refine Ops.split_p 7 rfl (fun h => absurd rfl h) (fun _ => ?_) --f
 refine Ops.k rfl rfl rfl rfl rfl (Ops.k rfl rfl rfl rfl rfl (Ops.k rfl rfl rfl rfl rfl (Ops.pick_f rfl rfl rfl (Ops.mb rfl rfl rfl (Ops.g rfl rfl rfl (Ops.mi rfl rfl rfl (Ops.g rfl rfl rfl (Ops.mi rfl rfl rfl (Ops.g rfl rfl rfl ?_)))))))))
 refine Ops.lss rfl rfl rfl (Ops.pick_f rfl rfl rfl (Ops.mb rfl rfl rfl (Ops.n (tQ (Cd.ret (ret1_b rfl ?_))))))
 exact ⟨rfl, rfl⟩
theorem binary_c (A : Option Addr) (n c : Nat) (xs : List Int) (x : Int) (w : World) (hR : RdI w A n xs) (hs : SA xs) (hn : n ≤ 1000000000) (hx : x ∈ xs) :
  Ret Tryz.prog 81 [.slice A n c, .int .i64 x] w (fun v w' => v = .tuple #[.int .i64 (ix xs x), .bool true] ∧ w' = w) := by
 have hxl := hR.1
 have hr := ix_rng hx
 have hg := gi_ix hx
 obtain ⟨k, hk⟩ : ∃ k : Nat, ix xs x = k := ⟨(ix xs x).toNat, by omega⟩
 rw [hk] at hr hg ⊢
 refine Ret.of_cd Tryz.func81 rfl Tryz.ntmps81 rfl (post2 rfl) (Cd.seq (Cd.region (Ops.mi rfl rfl rfl (Ops.mb rfl rfl rfl (Ops.n (tQ (Cd.seq (Cd.region (Ops.ms rfl rfl rfl ?_)))))))))
 refine Ops.len rfl rfl (Ops.mi rfl rfl rfl (Ops.n (tQ (Cd.seq (Cd.region (Ops.mi rfl rfl rfl (Ops.mi rfl rfl rfl (Ops.mi rfl rfl rfl (Ops.n ?_)))))))))
 refine tQ (Cd.seq (Cd.block ?_))
 refine Cd.loop (α := Nat × Nat) (fun z => [(0, .slice A n c), (1, .int .i64 x), (6, .int .i64 (n : Int)), (7, .int .i64 (z.1 : Int)), (8, .int .i64 (z.2 : Int))]) (fun z w' => w' = w ∧ z.1 ≤ k ∧ k ≤ z.2 ∧ z.2 ≤ n) (fun z => z.2 - z.1) (0, n) ⟨rfl, rfl, rfl, rfl, rfl, trivial⟩ ⟨rfl, Nat.zero_le _, by show k ≤ n; omega, Nat.le_refl _⟩ ?_
 rintro ⟨i, j⟩ e w ⟨rfl, hik, hkj, hjn⟩
 dsimp only at hik hkj hjn ⊢
 refine Cd.seq (Cd.seq (Cd.region (Ops.mi rfl rfl rfl (Ops.mi rfl rfl rfl (Ops.lss rfl rfl rfl (Ops.n (tQ ?_)))))))
 refine Cd.cond_p _ rfl (fun h1 => ?_) (fun h1 => ?_)
 ·refine Cd.skip (tQ (Cd.block (Cd.seq (Cd.region (Ops.mi rfl rfl rfl (Ops.mi rfl rfl rfl (Ops.add rfl rfl rfl (by omega) (Ops.convK rfl rfl (wrap_u64_in _ (by omega)) (Ops.shr1 rfl rfl rfl (by omega) ?_)))))))))
  refine Ops.convK rfl rfl (IntWalk.i64_in _ (by omega)) ?_
  obtain ⟨h, hh⟩ : ∃ h : Nat, h = (i + j) / 2 := ⟨_, rfl⟩
  rw [show ((i : Int) + (j : Int)) / 2 = (h : Int) by omega]
  refine Ops.mi rfl rfl rfl (Ops.n (tQ (Cd.seq (Cd.region (Ops.ms rfl rfl rfl (Ops.mi rfl rfl rfl (Ops.idx hR.2 rfl rfl rfl (by omega) (by omega) (Ops.ld_int hR rfl (by omega) rfl rfl (Ops.mi rfl rfl rfl ?_)))))))))
  refine Ops.call (cmpLess_c _ _ _) rfl rfl rfl ?_
  rintro _ _ ⟨rfl, rfl⟩
  refine Ops.n (tQ ?_)
  refine Cd.cond_p _ rfl (fun h2 => ?_) (fun h2 => ?_)
  ·have hlt : h < k := by
    refine Nat.lt_of_not_le fun hle => ?_
    rcases Nat.lt_or_eq_of_le hle with hle | rfl
    ·have := hs.lt hle (by omega); omega
    ·omega
   refine Cd.region (Ops.mi rfl rfl rfl (Ops.add rfl rfl rfl (by omega) (Ops.mi rfl rfl rfl (Ops.n (blockQ_n (tQ ?_))))))
   exact ⟨(h + 1, j), by show j - (h + 1) < j - i; omega, ⟨rfl, rfl, rfl, rfl, rfl, trivial⟩, rfl, by show h + 1 ≤ k; omega, hkj, hjn⟩
  ·have hle : k ≤ h := by
    refine Nat.le_of_not_lt fun hlt => ?_
    have := hs.lt hlt (by omega)
    omega
   refine Cd.region (Ops.mi rfl rfl rfl (Ops.mi rfl rfl rfl (Ops.n (blockQ_n (tQ ?_)))))
   exact ⟨(i, h), by show h - i < j - i; omega, ⟨rfl, rfl, rfl, rfl, rfl, trivial⟩, rfl, hik, hle, by show h ≤ n; omega⟩
 ·obtain rfl : i = k := by omega
  refine Cd.exit (thenQ_x (thenQ_x (blockQ_x (tQ (Cd.seq (Cd.region (Ops.mi rfl rfl rfl (Ops.mi rfl rfl rfl (Ops.mi rfl rfl rfl ?_)))))))))
  refine Ops.lss rfl rfl rfl (Ops.mb rfl rfl rfl ?_)
  refine Ops.split_p 35 rfl (fun _ => ?_) (fun h => absurd h (by omega)) --t
  refine Ops.g rfl rfl rfl (Ops.ms rfl rfl rfl (Ops.g rfl rfl rfl (Ops.mi rfl rfl rfl (Ops.g rfl rfl rfl (Ops.idx hR.2 rfl rfl rfl (by omega) (by omega) (Ops.g rfl rfl rfl (Ops.ld_int hR rfl (by omega) rfl rfl (Ops.g rfl rfl rfl (Ops.mi rfl rfl rfl ?_)))))))))
  refine Ops.g rfl rfl rfl (Ops.eql rfl rfl rfl (Ops.g rfl rfl rfl (Ops.mb rfl rfl rfl ?_)))
  refine Ops.split_p 42 rfl (fun _ => ?_) (fun h => absurd hg h) --t
  refine Ops.k rfl rfl rfl rfl rfl (Ops.k rfl rfl rfl rfl rfl (Ops.k rfl rfl rfl rfl rfl (Ops.k rfl rfl rfl rfl rfl (Ops.k rfl rfl rfl rfl rfl (Ops.k rfl rfl rfl rfl rfl (Ops.skipu rfl rfl rfl rfl (Ops.skipu rfl rfl rfl rfl (Ops.k rfl rfl rfl rfl rfl (Ops.g rfl rfl rfl ?_)))))))))
  refine Ops.pick_t rfl rfl rfl (Ops.pick_t rfl rfl rfl (Ops.mi rfl rfl rfl (Ops.mb rfl rfl rfl (Ops.n (tQ (Cd.ret (ret2_ib rfl rfl ?_)))))))
  exact ⟨rfl, rfl⟩
def AnsC (V : Int) (F : List (List Int)) (K : Int) (w : World) (v : Value) (w' : World) : Prop := ∃ A' c' rs', v = .tuple #[.agg #[.int .i64 V, .slice A' F.length c'], .int .i64 K] ∧ rs'.length = F.length ∧ St w w' (mat 28 2 A' F.length c' rs' F ++ [])
theorem AnsC.none {w w' : World} {ks : List Ck} {K : Int} (h : St w w' ks) : AnsC 0 [] K w (.tuple #[.agg #[.int .i64 0, .slice Option.none 0 0], .int .i64 K]) w' := ⟨Option.none, 0, [], rfl, rfl, h.none.nil _⟩
theorem cs_cs0 (l : List Int) : cmpL (srt l) = cs l := rfl
theorem rowsCk_getn {t2 : TypeId} {pre post : List Ck} {rs : List SlV} {xss : List (List Int)} (hr : rs.length = xss.length) {i m : Nat} (hi : i < rs.length) (hm : pre.length + i = m) : (pre ++ (rowsCk t2 rs xss ++ post))[m]? = some (CkI t2 (rs.getD i slNil).a (rs.getD i slNil).n (rs.getD i slNil).c (xss.getD i [])) := by
 subst hm
 rw [List.getElem?_append_right (by omega), Nat.add_sub_cancel_left, List.getElem?_append_left (by rw [rowsCk_length hr]; omega)]
 exact rowsCk_get hr hi
theorem rowsCk_setn {t2 : TypeId} {pre post : List Ck} {rs : List SlV} {xss : List (List Int)} (hr : rs.length = xss.length) {i m : Nat} (hi : i < rs.length) (hm : pre.length + i = m) (xs : List Int) : (pre ++ (rowsCk t2 rs xss ++ post)).set m (CkI t2 (rs.getD i slNil).a (rs.getD i slNil).n (rs.getD i slNil).c xs) = pre ++ (rowsCk t2 rs (xss.set i xs) ++ post) := by
 subst hm
 rw [List.set_append_right _ _ (by omega), Nat.add_sub_cancel_left, List.set_append_left _ _ (by rw [rowsCk_length hr]; omega), rowsCk_set hr hi]
def mixR (f : Int → Int) (ss : List (List Int)) (k : Nat) : List (List Int) := (ss.take k).map (List.map f) ++ ss.drop k
theorem mixR_len (f : Int → Int) (ss : List (List Int)) (k : Nat) : (mixR f ss k).length = ss.length := by simp [mixR]; omega
theorem mixR_get {f : Int → Int} {ss : List (List Int)} {k : Nat} (h : k < ss.length) : (mixR f ss k).getD k [] = ss[k] := by
 have : k = ((ss.take k).map (List.map f)).length := by simp; omega
 simp only [mixR, List.getD_eq_getElem?_getD]
 rw [List.getElem?_append_right (by omega), ← this, Nat.sub_self]
 simp [h]
theorem mixR_step {f : Int → Int} {ss : List (List Int)} {k : Nat} (h : k < ss.length) : (mixR f ss k).set k (ss[k].map f) = mixR f ss (k + 1) := by
 have e : k = ((ss.take k).map (List.map f)).length := by simp; omega
 unfold mixR
 rw [List.set_append_right _ _ (by omega), ← e, Nat.sub_self, List.drop_eq_getElem_cons h, List.set_cons_zero, List.take_succ_eq_append_getElem h]
 simp only [List.map_append, List.map_cons, List.map_nil, List.append_assoc, List.cons_append, List.nil_append]
def mixI (f : Int → Int) (l : List Int) (j : Nat) : List Int := (l.take j).map f ++ l.drop j
theorem mixI_get {f : Int → Int} {l : List Int} {j : Nat} (h : j < l.length) : gi (mixI f l j) (j : Int) = gi l (j : Int) := by
 have : j = ((l.take j).map f).length := by simp; omega
 unfold mixI gi
 rw [Int.toNat_natCast, List.getD_eq_getElem?_getD, List.getElem?_append_right (by omega), ← this, Nat.sub_self]
 simp [h, List.getD_eq_getElem?_getD]
theorem mixI_step {f : Int → Int} {l : List Int} {j : Nat} (h : j < l.length) : (mixI f l j).set j (f (gi l (j : Int))) = mixI f l (j + 1) := by
 have e : j = ((l.take j).map f).length := by simp; omega
 unfold mixI
 rw [List.set_append_right _ _ (by omega), ← e, Nat.sub_self, List.drop_eq_getElem_cons h, List.set_cons_zero, List.take_succ_eq_append_getElem h, gi_mem h]
 simp only [List.map_append, List.map_cons, List.map_nil, List.append_assoc, List.cons_append, List.nil_append]
theorem flat_le {ss : List (List Int)} (h : ∀ l ∈ ss, l.length ≤ 6) : ss.flatten.length ≤ 6 * ss.length := by
 induction ss with
 | nil => simp
 | cons a r ih =>
  have h1 := h a (by simp)
  have h2 := ih fun l hl => h l (by simp [hl])
  simp only [List.flatten_cons, List.length_append, List.length_cons]
  omega
set_option maxHeartbeats 1000000 in
theorem complexOf_c (A : Option Addr) (n c : Nat) (rs : List SlV) (ls : List (List Int)) (w : World) (hT : Tab w) (hR : RowsI w A n rs ls) (hn : n ≤ 2000000) (hr : ∀ l ∈ ls, l.length ≤ 2000000) :
    Ret Tryz.prog 39 [.slice A n c] w (AnsC (cxV (ls.map cs)) (cxL (ls.map cs)) (cxK (ls.map cs)) w) := by
  have hll : ls.length = n := hR.len
  refine Ret.of_cd Tryz.func39 rfl Tryz.ntmps39 rfl (postc2 rfl rfl) (Cd.seq (Cd.region (Ops.new2 (St.refl w) rfl ?_)))
  intro A2 w1 hS1
  refine Ops.mi rfl rfl rfl (Ops.n (tQ (Cd.seq (Cd.region (Ops.ms rfl rfl rfl (Ops.n (tQ (Cd.seq (Cd.region ?_)))))))))
  refine Ops.ms rfl rfl rfl (Ops.n (tQ (Cd.seq (Cd.seq (Cd.region (Ops.ms rfl rfl rfl (Ops.len rfl rfl (Ops.mi rfl rfl rfl (Ops.n ?_)))))))))
  refine tQ (Cd.block ?_)
  refine Cd.loop (α := Nat × (Option Addr × Nat) × Option Addr × Nat × List SlV) (fun z => [(2, .pointer A2), (4, .slice z.2.1.1 (((ls.take z.1).map cs).flatten).length z.2.1.2), (5, .slice z.2.2.1 z.1 z.2.2.2.1), (16, .slice A n c), (17, .int .i64 (n : Int)), (18, .int .i64 (z.1 : Int))])
    (fun z w' => z.1 ≤ n ∧ (∀ l ∈ (ls.take z.1).map cs, l.length ≤ 6) ∧ z.2.2.2.2.length = z.1 ∧ St w w' (CkI 2 z.2.1.1 (((ls.take z.1).map cs).flatten).length z.2.1.2 (((ls.take z.1).map cs).flatten) :: (mat 28 2 z.2.2.1 z.1 z.2.2.2.1 z.2.2.2.2 ((ls.take z.1).map cs) ++ [Bx 26 2 A2 [.int .i64 0, .slice none 0 0]]))) (fun z => n - z.1) (0, (none, 0), none, 0, []) ⟨rfl, rfl, rfl, rfl, rfl, rfl, trivial⟩ ⟨Nat.zero_le _, by simp, rfl, (hS1.nil _).nil _⟩ ?_
  rintro ⟨k, ⟨A4, c4⟩, A5, c5, rs5⟩ e w2 ⟨hk, h6, hrl5, hS2⟩
  dsimp only at hk h6 hrl5 hS2 ⊢
  refine Cd.seq (Cd.region (Ops.lss rfl rfl rfl (Ops.n (tQ (Cd.seq ?_)))))
  refine Cd.cond_p _ rfl (fun h1 => ?_) (fun h1 => ?_)
  · have hkn : k < ls.length := by omega
    have hR2 := hS2.oldRows hR
    have hrow := hR2.at_ (i := (k : Int)) (by omega) (by omega)
    have hrl := hrow.1
    have hlk := hr (gl ls (k : Int)) (by rw [gl_mem hkn]; exact List.getElem_mem _)
    have htk : (ls.take (k + 1)).map cs = (ls.take k).map cs ++ [cs (gl ls (k : Int))] := by rw [take_succ_gl hkn, List.map_append]; rfl
    have hfl := flat_le h6
    have hml : ((ls.take k).map cs).length = k := by simp; omega
    generalize hssk : (ls.take k).map cs = ssk at *
    refine Cd.skip (tQ (Cd.seq (Cd.block (Cd.seq (Cd.region (Ops.idx hR2.top.2 rfl rfl rfl (by omega) (by omega) (Ops.ld_sl hR2.top rfl (by omega) rfl rfl (Ops.ms rfl rfl rfl (Ops.n ?_)))))))))
    refine tQ (Cd.seq (Cd.region (Ops.ms rfl rfl rfl (Ops.call (Clone_c _ _ _ _ _ hrow (by omega)) rfl rfl rfl ?_))))
    rintro _ w3 ⟨A8, c8, rfl, hT3⟩
    have hS3 := hS2.call hT3
    refine Ops.ms rfl rfl rfl (Ops.n (tQ (Cd.seq (Cd.region (Ops.ms rfl rfl rfl (Ops.call (sort0_c 0 hS3 rfl (by omega)) rfl rfl rfl ?_))))))
    rintro _ w4 ⟨rfl, hS4⟩
    refine Ops.n (tQ (Cd.seq (Cd.region (Ops.ms rfl rfl rfl (Ops.call (compact0_c 0 hS4 rfl (by omega)) rfl rfl rfl ?_)))))
    rintro _ w5 ⟨rfl, hS5⟩
    rw [cs_cs0] at hS5 ⊢
    have hS5 : St w w5 (CkI 2 A8 (cs (gl ls (k : Int))).length c8 (cs (gl ls (k : Int))) :: CkI 2 A4 ssk.flatten.length c4 ssk.flatten :: (mat 28 2 A5 k c5 rs5 ssk ++ [Bx 26 2 A2 [.int .i64 0, .slice none 0 0]])) := hS5
    have hcl : cs (gl ls (k : Int)) ∈ ls.map cs := List.mem_map_of_mem (by rw [gl_mem hkn]; exact List.getElem_mem _)
    have hcsl := cs_len (gl ls (k : Int))
    generalize hl : cs (gl ls (k : Int)) = l at *
    refine Ops.ms rfl rfl rfl (Ops.n (tQ (Cd.seq (Cd.seq (Cd.region (Ops.ms rfl rfl rfl (Ops.len rfl rfl (Ops.gtr rfl rfl rfl (Ops.n ?_)))))))))
    refine tQ ?_
    refine Cd.cond_p _ rfl (fun h2 => ?_) (fun h2 => ?_)
    · have hbad : CxBad (ls.map cs) := .inl ⟨l, hcl, by omega⟩
      unfold cxV cxL cxK
      rw [if_pos hbad, if_pos hbad, if_pos hbad]
      have hb : ∀ (w' : World) (X : List Ck), St w w' X → True := fun _ _ _ => trivial
      have hS6 : St w w5 (Bx 26 2 A2 [.int .i64 0, .slice none 0 0] :: CkI 2 A8 l.length c8 l :: CkI 2 A4 ssk.flatten.length c4 ssk.flatten :: (mat 28 2 A5 k c5 rs5 ssk)) := hS5.perm (by
        have := List.perm_append_comm (l₁ := CkI 2 A8 l.length c8 l :: CkI 2 A4 ssk.flatten.length c4 ssk.flatten :: (mat 28 2 A5 k c5 rs5 ssk)) (l₂ := [Bx 26 2 A2 [.int .i64 0, .slice none 0 0]])
        exact this)
      refine Cd.seq (Cd.region (Ops.bldZ2 (by exact inferInstance) (by exact inferInstance) rfl rfl rfl (Ops.st_agg 2 0 hS6 rfl rfl rfl rfl rfl rfl rfl ?_)))
      intro w6 hS7
      refine Ops.mi rfl rfl rfl (Ops.n (tQ (Cd.ret (thenQ_r (blockQ_r (thenQ_r (thenQ_r (blockQ_r (thenQ_r ?_)))))))))
      skip
      refine retc2_r rfl (hS7.rd 0 rfl) rfl ?_
      exact AnsC.none hS7
    · refine Cd.skip (tQ (Cd.seq (Cd.region (Ops.ms rfl rfl rfl (Ops.ms rfl rfl rfl (Ops.bs1R hS5 rfl rfl rfl ?_))))))
      intro A9 w6 hS6
      refine Ops.appR 3 hS6 rfl (hS6.rdR 0 rfl) rfl rfl rfl (by omega) (by omega) rfl ?_
      intro A10 c10 w7 hS7
      have hS7 : St w w7 (CkI 2 A8 l.length c8 l :: CkI 2 A4 ssk.flatten.length c4 ssk.flatten :: CkR 28 A10 (k + 1) c10 (rs5 ++ [⟨A8, l.length, c8⟩]) :: (rowsCk 2 rs5 ssk ++ [Bx 26 2 A2 [.int .i64 0, .slice none 0 0]])) := hS7.tail
      refine Ops.ms rfl rfl rfl (Ops.n (tQ (Cd.region (Ops.ms rfl rfl rfl (Ops.ms rfl rfl rfl (Ops.appI 1 hS7 rfl (hS7.rdI 0 rfl) rfl rfl rfl (by omega) (by omega) rfl ?_))))))
      intro A11 c11 w8 hS8
      have hS8 : St w w8 (CkI 2 A8 l.length c8 l :: CkI 2 A11 (ssk.flatten.length + l.length) c11 (ssk.flatten ++ l) :: CkR 28 A10 (k + 1) c10 (rs5 ++ [⟨A8, l.length, c8⟩]) :: (rowsCk 2 rs5 ssk ++ [Bx 26 2 A2 [.int .i64 0, .slice none 0 0]])) := hS8
      have hfl2 : (ssk ++ [l]).flatten = ssk.flatten ++ l := by simp
      refine Ops.ms rfl rfl rfl (Ops.n (blockQ_n (tQ (Cd.region (Ops.add rfl rfl rfl (by omega) (Ops.mi rfl rfl rfl (Ops.n (tQ ?_))))))))
      refine ⟨(k + 1, (A11, c11), A10, c10, rs5 ++ [⟨A8, l.length, c8⟩]), by show n - (k + 1) < n - k; omega, ⟨rfl, by show Value.slice A11 (ssk.flatten.length + l.length) c11 = .slice A11 ((ls.take (k + 1)).map cs).flatten.length c11; rw [htk, hfl2, List.length_append], rfl, rfl, rfl, rfl, trivial⟩, by show k + 1 ≤ n; omega, ?_, by show (rs5 ++ [_]).length = k + 1; simp; omega, ?_⟩
      · show ∀ x ∈ (ls.take (k + 1)).map cs, x.length ≤ 6
        rw [htk]
        intro x hx
        rcases List.mem_append.1 hx with hx | hx
        · exact h6 x hx
        · obtain rfl : x = l := by simpa using hx
          omega
      · show St w w8 (CkI _ A11 ((ls.take (k + 1)).map cs).flatten.length c11 ((ls.take (k + 1)).map cs).flatten :: (mat _ _ A10 (k + 1) c10 (rs5 ++ [⟨A8, l.length, c8⟩]) ((ls.take (k + 1)).map cs) ++ _))
        rw [htk, hfl2, List.length_append]
        refine hS8.perm ?_
        unfold mat
        rw [rowsCk_append (by omega)]
        refine (List.Perm.swap _ _ _).trans (List.Perm.cons _ ((List.Perm.swap _ _ _).trans (List.Perm.cons _ ?_)))
        show (_ :: (rowsCk 2 rs5 ssk ++ _)).Perm ((rowsCk 2 rs5 ssk ++ [_]) ++ _)
        rw [List.append_assoc]
        exact List.perm_middle.symm
  · have hkn : k = n := by omega
    subst hkn
    rw [List.take_of_length_le (by omega)] at h6 hS2 ⊢
    have hss : ∀ l ∈ ls.map cs, SA l := fun l hl => by obtain ⟨x, _, rfl⟩ := List.mem_map.1 hl; exact cs_SA x
    have hsl : (ls.map cs).length = k := by simp; omega
    have hfl := flat_le h6
    have hvl := cs_len (ls.map cs).flatten
    generalize ls.map cs = ss at *
    refine Cd.exit (thenQ_x (thenQ_x (blockQ_x (tQ (Cd.seq (Cd.region (Ops.ms rfl rfl rfl (Ops.call (sort0_c 0 hS2 rfl (by omega)) rfl rfl rfl ?_))))))))
    rintro _ w3 ⟨rfl, hS3⟩
    refine Ops.n (tQ (Cd.seq (Cd.region (Ops.ms rfl rfl rfl (Ops.call (compact0_c 0 hS3 rfl (by omega)) rfl rfl rfl ?_)))))
    rintro _ w4 ⟨rfl, hS4⟩
    rw [cs_cs0] at hS4 ⊢
    have hvS : SA (cvP ss) := cs_SA _
    have hvi : ∀ l ∈ ss, Ins l (cvP ss) := fun l hl => cvP_ins hl
    have hmono := ix_mono hvS
    have hfix := fac_ix ss
    have hS4 : St w w4 (Bx 26 2 A2 [.int .i64 0, .slice none 0 0] :: CkI 2 A4 (cvP ss).length c4 (cvP ss) :: CkR 28 A5 k c5 rs5 :: (rowsCk 2 rs5 ss ++ [])) := hS4.perm (by
      have := List.perm_append_comm (l₁ := CkI 2 A4 (cvP ss).length c4 (cvP ss) :: (mat 28 2 A5 k c5 rs5 ss)) (l₂ := [Bx 26 2 A2 [.int .i64 0, .slice none 0 0]])
      rw [List.append_nil]
      exact this)
    rw [show cs ss.flatten = cvP ss from rfl] at hvl ⊢
    refine Ops.ms rfl rfl rfl (Ops.n (tQ (Cd.seq (Cd.seq (Cd.region (Ops.ms rfl rfl rfl (Ops.len rfl rfl (Ops.gtr rfl rfl rfl (Ops.n ?_)))))))))
    refine tQ ?_
    refine Cd.cond_p _ rfl (fun h2 => ?_) (fun h2 => ?_)
    · have hbad : CxBad ss := .inr (.inl (by omega))
      unfold cxV cxL cxK
      rw [if_pos hbad, if_pos hbad, if_pos hbad]
      refine Cd.seq (Cd.region (Ops.bldZ2 (by exact inferInstance) (by exact inferInstance) rfl rfl rfl (Ops.st_agg 2 0 hS4 rfl rfl rfl rfl rfl rfl rfl ?_)))
      intro w6 hS7
      refine Ops.mi rfl rfl rfl (Ops.n (tQ (Cd.ret (thenQ_r ?_))))
      skip
      refine retc2_r rfl (hS7.rd 0 rfl) rfl ?_
      exact AnsC.none hS7
    · refine Cd.skip (tQ (Cd.seq (Cd.seq (Cd.region (Ops.ms rfl rfl rfl (Ops.len rfl rfl (Ops.mi rfl rfl rfl (Ops.n (tQ ?_)))))))))
      refine Cd.block ?_
      refine Cd.loop (α := Nat) (fun m => [(2, .pointer A2), (4, .slice A4 (cvP ss).length c4), (5, .slice A5 k c5), (48, .slice A5 k c5), (49, .int .i64 (k : Int)), (50, .int .i64 (m : Int))]) (fun m w' => m ≤ k ∧ St w w' ([Bx 26 2 A2 [.int .i64 0, .slice none 0 0], CkI 2 A4 (cvP ss).length c4 (cvP ss), CkR 28 A5 k c5 rs5] ++ (rowsCk 2 rs5 (mixR (ix (cvP ss)) ss m) ++ []))) (fun m => k - m) 0 ⟨rfl, rfl, rfl, rfl, rfl, rfl, trivial⟩ ⟨Nat.zero_le _, by simpa [mixR] using hS4⟩ ?_
      rintro m e w5 ⟨hm, hS5⟩
      refine Cd.seq (Cd.region (Ops.lss rfl rfl rfl (Ops.n (tQ (Cd.seq ?_)))))
      refine Cd.cond_p _ rfl (fun h3 => ?_) (fun h3 => ?_)
      · have hmk : m < ss.length := by omega
        have hR5 := hS5.rdR 2 rfl
        have hml := mixR_len (ix (cvP ss)) ss m
        have hmg := mixR_get (f := ix (cvP ss)) hmk
        have hms := mixR_step (f := ix (cvP ss)) hmk
        have hli := hvi ss[m] (List.getElem_mem hmk)
        have hl6 := h6 ss[m] (List.getElem_mem hmk)
        have hid : (mixR (ix (cvP ss)) ss m).set m ss[m] = mixR (ix (cvP ss)) ss m := by
          have hg2 : (mixR (ix (cvP ss)) ss m)[m]'(by omega) = ss[m] := by rw [← hmg]; simp [List.getD_eq_getElem?_getD, show m < (mixR (ix (cvP ss)) ss m).length by omega]
          rw [← hg2]; exact List.set_getElem_self _
        have hrn : (rs5.getD m slNil).n = ss[m].length := by
          have h := (hS5.rdI (3 + m) (rowsCk_getn (pre := [_, _, _]) (by omega) (by omega) rfl)).1
          rw [hmg] at h; exact h.symm
        generalize hl : ss[m] = l at *
        generalize hM : mixR (ix (cvP ss)) ss m = M at *
        refine Cd.skip (tQ (Cd.seq (Cd.block (Cd.seq (Cd.region (Ops.idx hR5.2 rfl rfl rfl (by omega) (by omega) (Ops.ld_sl hR5 rfl (by omega) rfl rfl ?_)))))))
        rw [show rg rs5 (m : Int) = rs5.getD m slNil from rfl]
        refine Ops.ms rfl rfl rfl (Ops.n (tQ (Cd.seq (Cd.region (Ops.ms rfl rfl rfl (Ops.len rfl rfl (Ops.mi rfl rfl rfl (Ops.n (tQ ?_)))))))))
        refine Cd.block ?_
        refine Cd.loop (α := Nat) (fun j => [(2, .pointer A2), (4, .slice A4 (cvP ss).length c4), (5, .slice A5 k c5), (10, .slice (rs5.getD m slNil).a (rs5.getD m slNil).n (rs5.getD m slNil).c), (48, .slice A5 k c5), (49, .int .i64 (k : Int)), (50, .int .i64 (m : Int)), (54, .slice (rs5.getD m slNil).a (rs5.getD m slNil).n (rs5.getD m slNil).c), (55, .int .i64 ((rs5.getD m slNil).n : Int)), (56, .int .i64 (j : Int))])
          (fun j w' => j ≤ l.length ∧ St w w' ([Bx 26 2 A2 [.int .i64 0, .slice none 0 0], CkI 2 A4 (cvP ss).length c4 (cvP ss), CkR 28 A5 k c5 rs5] ++ (rowsCk 2 rs5 (M.set m (mixI (ix (cvP ss)) l j)) ++ []))) (fun j => l.length - j) 0 ⟨rfl, rfl, rfl, rfl, rfl, rfl, rfl, rfl, rfl, rfl, trivial⟩ ⟨Nat.zero_le _, by rw [show mixI (ix (cvP ss)) l 0 = l by simp [mixI], hid]; exact hS5⟩ ?_
        rintro j e w6 ⟨hj, hS6⟩
        have hlen6 : rs5.length = (M.set m (mixI (ix (cvP ss)) l j)).length := by rw [List.length_set]; omega
        have hget6 := rowsCk_getn (t2 := 2) (pre := [Bx 26 2 A2 [.int .i64 0, .slice none 0 0], CkI 2 A4 (cvP ss).length c4 (cvP ss), CkR 28 A5 k c5 rs5]) (post := []) (m := 3 + m) hlen6 (i := m) (by omega) rfl
        have hrow6 := hS6.rdI _ hget6
        have hgd : (M.set m (mixI (ix (cvP ss)) l j)).getD m [] = mixI (ix (cvP ss)) l j := by simp [List.getD_eq_getElem?_getD, show m < M.length by omega]
        rw [hgd] at hrow6 hget6
        refine Cd.seq (Cd.region (Ops.lss rfl rfl rfl (Ops.n (tQ (Cd.seq ?_)))))
        refine Cd.cond_p _ rfl (fun h4 => ?_) (fun h4 => ?_)
        · have hjl : j < l.length := by omega
          have hv := hS6.rdI 1 rfl
          have hxm : gi l (j : Int) ∈ cvP ss := hli _ (by rw [gi_mem hjl]; exact List.getElem_mem _)
          have hset6 := rowsCk_setn (t2 := 2) (pre := [Bx 26 2 A2 [.int .i64 0, .slice none 0 0], CkI 2 A4 (cvP ss).length c4 (cvP ss), CkR 28 A5 k c5 rs5]) (post := []) (m := 3 + m) hlen6 (i := m) (by omega) rfl
          refine Cd.skip (tQ (Cd.seq (Cd.block (Cd.seq (Cd.region (Ops.mi rfl rfl rfl (Ops.idx hrow6.2 rfl rfl rfl (by omega) (by omega) (Ops.ld_int hrow6 rfl (by omega) rfl rfl ?_))))))))
          rw [mixI_get hjl]
          refine Ops.mi rfl rfl rfl (Ops.mi rfl rfl rfl (Ops.n (tQ (Cd.seq (Cd.region (Ops.ms rfl rfl rfl (Ops.mi rfl rfl rfl (Ops.call (binary_c _ _ _ _ _ _ hv hvS (by omega) hxm) rfl rfl rfl ?_))))))))
          rintro _ _ ⟨rfl, rfl⟩
          refine Ops.mv_tup rfl rfl rfl (Ops.extract rfl rfl rfl (Ops.extract rfl rfl rfl (Ops.mi rfl rfl rfl (Ops.mb rfl rfl rfl (Ops.n (tQ (Cd.region (Ops.ms rfl rfl rfl (Ops.mi rfl rfl rfl ?_)))))))))
          refine Ops.mi rfl rfl rfl (Ops.idx hrow6.2 rfl rfl rfl (by omega) (by omega) (Ops.st_int (3 + m) hS6 hget6 rfl rfl (by omega) ?_))
          intro w7 hS7
          rw [show ((j : Int)).toNat = j by omega, mixI_step hjl, hset6, List.set_set] at hS7
          refine Ops.n (blockQ_n (tQ (Cd.region (Ops.add rfl rfl rfl (by omega) (Ops.mi rfl rfl rfl (Ops.n (tQ ?_)))))))
          exact ⟨j + 1, by show l.length - (j + 1) < l.length - j; omega, ⟨rfl, rfl, rfl, rfl, rfl, rfl, rfl, rfl, rfl, rfl, trivial⟩, by omega, hS7⟩
        · have hjl : j = l.length := by omega
          subst hjl
          rw [show mixI (ix (cvP ss)) l l.length = l.map (ix (cvP ss)) by simp [mixI], hms] at hS6
          refine Cd.exit (thenQ_x (thenQ_x (blockQ_x (blockQ_n (tQ (Cd.region (Ops.add rfl rfl rfl (by omega) (Ops.mi rfl rfl rfl (Ops.n ?_)))))))))
          refine tQ ?_
          exact ⟨m + 1, by show k - (m + 1) < k - m; omega, ⟨rfl, rfl, rfl, rfl, rfl, rfl, trivial⟩, by omega, hS6⟩
      · have hmk : m = ss.length := by omega
        rw [hmk, show mixR (ix (cvP ss)) ss ss.length = ss.map (List.map (ix (cvP ss))) by simp [mixR]] at hS5
        have hS5' : St w w5 (Bx 26 2 A2 [.int .i64 0, .slice none 0 0] :: CkI 2 A4 (cvP ss).length c4 (cvP ss) :: (mat 28 2 A5 k c5 rs5 (ss.map (List.map (ix (cvP ss)))) ++ [])) := hS5
        have hRr := hS5'.tail.tail.rowsI (by rw [List.length_map]; exact hsl)
        refine Cd.exit (thenQ_x (thenQ_x (blockQ_x (tQ (Cd.seq (Cd.region (Ops.ms rfl rfl rfl (Ops.call (sizeI_c _ _ _ _) rfl rfl rfl ?_))))))))
        rintro _ _ ⟨rfl, rfl⟩
        refine Ops.ms rfl rfl rfl ?_
        refine Ops.call (greatestOf_c A5 k c5 rs5 (ss.map (List.map (ix (cvP ss)))) _ (hT.later hS5.below) hRr hn (fun l hl => by obtain ⟨z, hz, rfl⟩ := List.mem_map.1 hl; exact hmono.sa (hvi z hz) (hss z hz)) (fun l hl => by obtain ⟨z, hz, rfl⟩ := List.mem_map.1 hl; rw [List.length_map]; exact h6 z hz) (fun l hl x hx => by obtain ⟨z, hz, rfl⟩ := List.mem_map.1 hl; obtain ⟨y, hy, rfl⟩ := List.mem_map.1 hx; have := ix_rng (hvi z hz y hy); omega)) rfl rfl rfl ?_
        rintro _ w7 ⟨q, A7, c7, rfl, hqn, hqm, hqF, hT7⟩
        rw [hfix] at hqF
        have hql : q.length = (cxF ss).length := by rw [← hqF, List.length_map]
        have hfl2 : (cxF ss).length = (facP ss).length := by simp [cxF]
        have hS7 : St w w7 (CkR 28 A7 q.length c7 (q.map fun i => rs5.getD i slNil) :: Bx 26 2 A2 [.int .i64 0, .slice none 0 0] :: CkI 2 A4 (cvP ss).length c4 (cvP ss) :: (mat 28 2 A5 k c5 rs5 (ss.map (List.map (ix (cvP ss)))) ++ [])) := hS5'.call hT7
        refine Ops.bld2c (by exact inferInstance) (by exact inferInstance) rfl rfl rfl rfl rfl rfl rfl (Ops.new2 hS7 rfl ?_)
        intro A15 w8 hS8
        refine Ops.st_agg 2 0 hS8 rfl rfl rfl rfl rfl rfl rfl ?_
        intro w9 hS9
        have hS9 : St w w9 (Bx 26 2 A15 [.int .i64 ((cvP ss).length : Int), .slice A7 q.length c7] :: CkR 28 A7 q.length c7 (q.map fun i => rs5.getD i slNil) :: Bx 26 2 A2 [.int .i64 0, .slice none 0 0] :: CkI 2 A4 (cvP ss).length c4 (cvP ss) :: (mat 28 2 A5 k c5 rs5 (ss.map (List.map (ix (cvP ss)))) ++ [])) := hS9
        refine Ops.n (tQ (Cd.seq (Cd.seq (Cd.region (Ops.fld (hS9.rd 0 rfl) rfl rfl rfl rfl inferInstance (Ops.ldf_s (hS9.rd 0 rfl) rfl rfl rfl rfl rfl (Ops.len rfl rfl (Ops.gtr rfl rfl rfl (Ops.n ?_)))))))))
        refine tQ ?_
        refine Cd.cond_p _ rfl (fun h4 => ?_) (fun h4 => ?_)
        · have hbad : CxBad ss := .inr (.inr (by omega))
          unfold cxV cxL cxK
          rw [if_pos hbad, if_pos hbad, if_pos hbad]
          refine Cd.seq (Cd.region (Ops.bldZ2 (by exact inferInstance) (by exact inferInstance) rfl rfl rfl (Ops.st_agg 2 2 hS9 rfl rfl rfl rfl rfl rfl rfl ?_)))
          intro w10 hS10
          refine Ops.mi rfl rfl rfl (Ops.n (tQ (Cd.ret (thenQ_r ?_))))
          skip
          refine retc2_r rfl (hS10.rd 2 rfl) rfl ?_
          exact AnsC.none hS10
        · have hok : ¬ CxBad ss := by
            rintro (⟨l, hl, h⟩ | h | h)
            · have := h6 l hl; omega
            · omega
            · omega
          unfold cxV cxL cxK
          rw [if_neg hok, if_neg hok, if_neg hok]
          refine Cd.skip (tQ (Cd.seq (Cd.region (Ops.ld_agg 1 (hS9.rd 0 rfl) rfl rfl rfl (Ops.st_agg 2 2 hS9 rfl rfl rfl rfl rfl rfl rfl ?_)))))
          intro w10 hS10
          have hS10 : St w w10 (Bx 26 2 A15 [.int .i64 ((cvP ss).length : Int), .slice A7 q.length c7] :: CkR 28 A7 q.length c7 (q.map fun i => rs5.getD i slNil) :: Bx 26 2 A2 [.int .i64 ((cvP ss).length : Int), .slice A7 q.length c7] :: CkI 2 A4 (cvP ss).length c4 (cvP ss) :: (mat 28 2 A5 k c5 rs5 (ss.map (List.map (ix (cvP ss)))) ++ [])) := hS10
          have hS11 : St w w10 ([CkR 28 A7 q.length c7 (q.map fun i => rs5.getD i slNil)] ++ rowsCk 2 rs5 (ss.map (List.map (ix (cvP ss))))) := by
            refine hS10.sub (List.Sublist.cons _ (List.Sublist.cons_cons _ (List.Sublist.cons _ (List.Sublist.cons _ ?_))))
            rw [List.append_nil]
            exact List.sublist_cons_self _ _
          have hS12 := hS11.pick (by rw [List.length_map]; omega) hqn (fun i hi => by have := hqm i hi; omega)
          rw [hqF] at hS12
          refine Ops.mi rfl rfl rfl (Ops.n (tQ (Cd.ret ?_)))
          skip
          refine retc2_r rfl (hS10.rd 2 rfl) rfl ?_
          exact ⟨A7, c7, q.map fun i => rs5.getD i slNil, by show _ = Value.tuple #[.agg #[.int .i64 ((cvP ss).length : Int), .slice A7 (cxF ss).length c7], .int .i64 0]; rw [← hql]; rfl, by rw [List.length_map, hql], by rw [List.append_nil, ← hql]; exact hS12⟩
/-
 The test of a complex, walked.
-/
/-
 What the tests of complexes need: plain parts, and short walks.
-/
instance (l : List Int) : Decidable (SA l) := by unfold SA; exact inferInstance
instance (l : List (List Int)) : Decidable (SL l) := by unfold SL; exact inferInstance
instance (V : Int) (F : List (List Int)) : Decidable (Cplx V F) := decidable_of_iff ((0 ≤ V ∧ V ≤ 60) ∧ F.length ≤ 400 ∧ (∀ l ∈ F, (1 ≤ l.length ∧ l.length ≤ 6) ∧ SA l ∧ ∀ x ∈ l, 0 ≤ x ∧ x < V) ∧ SL F ∧ (∀ k, k < V.toNat → ∃ l ∈ F, (k : Int) ∈ l) ∧ ∀ l ∈ F, ∀ m ∈ F, Ins l m → m = l)
 ⟨fun ⟨a, b, c, d, e, f⟩ => ⟨a, b, c, d, fun x h0 h1 => by
  have := e x.toNat (by omega)
  rwa [Int.toNat_of_nonneg h0] at this, f⟩, fun h => ⟨h.v, h.f, h.row, h.ord, fun k hk => h.all k (by omega) (by omega), h.top⟩⟩
/-! marks at the elements of a list -/
def pnt (H : List Bool) (vs : List Int) : List Bool := vs.foldl (fun H v => H.set v.toNat true) H
theorem pnt_snoc (H : List Bool) (vs : List Int) (v : Int) : pnt H (vs ++ [v]) = (pnt H vs).set v.toNat true := by simp [pnt, List.foldl_append]
theorem pnt_len (H : List Bool) : ∀ vs, (pnt H vs).length = H.length := by
 intro vs
 unfold pnt
 induction vs generalizing H with
 | nil => rfl
 | cons a r ih => rw [List.foldl_cons, ih, List.length_set]
theorem pnt_gb (H : List Bool) (vs : List Int) (hv : ∀ v ∈ vs, 0 ≤ v ∧ v < H.length) (x : Int) (h0 : 0 ≤ x) : gb (pnt H vs) x = (gb H x || decide (x ∈ vs)) := by
 unfold pnt
 induction vs generalizing H with
 | nil => simp
 | cons a r ih =>
  have ha := hv a (by simp)
  rw [List.foldl_cons, ih _ (fun v h => by rw [List.length_set]; exact hv v (by simp [h])), gb_set ha.1 ha.2 h0]
  by_cases e : a = x
  ·subst e; simp
  ·have e' : ¬ x = a := fun h => e h.symm
   simp [e, e']
theorem gb_rep (n : Nat) (x : Int) : gb (List.replicate n false) x = false := by
 unfold gb
 rw [List.getD_eq_getElem?_getD, List.getElem?_replicate]
 split <;> rfl
theorem pnt_all {m : Nat} {F : List (List Int)} (h : ∀ l ∈ F, ∀ x ∈ l, 0 ≤ x ∧ x < (m : Int)) (x : Int) (h0 : 0 ≤ x) : gb (pnt (List.replicate m false) F.flatten) x = decide (∃ l ∈ F, x ∈ l) := by
 rw [pnt_gb _ _ (fun v hv => by
  obtain ⟨l, hl, hx⟩ := List.mem_flatten.1 hv
  rw [List.length_replicate]; exact h l hl v hx) x h0, gb_rep, Bool.false_or]
 exact decide_eq_decide.2 (by rw [List.mem_flatten])
/-! the first facets -/
structure PreC (V : Int) (F : List (List Int)) (k : Nat) : Prop where
 row : ∀ l ∈ F.take k, (1 ≤ l.length ∧ l.length ≤ 6) ∧ SA l ∧ ∀ x ∈ l, 0 ≤ x ∧ x < V
 ord : SL (F.take k)
theorem PreC.zero (V : Int) (F : List (List Int)) : PreC V F 0 := ⟨by simp, by simp [SL]⟩
theorem PreC.step {V : Int} {F : List (List Int)} {k : Nat} (h : PreC V F k) (hk : k < F.length) (h1 : (1 ≤ (gl F (k : Int)).length ∧ (gl F (k : Int)).length ≤ 6) ∧ SA (gl F (k : Int)) ∧ ∀ x ∈ gl F (k : Int), 0 ≤ x ∧ x < V) (h2 : k = 0 ∨ LT (gl F ((k : Int) - 1)) (gl F (k : Int))) : PreC V F (k + 1) := by
 refine ⟨?_, ?_⟩
 ·rw [take_succ_gl hk]
  intro l hl
  rcases List.mem_append.1 hl with hl | hl
  ·exact h.row l hl
  ·obtain rfl : l = gl F (k : Int) := by simpa using hl
   exact h1
 ·unfold SL
  rw [take_succ_gl hk, List.pairwise_append]
  refine ⟨h.ord, by simp, fun a ha b hb => ?_⟩
  obtain rfl : b = gl F (k : Int) := by simpa using hb
  rcases h2 with h2 | h2
  ·subst h2; simp at ha
  ·obtain ⟨j, hj, rfl⟩ := List.mem_iff_getElem.1 ha
   have hjk : j < k := by have := hj; simp at this; omega
   by_cases e : j = k - 1
   ·subst e
    have e2 : (k : Int) - 1 = ((k - 1 : Nat) : Int) := by omega
    rw [e2, gl_mem (by omega)] at h2
    simpa using h2
   ·have e2 : (k : Int) - 1 = ((k - 1 : Nat) : Int) := by omega
    rw [e2, gl_mem (by omega)] at h2
    have h3 := List.pairwise_iff_getElem.1 h.ord j (k - 1) hj (by simp; omega) (by omega)
    refine LT.trans h3 ?_
    simpa using h2
theorem Cplx.at_ {V : Int} {F : List (List Int)} (h : Cplx V F) {k : Nat} (hk : k < F.length) : (1 ≤ (gl F (k : Int)).length ∧ (gl F (k : Int)).length ≤ 6) ∧ SA (gl F (k : Int)) ∧ ∀ x ∈ gl F (k : Int), 0 ≤ x ∧ x < V := h.row _ (by rw [gl_mem hk]; exact List.getElem_mem _)
theorem Cplx.lt {V : Int} {F : List (List Int)} (h : Cplx V F) {k : Nat} (h0 : 0 < k) (hk : k < F.length) : LT (gl F ((k : Int) - 1)) (gl F (k : Int)) := by
 rw [show (k : Int) - 1 = ((k - 1 : Nat) : Int) by omega, gl_mem hk, gl_mem (by omega)]
 exact List.pairwise_iff_getElem.1 h.ord (k - 1) k (by omega) hk (by omega)
theorem PreC.all {V : Int} {F : List (List Int)} (h : PreC V F F.length) : (∀ l ∈ F, (1 ≤ l.length ∧ l.length ≤ 6) ∧ SA l ∧ ∀ x ∈ l, 0 ≤ x ∧ x < V) ∧ SL F := by
 have h1 := h.row
 have h2 := h.ord
 rw [List.take_length] at h1 h2
 exact ⟨h1, h2⟩
theorem SA.snoc {l : List Int} {k : Nat} (h : SA (l.take k)) (hk : k < l.length) (h2 : k = 0 ∨ gi l ((k : Int) - 1) < gi l (k : Int)) : SA (l.take (k + 1)) := by
 unfold SA
 rw [take_succ_gi hk, List.pairwise_append]
 refine ⟨h, by simp, fun a ha b hb => ?_⟩
 obtain rfl : b = gi l (k : Int) := by simpa using hb
 rcases h2 with h2 | h2
 ·subst h2; simp at ha
 ·obtain ⟨j, hj, rfl⟩ := List.mem_iff_getElem.1 ha
  have hjk : j < k := by have := hj; simp at this; omega
  rw [show (k : Int) - 1 = ((k - 1 : Nat) : Int) by omega] at h2
  by_cases e : j = k - 1
  ·subst e
   rw [gi_mem (by omega)] at h2
   simpa using h2
  ·have h3 := List.pairwise_iff_getElem.1 h j (k - 1) hj (by simp; omega) (by omega)
   rw [gi_mem (by omega)] at h2
   have h4 : (l.take k)[j] < l[k - 1] := by simpa using h3
   omega
theorem SA.step {l : List Int} (h : SA l) {k : Nat} (h0 : 0 < k) (hk : k < l.length) : gi l ((k : Int) - 1) < gi l (k : Int) := by
 rw [show (k : Int) - 1 = ((k - 1 : Nat) : Int) by omega]
 exact h.lt (by omega) hk
theorem IndexB_c (A : Option Addr) (n c : Nat) (xs : List Bool) (v : Bool) (w : World) (hR : RdB w A n xs) (hn : n ≤ 9223372036854775807) :
  Ret Tryz.prog 101 [.slice A n c, .bool v] w (fun r w' => (∃ i : Int, r = .int .i64 i ∧ (0 ≤ i ↔ v ∈ xs)) ∧ w' = w) := by
 have hxl := hR.1
 refine Ret.of_cd Tryz.func101 rfl Tryz.ntmps101 rfl (post1 rfl) (Cd.seq (Cd.region (Ops.mi rfl rfl rfl (Ops.n (tQ (Cd.seq (Cd.seq (Cd.region (Ops.ms rfl rfl rfl ?_)))))))))
 refine Ops.len rfl rfl (Ops.mi rfl rfl rfl (Ops.n (tQ (Cd.block ?_))))
 refine Cd.loop (α := Nat) (fun k => [(0, .slice A n c), (1, .bool v), (7, .int .i64 (n : Int)), (8, .int .i64 (k : Int))]) (fun k w' => w' = w ∧ k ≤ n ∧ ∀ j : Nat, j < k → gb xs (j : Int) ≠ v) (fun k => n - k) 0 ⟨rfl, rfl, rfl, rfl, trivial⟩ ⟨rfl, Nat.zero_le _, fun j hj => by omega⟩ ?_
 rintro k e w ⟨rfl, hk, hK⟩
 refine Cd.seq (Cd.region (Ops.lss rfl rfl rfl (Ops.n (tQ (Cd.seq ?_)))))
 refine Cd.cond_p _ rfl (fun h3 => ?_) (fun h3 => ?_)
 ·have hg : gb xs (k : Int) = xs[k]'(by omega) := by simp [gb, List.getD_eq_getElem?_getD, show k < xs.length by omega]
  refine Cd.skip (tQ (Cd.seq (Cd.block (Cd.seq (Cd.region (Ops.mi rfl rfl rfl (Ops.mi rfl rfl rfl (Ops.n (tQ ?_)))))))))
  refine Cd.seq (Cd.region (Ops.mb rfl rfl rfl (Ops.ms rfl rfl rfl (Ops.mi rfl rfl rfl (Ops.idx hR.2 rfl rfl rfl (by omega) (by omega) (Ops.ld_bool hR rfl (by omega) rfl rfl (Ops.eqlB rfl rfl rfl (Ops.n (tQ ?_)))))))))
  refine Cd.cond rfl (fun h4 => ?_) (fun h4 => ?_)
  ·refine Cd.seq (Cd.region (Ops.mi rfl rfl rfl (Ops.mi rfl rfl rfl (Ops.n (tQ (Cd.ret (blockQ_r (thenQ_r (thenQ_r ?_)))))))))
   refine blockQ_r (thenQ_r (ret1_i rfl ?_))
   have h4 : v = gb xs (k : Int) := by simpa using h4
   exact ⟨⟨(k : Int), rfl, ⟨fun _ => by rw [h4, hg]; exact List.getElem_mem _, fun _ => by omega⟩⟩, rfl⟩
  ·refine Cd.skip (blockQ_n (tQ (Cd.region (Ops.add rfl rfl rfl (by omega) (Ops.mi rfl rfl rfl (Ops.n (tQ ?_)))))))
   have h4 : ¬ v = gb xs (k : Int) := by simpa using h4
   refine ⟨k + 1, by show n - (k + 1) < n - k; omega, ⟨rfl, rfl, rfl, rfl, trivial⟩, rfl, by omega, fun j hj => ?_⟩
   by_cases ej : j = k
   ·subst ej; exact fun h => h4 h.symm
   ·exact hK j (by omega)
 ·refine Cd.exit (thenQ_x (thenQ_x (blockQ_x (tQ (Cd.seq (Cd.region (Ops.mi rfl rfl rfl (Ops.n (tQ ?_)))))))))
  refine Cd.ret (ret1_i rfl ?_)
  refine ⟨⟨-1, rfl, ⟨fun h => absurd h (by decide), fun h => ?_⟩⟩, rfl⟩
  obtain ⟨j, hj, hjv⟩ := List.mem_iff_getElem.1 h
  exact absurd (by simpa [gb, List.getD_eq_getElem?_getD, hj] using hjv) (hK j (by omega))
theorem ContainsB_c (A : Option Addr) (n c : Nat) (xs : List Bool) (v : Bool) (w : World) (hR : RdB w A n xs) (hn : n ≤ 9223372036854775807) :
  Ret Tryz.prog 62 [.slice A n c, .bool v] w (fun r w' => r = .bool (decide (v ∈ xs)) ∧ w' = w) := by
 refine Ret.of_cd Tryz.func62 rfl Tryz.ntmps62 rfl (post1 rfl) (Cd.seq (Cd.region (Ops.mb rfl rfl rfl (Ops.n (tQ (Cd.seq (Cd.region (Ops.ms rfl rfl rfl (Ops.mb rfl rfl rfl ?_)))))))))
 refine Ops.call (IndexB_c A n c xs v _ hR hn) rfl rfl rfl ?_
 rintro _ w ⟨⟨i, rfl, hi⟩, rfl⟩
 refine Ops.geq rfl rfl rfl (Ops.mb rfl rfl rfl (Ops.n (tQ (Cd.ret (ret1_b rfl ?_)))))
 exact ⟨congrArg Value.bool (decide_eq_decide.2 hi), rfl⟩
theorem l17Within_c (A : Option Addr) (n c : Nat) (a : List Int) (A' : Option Addr) (n' c' : Nat) (b : List Int) (w : World) (hA : RdI w A n a) (hB : RdI w A' n' b) (hn : n ≤ 9223372036854775807) (hn' : n' ≤ 9223372036854775807) :
  Ret Tryz.prog 68 [.slice A n c, .slice A' n' c'] w (fun v w' => v = .bool (decide (Ins a b)) ∧ w' = w) := by
 have hal := hA.1
 refine Ret.of_cd Tryz.func68 rfl Tryz.ntmps68 rfl (post1 rfl) (Cd.seq (Cd.region (Ops.mb rfl rfl rfl (Ops.n (tQ (Cd.seq (Cd.seq (Cd.region (Ops.mi rfl rfl rfl ?_)))))))))
 refine Ops.n (tQ (Cd.block ?_))
 refine Cd.loop (α := Nat) (fun k => [(0, .slice A n c), (1, .slice A' n' c'), (5, .int .i64 (k : Int))]) (fun k w' => w' = w ∧ k ≤ n ∧ Ins (a.take k) b) (fun k => n - k) 0 ⟨rfl, rfl, rfl, trivial⟩ ⟨rfl, Nat.zero_le _, by simp [Ins]⟩ ?_
 rintro k e w ⟨rfl, hk, hP⟩
 refine Cd.seq (Cd.seq (Cd.region (Ops.mi rfl rfl rfl (Ops.ms rfl rfl rfl (Ops.len rfl rfl (Ops.lss rfl rfl rfl (Ops.n (tQ ?_))))))))
 refine Cd.cond_p _ rfl (fun h1 => ?_) (fun h1 => ?_)
 ·have hka : k < a.length := by omega
  have hin : gi a (k : Int) ∈ a := by rw [gi_mem hka]; exact List.getElem_mem _
  refine Cd.skip (tQ (Cd.seq (Cd.block (Cd.seq (Cd.region (Ops.ms rfl rfl rfl (Ops.ms rfl rfl rfl (Ops.mi rfl rfl rfl (Ops.idx hA.2 rfl rfl rfl (by omega) (by omega) ?_)))))))))
  refine Ops.ld_int hA rfl (by omega) rfl rfl ?_
  skip
  refine Ops.call (l01Has_c _ _ _ _ _ _ hB hn') rfl rfl rfl ?_
  rintro _ _ ⟨rfl, rfl⟩
  first | refine Ops.not_p rfl rfl ?_ | refine Ops.not rfl rfl ?_
  refine Ops.n (tQ ?_)
  refine Cd.cond_p _ rfl (fun h2 => ?_) (fun h2 => ?_)
  ·refine Cd.seq (Cd.region (Ops.mb rfl rfl rfl (Ops.n (tQ (Cd.ret (blockQ_r (thenQ_r (thenQ_r (blockQ_r ?_)))))))))
   refine thenQ_r (ret1_b rfl ?_)
   exact ⟨by rw [decide_eq_false (fun h : Ins a b => h2 (h _ hin))], rfl⟩
  ·refine Cd.skip (blockQ_n (tQ (Cd.region (Ops.mi rfl rfl rfl (Ops.add rfl rfl rfl (by omega) (Ops.mi rfl rfl rfl (Ops.n (tQ ?_))))))))
   refine ⟨k + 1, by show n - (k + 1) < n - k; omega, ⟨rfl, rfl, rfl, trivial⟩, rfl, by omega, ?_⟩
   rw [take_succ_gi hka]
   intro x hx
   rcases List.mem_append.1 hx with hx | hx
   ·exact hP x hx
   ·obtain rfl : x = gi a (k : Int) := by simpa using hx
    exact Classical.not_not.1 h2
 ·refine Cd.exit (thenQ_x (thenQ_x (blockQ_x (tQ (Cd.seq (Cd.region (Ops.mb rfl rfl rfl (Ops.n (tQ ?_)))))))))
  refine Cd.ret (ret1_b rfl ?_)
  rw [List.take_of_length_le (by omega)] at hP
  exact ⟨by rw [decide_eq_true hP], rfl⟩
def Rise (most : Int) (l : List Int) : Prop := SA l ∧ ∀ x ∈ l, 0 ≤ x ∧ x ≤ most
instance (most : Int) (l : List Int) : Decidable (Rise most l) := by unfold Rise; exact inferInstance
theorem l17Rises_c (A : Option Addr) (n c : Nat) (xs : List Int) (most : Int) (w : World) (hR : RdI w A n xs) (hn : n ≤ 9223372036854775807) :
  Ret Tryz.prog 66 [.slice A n c, .int .i64 most] w (fun v w' => v = .bool (decide (Rise most xs)) ∧ St w w' []) := by
 have hxl := hR.1
 refine Ret.of_cd Tryz.func66 rfl Tryz.ntmps66 rfl (post1 rfl) (Cd.seq (Cd.region (Ops.mb rfl rfl rfl (Ops.n (tQ (Cd.seq (Cd.seq (Cd.region (Ops.mi rfl rfl rfl ?_)))))))))
 refine Ops.n (tQ (Cd.block ?_))
 refine Cd.loop (α := Nat) (fun k => [(0, .slice A n c), (1, .int .i64 most), (5, .int .i64 (k : Int))]) (fun k w' => St w w' [] ∧ k ≤ n ∧ Rise most (xs.take k)) (fun k => n - k) 0 ⟨rfl, rfl, rfl, trivial⟩ ⟨St.refl w, Nat.zero_le _, by simp [Rise, SA]⟩ ?_
 rintro k e w1 ⟨hS, hk, hP⟩
 have hR1 := hS.oldI hR
 refine Cd.seq (Cd.seq (Cd.region (Ops.mi rfl rfl rfl (Ops.ms rfl rfl rfl (Ops.len rfl rfl (Ops.lss rfl rfl rfl (Ops.n (tQ ?_))))))))
 refine Cd.cond_p _ rfl (fun h1 => ?_) (fun h1 => ?_)
 ·have hka : k < xs.length := by omega
  have hin : gi xs (k : Int) ∈ xs := by rw [gi_mem hka]; exact List.getElem_mem _
  have hnext : (0 ≤ gi xs (k : Int) ∧ gi xs (k : Int) ≤ most) → (k = 0 ∨ gi xs ((k : Int) - 1) < gi xs (k : Int)) → Rise most (xs.take (k + 1)) := fun h2 h3 => ⟨hP.1.snoc hka h3, fun x hx => by
   rw [take_succ_gi hka] at hx
   rcases List.mem_append.1 hx with hx | hx
   ·exact hP.2 x hx
   ·obtain rfl : x = gi xs (k : Int) := by simpa using hx
    exact h2⟩
  refine Cd.skip (tQ (Cd.seq (Cd.block (Cd.seq ?_))))
  by_cases h2 : 0 ≤ gi xs (k : Int) ∧ gi xs (k : Int) ≤ most
  ·by_cases h3 : 0 < (k : Int)
   ·by_cases h4 : gi xs (k : Int) ≤ gi xs ((k : Int) - 1)
    ·--dup 4
     refine Cd.draw [.ex (.slice (A) (n) (c)), .ex (.int .i64 ((k : Int))), .ex (.pointer (ptrAt (A) ((k : Int)).toNat)), .ex (.int .i64 (gi (xs) ((k : Int)))), .ex (.int .i64 (most)), .ex (.bool (decide (0 ≤ gi xs (k : Int) ∧ gi xs (k : Int) ≤ most))), .ex (.bool (decide (¬ (0 ≤ gi xs (k : Int) ∧ gi xs (k : Int) ≤ most)))), .ex (.bool (false)), .ex (.int .i64 ((k : Int))), .ex (.bool (decide (((0 : Int)) < ((k : Int))))), .ex (.bool (true)), .ex (.slice (A) (n) (c)), .ex (.int .i64 ((k : Int))), .ex (.pointer (ptrAt (A) ((k : Int)).toNat)), .ex (.int .i64 (gi (xs) ((k : Int)))), .ex (.slice (A) (n) (c)), .ex (.int .i64 ((k : Int))), .ex (.int .i64 (((k : Int)) - ((1 : Int)))), .ex (.pointer (ptrAt (A) (((k : Int)) - ((1 : Int))).toNat)), .ex (.int .i64 (gi (xs) (((k : Int)) - ((1 : Int))))), .ex (.bool (decide ((gi (xs) ((k : Int))) ≤ (gi (xs) (((k : Int)) - ((1 : Int))))))), .ex (.bool (decide ((gi (xs) ((k : Int))) ≤ (gi (xs) (((k : Int)) - ((1 : Int))))))), .ex (.bool (true))] (by kernel_rfl) (by kernel_rfl) rfl (lx (lx (lx (lx (lx (lx (lx (lx (lx (lx (lx (lx (lx (lx (lx (lx (lx (lx (lx (lx (lx (lx (lx (fun _ h => by cases h)))))))))))))))))))))))) ⟨?_, ?_, ?_, ?_, ?_, ?_, ?_, ?_, ?_, ?_, ?_, ?_, ?_, ?_, ?_, ?_, ?_, ?_, ?_, ?_, ?_, ?_, ?_, trivial⟩ ?_
     ·intro e1 w1 hb hp hun; refine Ops.ms rfl rfl rfl (Ops.n (d0 (by exact rfl)))
     ·intro e1 w1 hb hp hun; refine Ops.mi rfl rfl rfl (Ops.n (d0 (by exact rfl)))
     ·intro e1 w1 hb hp hun; refine Ops.idx (hR1.later hb).2 rfl rfl rfl (by omega) (by omega) (Ops.n (d0 (by exact rfl)))
     ·intro e1 w1 hb hp hun; refine Ops.ld_int (hR1.later hb) rfl (by omega) rfl rfl (Ops.n (d0 (by exact rfl)))
     ·intro e1 w1 hb hp hun; refine Ops.mi rfl rfl rfl (Ops.n (d0 (by exact rfl)))
     ·intro e1 w1 hb hp hun; refine Ops.call (l01In_c _ _ _ _) rfl rfl rfl ?_
      rintro _ w2 ⟨rfl, hst⟩
      subst hst
      refine Ops.n (d0 (by exact rfl))
     ·intro e1 w1 hb hp hun; refine Ops.not_p rfl rfl (Ops.n (d0 (by exact rfl)))
     ·intro e1 w1 hb hp hun; refine Ops.mb rfl rfl rfl (Ops.n ?_)
      exact d0 (by exact congrArg Value.bool (decide_eq_false (fun h => h h2)))
     ·intro e1 w1 hb hp hun; refine Ops.g rfl rfl rfl (Ops.mi rfl rfl rfl (Ops.n (d0 (by exact rfl))))
     ·intro e1 w1 hb hp hun; refine Ops.g rfl rfl rfl (Ops.gtr rfl rfl rfl (Ops.n (d0 (by exact rfl))))
     ·intro e1 w1 hb hp hun; refine Ops.g rfl rfl rfl (Ops.mb rfl rfl rfl (Ops.n ?_))
      exact d0 (by exact congrArg Value.bool (decide_eq_true h3))
     ·intro e1 w1 hb hp hun; refine Ops.g rfl rfl rfl (Ops.ms rfl rfl rfl (Ops.n (d0 (by exact rfl))))
     ·intro e1 w1 hb hp hun; refine Ops.g rfl rfl rfl (Ops.mi rfl rfl rfl (Ops.n (d0 (by exact rfl))))
     ·intro e1 w1 hb hp hun; refine Ops.g rfl rfl rfl (Ops.idx (hR1.later hb).2 rfl rfl rfl (by omega) (by omega) (Ops.n (d0 (by exact rfl))))
     ·intro e1 w1 hb hp hun; refine Ops.g rfl rfl rfl (Ops.ld_int (hR1.later hb) rfl (by omega) rfl rfl (Ops.n (d0 (by exact rfl))))
     ·intro e1 w1 hb hp hun; refine Ops.g rfl rfl rfl (Ops.ms rfl rfl rfl (Ops.n (d0 (by exact rfl))))
     ·intro e1 w1 hb hp hun; refine Ops.g rfl rfl rfl (Ops.mi rfl rfl rfl (Ops.n (d0 (by exact rfl))))
     ·intro e1 w1 hb hp hun; refine Ops.g rfl rfl rfl (Ops.sub rfl rfl rfl (by omega) (Ops.n (d0 (by exact rfl))))
     ·intro e1 w1 hb hp hun; refine Ops.g rfl rfl rfl (Ops.idx (hR1.later hb).2 rfl rfl rfl (by omega) (by omega) (Ops.n (d0 (by exact rfl))))
     ·intro e1 w1 hb hp hun; refine Ops.g rfl rfl rfl (Ops.ld_int (hR1.later hb) rfl (by omega) rfl rfl (Ops.n (d0 (by exact rfl))))
     ·intro e1 w1 hb hp hun; refine Ops.g rfl rfl rfl (Ops.leq rfl rfl rfl (Ops.n (d0 (by exact rfl))))
     ·intro e1 w1 hb hp hun; refine Ops.g rfl rfl rfl (Ops.pick_t rfl rfl rfl (Ops.n (d0 (by exact rfl))))
     ·intro e1 w1 hb hp hun; refine Ops.pick_f rfl rfl rfl (Ops.n ?_)
      exact d0 (by exact congrArg Value.bool (decide_eq_true h4))
     intro u w2 hb _
     refine tQ (Cd.cond_t rfl (Cd.seq (Cd.region (Ops.mb rfl rfl rfl (Ops.n (tQ (Cd.ret (blockQ_r (thenQ_r ?_)))))))))
     refine thenQ_r (blockQ_r (thenQ_r (ret1_b rfl ?_)))
     exact ⟨by rw [decide_eq_false (fun h : Rise most xs => by have := h.1.step (by omega) hka; omega)], hS.later hb⟩
    ·refine Cd.draw [.ex (.slice (A) (n) (c)), .ex (.int .i64 ((k : Int))), .ex (.pointer (ptrAt (A) ((k : Int)).toNat)), .ex (.int .i64 (gi (xs) ((k : Int)))), .ex (.int .i64 (most)), .ex (.bool (decide (0 ≤ gi xs (k : Int) ∧ gi xs (k : Int) ≤ most))), .ex (.bool (decide (¬ (0 ≤ gi xs (k : Int) ∧ gi xs (k : Int) ≤ most)))), .ex (.bool (false)), .ex (.int .i64 ((k : Int))), .ex (.bool (decide (((0 : Int)) < ((k : Int))))), .ex (.bool (true)), .ex (.slice (A) (n) (c)), .ex (.int .i64 ((k : Int))), .ex (.pointer (ptrAt (A) ((k : Int)).toNat)), .ex (.int .i64 (gi (xs) ((k : Int)))), .ex (.slice (A) (n) (c)), .ex (.int .i64 ((k : Int))), .ex (.int .i64 (((k : Int)) - ((1 : Int)))), .ex (.pointer (ptrAt (A) (((k : Int)) - ((1 : Int))).toNat)), .ex (.int .i64 (gi (xs) (((k : Int)) - ((1 : Int))))), .ex (.bool (decide ((gi (xs) ((k : Int))) ≤ (gi (xs) (((k : Int)) - ((1 : Int))))))), .ex (.bool (decide ((gi (xs) ((k : Int))) ≤ (gi (xs) (((k : Int)) - ((1 : Int))))))), .ex (.bool (false))] (by kernel_rfl) (by kernel_rfl) rfl (lx (lx (lx (lx (lx (lx (lx (lx (lx (lx (lx (lx (lx (lx (lx (lx (lx (lx (lx (lx (lx (lx (lx (fun _ h => by cases h)))))))))))))))))))))))) ⟨?_, ?_, ?_, ?_, ?_, ?_, ?_, ?_, ?_, ?_, ?_, ?_, ?_, ?_, ?_, ?_, ?_, ?_, ?_, ?_, ?_, ?_, ?_, trivial⟩ ?_
     ·intro e1 w1 hb hp hun; refine Ops.ms rfl rfl rfl (Ops.n (d0 (by exact rfl)))
     ·intro e1 w1 hb hp hun; refine Ops.mi rfl rfl rfl (Ops.n (d0 (by exact rfl)))
     ·intro e1 w1 hb hp hun; refine Ops.idx (hR1.later hb).2 rfl rfl rfl (by omega) (by omega) (Ops.n (d0 (by exact rfl)))
     ·intro e1 w1 hb hp hun; refine Ops.ld_int (hR1.later hb) rfl (by omega) rfl rfl (Ops.n (d0 (by exact rfl)))
     ·intro e1 w1 hb hp hun; refine Ops.mi rfl rfl rfl (Ops.n (d0 (by exact rfl)))
     ·intro e1 w1 hb hp hun; refine Ops.call (l01In_c _ _ _ _) rfl rfl rfl ?_
      rintro _ w2 ⟨rfl, hst⟩
      subst hst
      refine Ops.n (d0 (by exact rfl))
     ·intro e1 w1 hb hp hun; refine Ops.not_p rfl rfl (Ops.n (d0 (by exact rfl)))
     ·intro e1 w1 hb hp hun; refine Ops.mb rfl rfl rfl (Ops.n ?_)
      exact d0 (by exact congrArg Value.bool (decide_eq_false (fun h => h h2)))
     ·intro e1 w1 hb hp hun; refine Ops.g rfl rfl rfl (Ops.mi rfl rfl rfl (Ops.n (d0 (by exact rfl))))
     ·intro e1 w1 hb hp hun; refine Ops.g rfl rfl rfl (Ops.gtr rfl rfl rfl (Ops.n (d0 (by exact rfl))))
     ·intro e1 w1 hb hp hun; refine Ops.g rfl rfl rfl (Ops.mb rfl rfl rfl (Ops.n ?_))
      exact d0 (by exact congrArg Value.bool (decide_eq_true h3))
     ·intro e1 w1 hb hp hun; refine Ops.g rfl rfl rfl (Ops.ms rfl rfl rfl (Ops.n (d0 (by exact rfl))))
     ·intro e1 w1 hb hp hun; refine Ops.g rfl rfl rfl (Ops.mi rfl rfl rfl (Ops.n (d0 (by exact rfl))))
     ·intro e1 w1 hb hp hun; refine Ops.g rfl rfl rfl (Ops.idx (hR1.later hb).2 rfl rfl rfl (by omega) (by omega) (Ops.n (d0 (by exact rfl))))
     ·intro e1 w1 hb hp hun; refine Ops.g rfl rfl rfl (Ops.ld_int (hR1.later hb) rfl (by omega) rfl rfl (Ops.n (d0 (by exact rfl))))
     ·intro e1 w1 hb hp hun; refine Ops.g rfl rfl rfl (Ops.ms rfl rfl rfl (Ops.n (d0 (by exact rfl))))
     ·intro e1 w1 hb hp hun; refine Ops.g rfl rfl rfl (Ops.mi rfl rfl rfl (Ops.n (d0 (by exact rfl))))
     ·intro e1 w1 hb hp hun; refine Ops.g rfl rfl rfl (Ops.sub rfl rfl rfl (by omega) (Ops.n (d0 (by exact rfl))))
     ·intro e1 w1 hb hp hun; refine Ops.g rfl rfl rfl (Ops.idx (hR1.later hb).2 rfl rfl rfl (by omega) (by omega) (Ops.n (d0 (by exact rfl))))
     ·intro e1 w1 hb hp hun; refine Ops.g rfl rfl rfl (Ops.ld_int (hR1.later hb) rfl (by omega) rfl rfl (Ops.n (d0 (by exact rfl))))
     ·intro e1 w1 hb hp hun; refine Ops.g rfl rfl rfl (Ops.leq rfl rfl rfl (Ops.n (d0 (by exact rfl))))
     ·intro e1 w1 hb hp hun; refine Ops.g rfl rfl rfl (Ops.pick_t rfl rfl rfl (Ops.n (d0 (by exact rfl))))
     ·intro e1 w1 hb hp hun; refine Ops.pick_f rfl rfl rfl (Ops.n ?_)
      exact d0 (by exact congrArg Value.bool (decide_eq_false h4))
     intro u w2 hb _
     refine tQ (Cd.cond_f rfl (Cd.skip (blockQ_n (tQ (Cd.region (Ops.mi rfl rfl rfl (Ops.add rfl rfl rfl (by omega) (Ops.mi rfl rfl rfl (Ops.n ?_)))))))))
     refine tQ ?_
     exact ⟨k + 1, by show n - (k + 1) < n - k; omega, ⟨rfl, rfl, rfl, trivial⟩, hS.later hb, by omega, hnext h2 (.inr (by omega))⟩
   ·refine Cd.draw [.ex (.slice (A) (n) (c)), .ex (.int .i64 ((k : Int))), .ex (.pointer (ptrAt (A) ((k : Int)).toNat)), .ex (.int .i64 (gi (xs) ((k : Int)))), .ex (.int .i64 (most)), .ex (.bool (decide (0 ≤ gi xs (k : Int) ∧ gi xs (k : Int) ≤ most))), .ex (.bool (decide (¬ (0 ≤ gi xs (k : Int) ∧ gi xs (k : Int) ≤ most)))), .ex (.bool (false)), .ex (.int .i64 ((k : Int))), .ex (.bool (decide (((0 : Int)) < ((k : Int))))), .ex (.bool (false)), .ex (undef), .ex (undef), .ex (undef), .ex (undef), .ex (undef), .ex (undef), .ex (undef), .ex (undef), .ex (undef), .ex (undef), .ex (.bool (false)), .ex (.bool (false))] (by kernel_rfl) (by kernel_rfl) rfl (lx (lx (lx (lx (lx (lx (lx (lx (lx (lx (lx (lx (lx (lx (lx (lx (lx (lx (lx (lx (lx (lx (lx (fun _ h => by cases h)))))))))))))))))))))))) ⟨?_, ?_, ?_, ?_, ?_, ?_, ?_, ?_, ?_, ?_, ?_, ?_, ?_, ?_, ?_, ?_, ?_, ?_, ?_, ?_, ?_, ?_, ?_, trivial⟩ ?_
    ·intro e1 w1 hb hp hun; refine Ops.ms rfl rfl rfl (Ops.n (d0 (by exact rfl)))
    ·intro e1 w1 hb hp hun; refine Ops.mi rfl rfl rfl (Ops.n (d0 (by exact rfl)))
    ·intro e1 w1 hb hp hun; refine Ops.idx (hR1.later hb).2 rfl rfl rfl (by omega) (by omega) (Ops.n (d0 (by exact rfl)))
    ·intro e1 w1 hb hp hun; refine Ops.ld_int (hR1.later hb) rfl (by omega) rfl rfl (Ops.n (d0 (by exact rfl)))
    ·intro e1 w1 hb hp hun; refine Ops.mi rfl rfl rfl (Ops.n (d0 (by exact rfl)))
    ·intro e1 w1 hb hp hun; refine Ops.call (l01In_c _ _ _ _) rfl rfl rfl ?_
     rintro _ w2 ⟨rfl, hst⟩
     subst hst
     refine Ops.n (d0 (by exact rfl))
    ·intro e1 w1 hb hp hun; refine Ops.not_p rfl rfl (Ops.n (d0 (by exact rfl)))
    ·intro e1 w1 hb hp hun; refine Ops.mb rfl rfl rfl (Ops.n ?_)
     exact d0 (by exact congrArg Value.bool (decide_eq_false (fun h => h h2)))
    ·intro e1 w1 hb hp hun; refine Ops.g rfl rfl rfl (Ops.mi rfl rfl rfl (Ops.n (d0 (by exact rfl))))
    ·intro e1 w1 hb hp hun; refine Ops.g rfl rfl rfl (Ops.gtr rfl rfl rfl (Ops.n (d0 (by exact rfl))))
    ·intro e1 w1 hb hp hun; refine Ops.g rfl rfl rfl (Ops.mb rfl rfl rfl (Ops.n ?_))
     exact d0 (by exact congrArg Value.bool (decide_eq_false h3))
    ·intro e1 w1 hb hp hun; refine Ops.k rfl rfl rfl rfl rfl (Ops.n (d0 (by exact rfl)))
    ·intro e1 w1 hb hp hun; refine Ops.k rfl rfl rfl rfl rfl (Ops.n (d0 (by exact rfl)))
    ·intro e1 w1 hb hp hun; refine Ops.k rfl rfl rfl rfl rfl (Ops.n (d0 (by exact rfl)))
    ·intro e1 w1 hb hp hun; refine Ops.k rfl rfl rfl rfl rfl (Ops.n (d0 (by exact rfl)))
    ·intro e1 w1 hb hp hun; refine Ops.k rfl rfl rfl rfl rfl (Ops.n (d0 (by exact rfl)))
    ·intro e1 w1 hb hp hun; refine Ops.k rfl rfl rfl rfl rfl (Ops.n (d0 (by exact rfl)))
    ·intro e1 w1 hb hp hun; refine Ops.k rfl rfl rfl rfl rfl (Ops.n (d0 (by exact rfl)))
    ·intro e1 w1 hb hp hun; refine Ops.k rfl rfl rfl rfl rfl (Ops.n (d0 (by exact rfl)))
    ·intro e1 w1 hb hp hun; refine Ops.k rfl rfl rfl rfl rfl (Ops.n (d0 (by exact rfl)))
    ·intro e1 w1 hb hp hun; refine Ops.k rfl rfl rfl rfl rfl (Ops.n (d0 (by exact rfl)))
    ·intro e1 w1 hb hp hun; refine Ops.g rfl rfl rfl (Ops.pick_f rfl rfl rfl (Ops.n (d0 (by exact rfl))))
    ·intro e1 w1 hb hp hun; refine Ops.pick_f rfl rfl rfl (Ops.n (d0 (by exact rfl)))
    intro u w2 hb _
    refine tQ (Cd.cond_f rfl (Cd.skip (blockQ_n (tQ (Cd.region (Ops.mi rfl rfl rfl (Ops.add rfl rfl rfl (by omega) (Ops.mi rfl rfl rfl (Ops.n ?_)))))))))
    refine tQ ?_
    exact ⟨k + 1, by show n - (k + 1) < n - k; omega, ⟨rfl, rfl, rfl, trivial⟩, hS.later hb, by omega, hnext h2 (.inl (by omega))⟩
  ·refine Cd.draw [.ex (.slice (A) (n) (c)), .ex (.int .i64 ((k : Int))), .ex (.pointer (ptrAt (A) ((k : Int)).toNat)), .ex (.int .i64 (gi (xs) ((k : Int)))), .ex (.int .i64 (most)), .ex (.bool (decide (0 ≤ gi xs (k : Int) ∧ gi xs (k : Int) ≤ most))), .ex (.bool (decide (¬ (0 ≤ gi xs (k : Int) ∧ gi xs (k : Int) ≤ most)))), .ex (.bool (true)), .ex (undef), .ex (undef), .ex (undef), .ex (undef), .ex (undef), .ex (undef), .ex (undef), .ex (undef), .ex (undef), .ex (undef), .ex (undef), .ex (undef), .ex (undef), .ex (undef), .ex (.bool (true))] (by kernel_rfl) (by kernel_rfl) rfl (lx (lx (lx (lx (lx (lx (lx (lx (lx (lx (lx (lx (lx (lx (lx (lx (lx (lx (lx (lx (lx (lx (lx (fun _ h => by cases h)))))))))))))))))))))))) ⟨?_, ?_, ?_, ?_, ?_, ?_, ?_, ?_, ?_, ?_, ?_, ?_, ?_, ?_, ?_, ?_, ?_, ?_, ?_, ?_, ?_, ?_, ?_, trivial⟩ ?_
   ·intro e1 w1 hb hp hun; refine Ops.ms rfl rfl rfl (Ops.n (d0 (by exact rfl)))
   ·intro e1 w1 hb hp hun; refine Ops.mi rfl rfl rfl (Ops.n (d0 (by exact rfl)))
   ·intro e1 w1 hb hp hun; refine Ops.idx (hR1.later hb).2 rfl rfl rfl (by omega) (by omega) (Ops.n (d0 (by exact rfl)))
   ·intro e1 w1 hb hp hun; refine Ops.ld_int (hR1.later hb) rfl (by omega) rfl rfl (Ops.n (d0 (by exact rfl)))
   ·intro e1 w1 hb hp hun; refine Ops.mi rfl rfl rfl (Ops.n (d0 (by exact rfl)))
   ·intro e1 w1 hb hp hun; refine Ops.call (l01In_c _ _ _ _) rfl rfl rfl ?_
    rintro _ w2 ⟨rfl, hst⟩
    subst hst
    refine Ops.n (d0 (by exact rfl))
   ·intro e1 w1 hb hp hun; refine Ops.not_p rfl rfl (Ops.n (d0 (by exact rfl)))
   ·intro e1 w1 hb hp hun; refine Ops.mb rfl rfl rfl (Ops.n ?_)
    exact d0 (by exact congrArg Value.bool (decide_eq_true h2))
   ·intro e1 w1 hb hp hun; refine Ops.k rfl rfl rfl rfl rfl (Ops.n (d0 (by exact rfl)))
   ·intro e1 w1 hb hp hun; refine Ops.k rfl rfl rfl rfl rfl (Ops.n (d0 (by exact rfl)))
   ·intro e1 w1 hb hp hun; refine Ops.k rfl rfl rfl rfl rfl (Ops.n (d0 (by exact rfl)))
   ·intro e1 w1 hb hp hun; refine Ops.skipu rfl rfl rfl rfl (Ops.n (d0 (by exact rfl)))
   ·intro e1 w1 hb hp hun; refine Ops.skipu rfl rfl rfl rfl (Ops.n (d0 (by exact rfl)))
   ·intro e1 w1 hb hp hun; refine Ops.skipu rfl rfl rfl rfl (Ops.n (d0 (by exact rfl)))
   ·intro e1 w1 hb hp hun; refine Ops.skipu rfl rfl rfl rfl (Ops.n (d0 (by exact rfl)))
   ·intro e1 w1 hb hp hun; refine Ops.skipu rfl rfl rfl rfl (Ops.n (d0 (by exact rfl)))
   ·intro e1 w1 hb hp hun; refine Ops.skipu rfl rfl rfl rfl (Ops.n (d0 (by exact rfl)))
   ·intro e1 w1 hb hp hun; refine Ops.skipu rfl rfl rfl rfl (Ops.n (d0 (by exact rfl)))
   ·intro e1 w1 hb hp hun; refine Ops.skipu rfl rfl rfl rfl (Ops.n (d0 (by exact rfl)))
   ·intro e1 w1 hb hp hun; refine Ops.skipu rfl rfl rfl rfl (Ops.n (d0 (by exact rfl)))
   ·intro e1 w1 hb hp hun; refine Ops.skipu rfl rfl rfl rfl (Ops.n (d0 (by exact rfl)))
   ·intro e1 w1 hb hp hun; refine Ops.k rfl rfl rfl rfl rfl (Ops.n (d0 (by exact rfl)))
   ·intro e1 w1 hb hp hun; refine Ops.pick_t rfl rfl rfl (Ops.n (d0 (by exact rfl)))
   intro u w2 hb _
   refine tQ (Cd.cond_t rfl (Cd.seq (Cd.region (Ops.mb rfl rfl rfl (Ops.n (tQ (Cd.ret (blockQ_r (thenQ_r ?_)))))))))
   refine thenQ_r (blockQ_r (thenQ_r (ret1_b rfl ?_)))
   exact ⟨by rw [decide_eq_false (fun h : Rise most xs => h2 (h.2 _ hin))], hS.later hb⟩
 ·refine Cd.exit (thenQ_x (thenQ_x (blockQ_x (tQ (Cd.seq (Cd.region (Ops.mb rfl rfl rfl (Ops.n (tQ ?_)))))))))
  refine Cd.ret (ret1_b rfl ?_)
  rw [List.take_of_length_le (by omega)] at hP
  exact ⟨by rw [decide_eq_true hP], hS⟩
/-
 A list put into ascending lists, walked.
-/
theorem RdR.drop {w : World} {A : Option Addr} {n c l : Nat} {xs : List SlV} (hR : RdR w A n xs) (hl : l ≤ n) (hc : n ≤ c) : RdR w (cutAt A c l) (n - l) (xs.drop l) := by
 have h := hR.cut hl (Nat.le_refl n) hc
 rwa [List.take_of_length_le (by rw [List.length_drop, hR.1]; exact Nat.le_refl _)] at h
theorem RdR.take {w : World} {A : Option Addr} {n l : Nat} {xs : List SlV} (hR : RdR w A n xs) (hl : l ≤ n) : RdR w A l (xs.take l) :=
 ⟨by rw [List.length_take, hR.1]; omega, fun k hk => by
  obtain ⟨p, hp, hc⟩ := hR.2 k (by omega)
  refine ⟨p, hp, ?_⟩
  rw [hc]
  simp [List.getD_eq_getElem?_getD, List.getElem?_take, hk]⟩
theorem l01IndexX_c (A : Option Addr) (n c : Nat) (xs : List Int) (v : Int) (w : World) (hR : RdI w A n xs) (hn : n ≤ 9223372036854775807) (hs : SA xs) (hv : v ∈ xs) :
  Ret Tryz.prog 84 [.slice A n c, .int .i64 v] w (fun r w' => r = .int .i64 (ix xs v) ∧ w' = w) := by
 have hxl := hR.1
 refine Ret.of_cd Tryz.func84 rfl Tryz.ntmps84 rfl (post1 rfl) (Cd.seq (Cd.region (Ops.mi rfl rfl rfl (Ops.n (tQ (Cd.seq (Cd.seq (Cd.region (Ops.mi rfl rfl rfl ?_)))))))))
 refine Ops.n (tQ (Cd.block ?_))
 refine Cd.loop (α := Nat) (fun k => [(0, .slice A n c), (1, .int .i64 v), (5, .int .i64 (k : Int))]) (fun k w' => w' = w ∧ k ≤ n ∧ ∀ j, j < k → gi xs (j : Nat) ≠ v) (fun k => n - k) 0 ⟨rfl, rfl, rfl, trivial⟩ ⟨rfl, Nat.zero_le _, fun j hj => by omega⟩ ?_
 rintro k e w ⟨rfl, hk, hK⟩
 refine Cd.seq (Cd.seq (Cd.region (Ops.mi rfl rfl rfl (Ops.ms rfl rfl rfl (Ops.len rfl rfl (Ops.lss rfl rfl rfl (Ops.n (tQ ?_))))))))
 refine Cd.cond_p _ rfl (fun h3 => ?_) (fun h3 => ?_)
 ·refine Cd.skip (tQ (Cd.seq (Cd.block (Cd.seq (Cd.region (Ops.ms rfl rfl rfl (Ops.mi rfl rfl rfl (Ops.idx hR.2 rfl rfl rfl (by omega) (by omega) (Ops.ld_int hR rfl (by omega) rfl rfl ?_)))))))))
  refine Ops.mi rfl rfl rfl (Ops.eql rfl rfl rfl (Ops.n (tQ ?_)))
  refine Cd.cond_p _ rfl (fun h4 => ?_) (fun h4 => ?_)
  ·refine Cd.seq (Cd.region (Ops.mi rfl rfl rfl (Ops.mi rfl rfl rfl (Ops.n (tQ (Cd.ret (blockQ_r (thenQ_r (thenQ_r ?_)))))))))
   refine blockQ_r (thenQ_r (ret1_i rfl ?_))
   exact ⟨by rw [← h4, ix_of hs (by omega)], rfl⟩
  ·refine Cd.skip (blockQ_n (tQ (Cd.region (Ops.mi rfl rfl rfl (Ops.add rfl rfl rfl (by omega) (Ops.mi rfl rfl rfl (Ops.n (tQ ?_))))))))
   refine ⟨k + 1, by show n - (k + 1) < n - k; omega, ⟨rfl, rfl, rfl, trivial⟩, rfl, by omega, fun j hj => ?_⟩
   by_cases ej : j = k
   ·subst ej; exact h4
   ·exact hK j (by omega)
 ·obtain ⟨j, hj, hjv⟩ := List.mem_iff_getElem.1 hv
  exact absurd (by rw [gi_mem hj]; exact hjv) (hK j (by omega))
def putR (rs : List SlV) (xss : List (List Int)) (s : SlV) (x : List Int) : List SlV := if x ∈ xss then rs else rs.take (atL x xss) ++ s :: rs.drop (atL x xss)
theorem RowsW.putL {w : World} {n : Nat} {rs : List SlV} {xss : List (List Int)} (h : RowsW w n rs xss) {s : SlV} {x : List Int} (hs : RdI w s.a s.n x) (hc : s.n ≤ s.c ∧ s.c ≤ maxLen) : RowsW w (putL xss x).length (putR rs xss s x) (putL xss x) := by
 have hrl := h.rl
 have hxl := h.len
 have hle := atL_le x xss
 unfold Vc.putL putR
 split
 ·rw [hxl]; exact h
 ·have get : ∀ j, (rs.take (atL x xss) ++ s :: rs.drop (atL x xss)).getD j slNil = (if j < atL x xss then rs.getD j slNil else if j = atL x xss then s else rs.getD (j - 1) slNil) ∧ (xss.take (atL x xss) ++ x :: xss.drop (atL x xss)).getD j [] = (if j < atL x xss then xss.getD j [] else if j = atL x xss then x else xss.getD (j - 1) []) := fun j => by
   have h1 : (rs.take (atL x xss)).length = atL x xss := by rw [List.length_take]; omega
   have h2 : (xss.take (atL x xss)).length = atL x xss := by rw [List.length_take]; omega
   simp only [List.getD_eq_getElem?_getD, List.getElem?_append, h1, h2]
   by_cases e : j < atL x xss
   ·simp [e, List.getElem?_take]
   ·rw [if_neg e, if_neg e, if_neg e, if_neg e]
    by_cases e2 : j = atL x xss
    ·subst e2; simp
    ·rw [if_neg e2, if_neg e2, show j - atL x xss = (j - 1 - atL x xss) + 1 by omega, List.getElem?_cons_succ, List.getElem?_cons_succ, List.getElem?_drop, List.getElem?_drop, show atL x xss + (j - 1 - atL x xss) = j - 1 by omega]
     exact ⟨rfl, rfl⟩
  have hlen : (xss.take (atL x xss) ++ x :: xss.drop (atL x xss)).length = n + 1 := by simp; omega
  refine ⟨by rw [hlen]; simp; omega, rfl, fun j hj => ?_, fun j hj => ?_⟩
  ·rw [hlen] at hj
   rw [(get j).1, (get j).2]
   by_cases e : j < atL x xss
   ·rw [if_pos e, if_pos e]; exact h.row j (by omega)
   ·rw [if_neg e, if_neg e]
    by_cases e2 : j = atL x xss
    ·rw [if_pos e2, if_pos e2]; exact hs
    ·rw [if_neg e2, if_neg e2]; exact h.row (j - 1) (by omega)
  ·rw [hlen] at hj
   rw [(get j).1]
   by_cases e : j < atL x xss
   ·rw [if_pos e]; exact h.cap j (by omega)
   ·rw [if_neg e]
    by_cases e2 : j = atL x xss
    ·rw [if_pos e2]; exact hc
    ·rw [if_neg e2]; exact h.cap (j - 1) (by omega)
theorem l17Put_c (A : Option Addr) (n c : Nat) (rs : List SlV) (xss : List (List Int)) (B : Option Addr) (m d : Nat) (x : List Int) (w : World) (hR : RowsI w A n rs xss) (hc : n ≤ c) (hB : RdI w B m x) (hm : m ≤ 9223372036854775807) (hn : n ≤ 1000000000) (hs : SL xss) :
  Ret Tryz.prog 82 [.slice A n c, .slice B m d] w (fun v w' => ∃ A' c', v = .slice A' (putL xss x).length c' ∧ (putL xss x).length ≤ c' ∧ Below w.heap.size w w' ∧ ((A' = A ∧ c' = c ∧ x ∈ xss) ∨ (¬ x ∈ xss ∧ St w w' [CkR 28 A' (putL xss x).length c' (putR rs xss ⟨B, m, d⟩ x)]))) := by
 have hxl := hR.len
 have hbl := hB.1
 refine Ret.of_cd Tryz.func82 rfl Tryz.ntmps82 rfl (post1 rfl) (Cd.seq (Cd.region (Ops.ms rfl rfl rfl (Ops.n (tQ (Cd.seq (Cd.region (Ops.ms rfl rfl rfl (Ops.len rfl rfl ?_)))))))))
 refine Ops.mi rfl rfl rfl (Ops.mi rfl rfl rfl (Ops.n (tQ (Cd.seq (Cd.block ?_)))))
 refine Cd.loop (α := Nat × Nat) (fun z => [(0, .slice A n c), (1, .slice B m d), (5, .int .i64 (z.1 : Int)), (6, .int .i64 (z.2 : Int))]) (fun z w' => St w w' [] ∧ z.1 ≤ z.2 ∧ z.2 ≤ n ∧ (∀ j (hj : j < xss.length), j < z.1 → LT xss[j] x) ∧ ∀ j (hj : j < xss.length), z.2 ≤ j → ¬ LT xss[j] x) (fun z => z.2 - z.1) (0, n) ⟨rfl, rfl, rfl, rfl, trivial⟩ ⟨St.refl w, Nat.zero_le _, Nat.le_refl _, fun j hj h => by dsimp only at h; omega, fun j hj h => by dsimp only at h; omega⟩ ?_
 rintro ⟨lo, hi⟩ e w1 ⟨hS, hlh, hhn, hlt, hge⟩
 dsimp only at hlh hhn hlt hge ⊢
 refine Cd.seq (Cd.seq (Cd.region (Ops.mi rfl rfl rfl (Ops.mi rfl rfl rfl (Ops.lss rfl rfl rfl (Ops.n (tQ ?_)))))))
 refine Cd.cond_p _ rfl (fun h1 => ?_) (fun h1 => ?_)
 ·refine Cd.skip (tQ (Cd.block (Cd.seq (Cd.region (Ops.mi rfl rfl rfl (Ops.mi rfl rfl rfl (Ops.add rfl rfl rfl (by omega) (Ops.quo rfl rfl rfl (by omega) ?_))))))))
  rw [show ((lo : Int) + (hi : Int)) / 2 = (((lo + hi) / 2 : Nat) : Int) by omega]
  have hmid1 : lo ≤ (lo + hi) / 2 := by omega
  have hmid2 : (lo + hi) / 2 < hi := by omega
  generalize (lo + hi) / 2 = q at *
  have hM := hS.oldRows hR
  have hrow := hM.at_ (i := (q : Int)) (by omega) (by omega)
  have hcap := hM.cap_ (i := (q : Int)) (by omega) (by omega)
  have hrl := hrow.1
  refine Ops.mi rfl rfl rfl (Ops.n (tQ (Cd.seq (Cd.region (Ops.ms rfl rfl rfl (Ops.mi rfl rfl rfl (Ops.idx hM.top.2 rfl rfl rfl (by omega) (by omega) (Ops.ld_sl hM.top rfl (by omega) rfl rfl (Ops.ms rfl rfl rfl ?_)))))))))
  refine Ops.call (l01Less_c _ _ _ _ _ _ _ _ _ hrow (hS.oldI hB) (by omega)) rfl rfl rfl ?_
  rintro _ w2 ⟨rfl, hst⟩
  refine Ops.n (tQ ?_)
  have hgq : gl xss (q : Int) = xss[q]'(by omega) := gl_mem (by omega)
  refine Cd.cond_p _ rfl (fun h2 => ?_) (fun h2 => ?_)
  ·rw [hgq] at h2
   refine Cd.region (Ops.mi rfl rfl rfl (Ops.add rfl rfl rfl (by omega) (Ops.mi rfl rfl rfl (Ops.n (blockQ_n (tQ ?_))))))
   refine ⟨(q + 1, hi), by show hi - (q + 1) < hi - lo; omega, ⟨rfl, rfl, rfl, rfl, trivial⟩, hS.later hst.below, by show q + 1 ≤ hi; omega, hhn, fun j hj h => ?_, hge⟩
   have h : j < q + 1 := h
   by_cases e : j = q
   ·subst e; exact h2
   ·exact (List.pairwise_iff_getElem.1 hs j q hj (by omega) (by omega)).trans h2
  ·rw [hgq] at h2
   refine Cd.region (Ops.mi rfl rfl rfl (Ops.mi rfl rfl rfl (Ops.n (blockQ_n (tQ ?_)))))
   refine ⟨(lo, q), by show q - lo < hi - lo; omega, ⟨rfl, rfl, rfl, rfl, trivial⟩, hS.later hst.below, hmid1, by show q ≤ n; omega, hlt, fun j hj h => ?_⟩
   have h : q ≤ j := h
   by_cases e : j = q
   ·subst e; exact h2
   ·exact fun h3 => h2 ((List.pairwise_iff_getElem.1 hs q j (by omega) hj (by omega)).trans h3)
 ·have e : lo = hi := by omega
  subst e
  have hat : atL x xss = lo := atL_of hs (by omega) hlt hge
  have hno : (∀ h : lo < xss.length, xss[lo] ≠ x) → ¬ x ∈ xss := fun h hx => by
   obtain ⟨j, hj, rfl⟩ := List.mem_iff_getElem.1 hx
   rcases Nat.lt_trichotomy j lo with h2 | h2 | h2
   ·exact (hlt j hj h2).irrefl
   ·subst h2; exact h hj rfl
   ·exact hge lo (by omega) (Nat.le_refl _) (List.pairwise_iff_getElem.1 hs lo j (by omega) hj h2)
  refine Cd.exit (thenQ_x (thenQ_x (blockQ_x (tQ (Cd.seq (Cd.seq (Cd.region (Ops.mi rfl rfl rfl (Ops.ms rfl rfl rfl ?_)))))))))
  refine Ops.len rfl rfl (Ops.lss rfl rfl rfl (Ops.mb rfl rfl rfl ?_))
  refine Ops.split_p 31 rfl (fun h2 => ?_) (fun h2 => ?_)
  ·have hM := hS.oldRows hR
   have hrow := hM.at_ (i := (lo : Int)) (by omega) (by omega)
   have hcap := hM.cap_ (i := (lo : Int)) (by omega) (by omega)
   have hrl := hrow.1
   have hgq : gl xss (lo : Int) = xss[lo]'(by omega) := gl_mem (by omega)
   refine Ops.g rfl rfl rfl (Ops.ms rfl rfl rfl (Ops.g rfl rfl rfl (Ops.mi rfl rfl rfl (Ops.g rfl rfl rfl (Ops.idx hM.top.2 rfl rfl rfl (by omega) (by omega) (Ops.g rfl rfl rfl (Ops.ld_sl hM.top rfl (by omega) rfl rfl (Ops.g rfl rfl rfl (Ops.ms rfl rfl rfl ?_)))))))))
   refine Ops.g rfl rfl rfl (Ops.call (l01Same_c _ _ _ _ _ _ _ _ _ hrow (hS.oldI hB) (by omega)) rfl rfl rfl ?_)
   rintro _ w2 ⟨rfl, hst⟩
   have hS := hS.later hst.below
   refine Ops.pick_t rfl rfl rfl (Ops.n (tQ ?_))
   refine Cd.cond_p _ rfl (fun h3 => ?_) (fun h3 => ?_)
   ·have hx : x ∈ xss := by rw [← h3, hgq]; exact List.getElem_mem _
    have e : putL xss x = xss := by unfold putL; rw [if_pos hx]
    refine Cd.seq (Cd.region (Ops.ms rfl rfl rfl (Ops.ms rfl rfl rfl (Ops.n (tQ (Cd.ret (thenQ_r (ret1_s rfl ?_))))))))
    exact ⟨A, c, by rw [e, hxl], by rw [e, hxl]; exact hc, hS.below, .inl ⟨rfl, rfl, hx⟩⟩
   ·have hnx : ¬ x ∈ xss := hno fun _ h => h3 (by rw [hgq]; exact h)
    have hput : putL xss x = xss.take lo ++ x :: xss.drop lo := by unfold putL; rw [if_neg hnx, hat]
    have hputR : putR rs xss ⟨B, m, d⟩ x = rs.take lo ++ ⟨B, m, d⟩ :: rs.drop lo := by unfold putR; rw [if_neg hnx, hat]
    refine Cd.skip (tQ (Cd.seq (Cd.region (Ops.ms rfl rfl rfl (Ops.bs1R hS rfl rfl rfl ?_)))))
    intro A7 w7 hS7
    refine Ops.ms rfl rfl rfl (Ops.mi rfl rfl rfl (Ops.cut_l rfl rfl rfl (by omega) (Ops.appR 0 hS7 rfl ((hS7.oldR hR.top).drop (l := lo) (by omega) hc) rfl rfl rfl (by omega) (by omega) rfl ?_)))
    intro A8 c8 w8 hS8
    refine Ops.ms rfl rfl rfl (Ops.n (tQ (Cd.seq (Cd.region (Ops.bs0 hS8 rfl ?_)))))
    intro A9 w9 hS9
    have hS9 : St w w9 (CkR 28 A9 0 0 [] :: CkR 28 A8 (1 + (n - lo)) c8 ([⟨B, m, d⟩] ++ rs.drop lo) :: []) := hS9
    refine Ops.ms rfl rfl rfl (Ops.mi rfl rfl rfl (Ops.cut_h rfl rfl rfl (by omega) (Ops.appR 0 hS9 rfl ((hS9.oldR hR.top).take (l := lo) (by omega)) rfl rfl rfl (by omega) (by omega) rfl ?_)))
    intro A10 c10 w10 hS10
    refine Ops.ms rfl rfl rfl (Ops.appR 0 hS10 rfl (hS10.rdR 1 rfl) rfl rfl rfl (by omega) (by omega) rfl ?_)
    intro A11 c11 w11 hS11
    refine Ops.ms rfl rfl rfl (Ops.n (tQ (Cd.ret (ret1_s rfl ?_))))
    have hS11 : St w w11 (CkR 28 A11 (0 + lo + (1 + (n - lo))) c11 (([] ++ rs.take lo) ++ ([⟨B, m, d⟩] ++ rs.drop lo)) :: CkR 28 A8 (1 + (n - lo)) c8 ([⟨B, m, d⟩] ++ rs.drop lo) :: []) := hS11
    have hS12 := hS11.sub (List.Sublist.cons_cons _ (List.nil_sublist _))
    rw [List.nil_append, List.singleton_append, ← hputR] at hS12
    have hlen' : (putL xss x).length = 0 + lo + (1 + (n - lo)) := by rw [hput]; simp; omega
    exact ⟨A11, c11, by rw [hlen'], by have := hS12.cap 0 rfl; rw [hlen']; exact this.1, hS12.below, .inr ⟨hnx, by rw [hlen']; exact hS12⟩⟩
  ·have hnx : ¬ x ∈ xss := hno fun h => by omega
   refine Ops.k rfl rfl rfl rfl rfl (Ops.k rfl rfl rfl rfl rfl (Ops.k rfl rfl rfl rfl rfl (Ops.k rfl rfl rfl rfl rfl (Ops.k rfl rfl rfl rfl rfl (Ops.k rfl rfl rfl rfl rfl (Ops.pick_f rfl rfl rfl (Ops.n (tQ (Cd.cond_f rfl ?_)))))))))
   have hput : putL xss x = xss.take lo ++ x :: xss.drop lo := by unfold putL; rw [if_neg hnx, hat]
   have hputR : putR rs xss ⟨B, m, d⟩ x = rs.take lo ++ ⟨B, m, d⟩ :: rs.drop lo := by unfold putR; rw [if_neg hnx, hat]
   refine Cd.skip (tQ (Cd.seq (Cd.region (Ops.ms rfl rfl rfl (Ops.bs1R hS rfl rfl rfl ?_)))))
   intro A7 w7 hS7
   refine Ops.ms rfl rfl rfl (Ops.mi rfl rfl rfl (Ops.cut_l rfl rfl rfl (by omega) (Ops.appR 0 hS7 rfl ((hS7.oldR hR.top).drop (l := lo) (by omega) hc) rfl rfl rfl (by omega) (by omega) rfl ?_)))
   intro A8 c8 w8 hS8
   refine Ops.ms rfl rfl rfl (Ops.n (tQ (Cd.seq (Cd.region (Ops.bs0 hS8 rfl ?_)))))
   intro A9 w9 hS9
   have hS9 : St w w9 (CkR 28 A9 0 0 [] :: CkR 28 A8 (1 + (n - lo)) c8 ([⟨B, m, d⟩] ++ rs.drop lo) :: []) := hS9
   refine Ops.ms rfl rfl rfl (Ops.mi rfl rfl rfl (Ops.cut_h rfl rfl rfl (by omega) (Ops.appR 0 hS9 rfl ((hS9.oldR hR.top).take (l := lo) (by omega)) rfl rfl rfl (by omega) (by omega) rfl ?_)))
   intro A10 c10 w10 hS10
   refine Ops.ms rfl rfl rfl (Ops.appR 0 hS10 rfl (hS10.rdR 1 rfl) rfl rfl rfl (by omega) (by omega) rfl ?_)
   intro A11 c11 w11 hS11
   refine Ops.ms rfl rfl rfl (Ops.n (tQ (Cd.ret (ret1_s rfl ?_))))
   have hS11 : St w w11 (CkR 28 A11 (0 + lo + (1 + (n - lo))) c11 (([] ++ rs.take lo) ++ ([⟨B, m, d⟩] ++ rs.drop lo)) :: CkR 28 A8 (1 + (n - lo)) c8 ([⟨B, m, d⟩] ++ rs.drop lo) :: []) := hS11
   have hS12 := hS11.sub (List.Sublist.cons_cons _ (List.nil_sublist _))
   rw [List.nil_append, List.singleton_append, ← hputR] at hS12
   have hlen' : (putL xss x).length = 0 + lo + (1 + (n - lo)) := by rw [hput]; simp; omega
   exact ⟨A11, c11, by rw [hlen'], by have := hS12.cap 0 rfl; rw [hlen']; exact this.1, hS12.below, .inr ⟨hnx, by rw [hlen']; exact hS12⟩⟩
/-
 The reference's complex of some lists, walked.
-/
section
variable {P : Program} {N : Nat} {ops : Array Oper} {K : Env → World → Prop} {rest : List Oper} {e : Env} {w0 w w' : World} {ks : List Ck} {d : Nat} {ty : TypeId} {pos : String} {af : Array Edge}
theorem Ops.bldF2 {t : TypeId} {f0 f1 : Field} {z0 z1 y0 y1 : Value} {b b0 b1 : Nat} [Und P t (.struct #[f0, f1])] [Inf P t (.agg #[z0, z1]) 2 b] {x0 : Operand} {v0 : Value} (hI0 : Inf P f0.type y0 1 b0) (hI1 : Inf P f1.type y1 1 b1) (ho : f0.offset = 0) (ho1 : f1.offset = 1) (h0 : ev e x0 = v0) (c0 : v0.oneCell' = true) (hb : Nat.blt d N = true)
    (hK : Ops P N ops K rest (upd e d (.agg #[v0, z1])) w) : Ops P N ops K (⟨some d, .build t #[(0, x0)], ty, pos, af, none⟩ :: rest) e w := by
  obtain ⟨inf, hi, hz0, hs, hby⟩ := Inf.get P t
  obtain ⟨inf0, hi0, _, hs0, _⟩ := hI0.get P f0.type
  obtain ⟨inf1, hi1, _, hs1, _⟩ := hI1.get P f1.type
  have e0 : v0.cells = #[v0] := by cases v0 <;> simp [Value.oneCell'] at c0 <;> rfl
  have ez : (Value.agg #[z0, z1]).cells = #[z0, z1] := rfl
  refine .val (w' := w) ?_ hb hK
  simp [execOp, Instr.build, run_underlying (Und.out (P := P) (t := t)), sizeOf, typeInfo, zeroValue, hi, hz0, hi0, hs0, hi1, hs1, ho, ho1, h0, e0, ez, Instr.fill]
end
theorem putL_len (l : List (List Int)) (x : List Int) : (putL l x).length ≤ l.length + 1 := by
 have := atL_le x l
 unfold putL
 split
 ·omega
 ·simp; omega
theorem foldPut_len : ∀ (ls l : List (List Int)), (ls.foldl putL l).length ≤ l.length + ls.length
 | [], l => by simp
 | a :: r, l => by
  have h1 := foldPut_len r (putL l a)
  have h2 := putL_len l a
  rw [List.foldl_cons]
  simp only [List.length_cons]
  omega
theorem putS_len (ls : List (List Int)) : (putS ls).length ≤ ls.length := by
 have h1 := foldPut_len (ls.filter fun l => decide (l ≠ [])) []
 have h2 := List.length_filter_le (fun l => decide (l ≠ [])) ls
 unfold putS
 simp only [List.length_nil] at h1
 omega
theorem putS_succ {ls : List (List Int)} {i : Nat} (h : i < ls.length) : putS (ls.take (i + 1)) = if gl ls (i : Int) ≠ [] then putL (putS (ls.take i)) (gl ls (i : Int)) else putS (ls.take i) := by
 unfold putS
 rw [take_succ_gl h, List.filter_append, List.foldl_append]
 by_cases e : gl ls (i : Int) = [] <;> simp [e]
def topT (x : List Int) (T : List (List Int)) : Prop := ∀ y ∈ T, Ins x y → y = x
instance (x : List Int) (T : List (List Int)) : Decidable (topT x T) := by unfold topT; exact inferInstance
def topB (S : List (List Int)) (x : List Int) : Bool := decide (∀ y ∈ S, Ins x y → y = x)
def faS (S : List (List Int)) (i : Nat) : List (List Int) := (S.take i).filter (topB S)
theorem faS_succ {S : List (List Int)} {i : Nat} (h : i < S.length) : faS S (i + 1) = if topB S (gl S (i : Int)) = true then faS S i ++ [gl S (i : Int)] else faS S i := by
 unfold faS
 rw [take_succ_gl h, List.filter_append]
 by_cases e : topB S (gl S (i : Int)) = true <;> simp [e]
theorem faS_len (S : List (List Int)) (i : Nat) : (faS S i).length ≤ S.length := by
 have h1 := List.length_filter_le (topB S) (S.take i)
 unfold faS
 have : (S.take i).length ≤ S.length := by simp; omega
 omega
theorem faS_all (S : List (List Int)) : faS S S.length = S.filter (topB S) := by unfold faS; rw [List.take_length]
theorem RowsW.snoc {w : World} {n : Nat} {rs : List SlV} {xss : List (List Int)} (h : RowsW w n rs xss) {s : SlV} {x : List Int} (hs : RdI w s.a s.n x) (hc : s.n ≤ s.c ∧ s.c ≤ maxLen) : RowsW w (n + 1) (rs ++ [s]) (xss ++ [x]) := by
 have hrl := h.rl
 have hxl := h.len
 have get : ∀ j, j < n + 1 → (rs ++ [s]).getD j slNil = (if j = n then s else rs.getD j slNil) ∧ (xss ++ [x]).getD j [] = if j = n then x else xss.getD j [] := fun j hj => by
  simp only [List.getD_eq_getElem?_getD, List.getElem?_append, hrl, hxl]
  by_cases e : j = n
  ·subst e; simp
  ·have : j < n := by omega
   simp [e, this]
 refine ⟨by simp; omega, by simp; omega, fun j hj => ?_, fun j hj => ?_⟩
 ·rw [(get j hj).1, (get j hj).2]
  by_cases e : j = n
  ·rw [if_pos e, if_pos e]; exact hs
  ·rw [if_neg e, if_neg e]; exact h.row j (by omega)
 ·rw [(get j hj).1]
  by_cases e : j = n
  ·rw [if_pos e]; exact hc
  ·rw [if_neg e]; exact h.cap j (by omega)
theorem cs_sub {l l' : List Int} (h : ∀ x ∈ l, x ∈ l') : (cs l).length ≤ l'.length :=
 Nat.le_trans (Ins.len (cs_SA l) (cs_SA l') fun x hx => (cs_mem _ _).2 (h x ((cs_mem _ _).1 hx))) (cs_len l')
abbrev cxZ (Ab : Option Addr) : Ck := Bx 26 2 Ab [.int .i64 0, .slice none 0 0]
set_option maxHeartbeats 2000000 in
theorem l17Make_c (A : Option Addr) (n c : Nat) (rs : List SlV) (ls : List (List Int)) (w : World) (hR : RowsI w A n rs ls) (hn : n ≤ 1000000) (hfl : ls.flatten.length ≤ 1000000) (hsa : ∀ l ∈ ls, SA l) :
    Ret Tryz.prog 42 [.slice A n c] w (AnsC (cxV ls) (cxL ls) (cxK ls) w) := by
  have hll : ls.length = n := hR.len
  refine Ret.of_cd Tryz.func42 rfl Tryz.ntmps42 rfl (postc2 rfl rfl) (Cd.seq (Cd.region (Ops.new2 (St.refl w) rfl ?_)))
  intro A2 w1 hS1
  refine Ops.mi rfl rfl rfl (Ops.n (tQ (Cd.seq (Cd.region (Ops.bs0 hS1 rfl ?_)))))
  intro A4 w2 hS2
  have hS2 : St w w2 [CkR 28 A4 (putS (ls.take 0)).length 0 [], cxZ A2] := hS2
  refine Ops.ms rfl rfl rfl (Ops.n (tQ (Cd.seq (Cd.seq (Cd.region (Ops.mi rfl rfl rfl (Ops.n (tQ (Cd.block ?_)))))))))
  refine Cd.loop (α := Nat × (Option Addr × Nat) × List SlV) (fun z => [(0, .slice A n c), (2, .pointer A2), (4, .slice z.2.1.1 (putS (ls.take z.1)).length z.2.1.2), (5, .int .i64 (z.1 : Int))])
    (fun z w' => z.1 ≤ n ∧ RowsW w (putS (ls.take z.1)).length z.2.2 (putS (ls.take z.1)) ∧ St w w' [CkR 28 z.2.1.1 (putS (ls.take z.1)).length z.2.1.2 z.2.2, cxZ A2]) (fun z => n - z.1) (0, (A4, 0), []) ⟨rfl, rfl, rfl, rfl, trivial⟩ ⟨Nat.zero_le _, ⟨rfl, rfl, fun i hi => absurd hi (by simp [putS]), fun i hi => absurd hi (by simp [putS])⟩, hS2⟩ ?_
  clear hS2 hS1
  rintro ⟨i, ⟨A4, c4⟩, rs4⟩ e w2 ⟨hi, hW, hS2⟩
  dsimp only at hi hW hS2 ⊢
  refine Cd.seq (Cd.seq (Cd.region (Ops.mi rfl rfl rfl (Ops.ms rfl rfl rfl (Ops.len rfl rfl (Ops.lss rfl rfl rfl (Ops.n (tQ ?_))))))))
  refine Cd.cond_p _ rfl (fun h1 => ?_) (fun h1 => ?_)
  · have hin : i < ls.length := by omega
    have hM := hS2.oldRows hR
    have hrow0 := hR.at_ (i := (i : Int)) (by omega) (by omega)
    have hrow := hM.at_ (i := (i : Int)) (by omega) (by omega)
    have hcap := hM.cap_ (i := (i : Int)) (by omega) (by omega)
    have hrl := hrow.1
    have hss := putS_succ hin
    have hlen := putS_len (ls.take i)
    have htl : (ls.take i).length = i := by simp; omega
    refine Cd.skip (tQ (Cd.seq (Cd.block (Cd.seq (Cd.region (Ops.ms rfl rfl rfl (Ops.mi rfl rfl rfl (Ops.idx hM.top.2 rfl rfl rfl (by omega) (by omega) (Ops.ld_sl hM.top rfl (by omega) rfl rfl ?_)))))))))
    refine Ops.len rfl rfl (Ops.gtr rfl rfl rfl (Ops.n (tQ ?_)))
    refine Cd.cond_p _ rfl (fun h2 => ?_) (fun h2 => ?_)
    · have hne : gl ls (i : Int) ≠ [] := fun e => by rw [e] at hrl; simp at hrl; omega
      rw [if_pos hne] at hss
      have hcap4 := hS2.cap 0 rfl
      refine Cd.region (Ops.ms rfl rfl rfl (Ops.ms rfl rfl rfl (Ops.mi rfl rfl rfl (Ops.idx hM.top.2 rfl rfl rfl (by omega) (by omega) (Ops.ld_sl hM.top rfl (by omega) rfl rfl (Ops.call (l17Put_c A4 _ c4 rs4 (putS (ls.take i)) _ _ _ (gl ls (i : Int)) _ ((hW.later hS2.below).I (hS2.rdR 0 rfl)) hcap4.1 hrow (by omega) (by omega) (putS_SL _)) rfl rfl rfl ?_))))))
      rintro _ w3 ⟨A5, c5, rfl, hc5, hb5, hor⟩
      have hnew : ∃ rs5, RowsW w (putL (putS (ls.take i)) (gl ls (i : Int))).length rs5 (putL (putS (ls.take i)) (gl ls (i : Int))) ∧ St w w3 [CkR 28 A5 (putL (putS (ls.take i)) (gl ls (i : Int))).length c5 rs5, cxZ A2] := by
        rcases hor with ⟨rfl, rfl, hx⟩ | ⟨hx, hst⟩
        · have e : putL (putS (ls.take i)) (gl ls (i : Int)) = putS (ls.take i) := by unfold putL; rw [if_pos hx]
          rw [e]
          exact ⟨rs4, hW, hS2.later hb5⟩
        · exact ⟨_, hW.putL hrow0 hcap, (hS2.call hst).sub (List.Sublist.cons_cons _ (List.sublist_cons_self _ _))⟩
      obtain ⟨rs5, hW5, hS5⟩ := hnew
      rw [← hss] at hW5 hS5 ⊢
      refine Ops.ms rfl rfl rfl (Ops.n (blockQ_n (tQ (Cd.region (Ops.mi rfl rfl rfl (Ops.add rfl rfl rfl (by omega) (Ops.mi rfl rfl rfl (Ops.n (tQ ?_)))))))))
      exact ⟨(i + 1, (A5, c5), rs5), by show n - (i + 1) < n - i; omega, ⟨rfl, rfl, rfl, rfl, trivial⟩, by show i + 1 ≤ n; omega, hW5, hS5⟩
    · have he : gl ls (i : Int) = [] := List.eq_nil_of_length_eq_zero (by omega)
      rw [if_neg (fun h => h he)] at hss
      rw [← hss] at hW hS2 ⊢
      refine Cd.skip (blockQ_n (tQ (Cd.region (Ops.mi rfl rfl rfl (Ops.add rfl rfl rfl (by omega) (Ops.mi rfl rfl rfl (Ops.n (tQ ?_))))))))
      exact ⟨(i + 1, (A4, c4), rs4), by show n - (i + 1) < n - i; omega, ⟨rfl, rfl, rfl, rfl, trivial⟩, by show i + 1 ≤ n; omega, hW, hS2⟩
  have hin : i = ls.length := by omega
  rw [hin, List.take_length] at hW hS2 ⊢
  clear hi h1 hin
  have hSL := putS_SL ls
  have hSln := putS_len ls
  have hSm := fun x => putS_mem ls x
  have hfac : facP ls = (putS ls).filter (topB (putS ls)) := rfl
  have hcv := cv_fac hsa
  have hlong := long_fac hsa
  generalize putS ls = S at *
  have hSa : ∀ l ∈ S, SA l := fun l hl => hsa l ((hSm l).1 hl).1
  have hSne : ∀ l ∈ S, l ≠ [] := fun l hl => ((hSm l).1 hl).2
  have hvl : ∀ l : List Int, (∀ x ∈ l, ∃ s ∈ S, x ∈ s) → (cs l).length ≤ 1000000 := fun l h => Nat.le_trans (cs_sub (l' := ls.flatten) fun x hx => by
    obtain ⟨s, hs, hxs⟩ := h x hx
    exact List.mem_flatten.2 ⟨s, ((hSm s).1 hs).1, hxs⟩) hfl
  refine Cd.exit (thenQ_x (thenQ_x (blockQ_x (tQ (Cd.seq (Cd.region (Ops.bs0 hS2 rfl ?_)))))))
  intro A6 w3 hS3
  refine Ops.bs0 hS3 rfl ?_
  intro A7 w4 hS4
  have hc0 : cs (faS S 0).flatten = [] := cs_nil
  have hS4 : St w w4 [CkI 2 A7 (cs (faS S 0).flatten).length 0 (cs (faS S 0).flatten), CkR 28 A6 (faS S 0).length 0 [], CkR 28 A4 S.length c4 rs4, cxZ A2] := by rw [hc0]; exact hS4
  refine Ops.ms rfl rfl rfl (Ops.ms rfl rfl rfl (Ops.n (tQ (Cd.seq (Cd.seq (Cd.region (Ops.mi rfl rfl rfl (Ops.n (tQ ?_)))))))))
  refine Cd.block ?_
  refine Cd.loop (α := Nat × (Option Addr × Nat) × List SlV × (Option Addr × Nat)) (fun z => [(2, .pointer A2), (4, .slice A4 S.length c4), (6, .slice z.2.1.1 (faS S z.1).length z.2.1.2), (7, .slice z.2.2.2.1 (cs (faS S z.1).flatten).length z.2.2.2.2), (8, .int .i64 (z.1 : Int))])
    (fun z w' => z.1 ≤ S.length ∧ RowsW w (faS S z.1).length z.2.2.1 (faS S z.1) ∧ St w w' [CkI 2 z.2.2.2.1 (cs (faS S z.1).flatten).length z.2.2.2.2 (cs (faS S z.1).flatten), CkR 28 z.2.1.1 (faS S z.1).length z.2.1.2 z.2.2.1, CkR 28 A4 S.length c4 rs4, cxZ A2]) (fun z => S.length - z.1) (0, (A6, 0), [], (A7, 0)) ⟨rfl, rfl, rfl, by show Value.slice A7 0 0 = .slice A7 (cs (faS S 0).flatten).length 0; rw [hc0]; rfl, rfl, trivial⟩ ⟨Nat.zero_le _, ⟨rfl, rfl, fun i hi => absurd hi (by simp [faS]), fun i hi => absurd hi (by simp [faS])⟩, hS4⟩ ?_
  clear hS4 hS3 hS2
  rintro ⟨i, ⟨A6, c6⟩, rs6, A7, c7⟩ e w4 ⟨hi, hW6, hS4⟩
  dsimp only at hi hW6 hS4 ⊢
  refine Cd.seq (Cd.seq (Cd.region (Ops.mi rfl rfl rfl (Ops.ms rfl rfl rfl (Ops.len rfl rfl (Ops.lss rfl rfl rfl (Ops.n (tQ ?_))))))))
  refine Cd.cond_p _ rfl (fun h1 => ?_) (fun h1 => ?_)
  · have hiS : i < S.length := by omega
    have hgS : gl S (i : Int) ∈ S := by rw [gl_mem hiS]; exact List.getElem_mem _
    have hsucc := faS_succ hiS
    have hfln := faS_len S i
    refine Cd.skip (tQ (Cd.seq (Cd.block (Cd.seq (Cd.region (Ops.mb rfl rfl rfl (Ops.n (tQ (Cd.seq ?_)))))))))
    refine Cd.seq (Cd.region (Ops.mi rfl rfl rfl (Ops.n (tQ (Cd.block ?_)))))
    refine Cd.loop (α := Nat × Bool) (fun z => [(2, .pointer A2), (4, .slice A4 S.length c4), (6, .slice A6 (faS S i).length c6), (7, .slice A7 (cs (faS S i).flatten).length c7), (8, .int .i64 (i : Int)), (9, .bool z.2), (10, .int .i64 (z.1 : Int))])
      (fun z w' => z.1 ≤ S.length ∧ z.2 = decide (topT (gl S (i : Int)) (S.take z.1)) ∧ St w w' [CkI 2 A7 (cs (faS S i).flatten).length c7 (cs (faS S i).flatten), CkR 28 A6 (faS S i).length c6 rs6, CkR 28 A4 S.length c4 rs4, cxZ A2]) (fun z => S.length - z.1) (0, true) ⟨rfl, rfl, rfl, rfl, rfl, rfl, rfl, trivial⟩ ⟨Nat.zero_le _, (decide_eq_true (by simp [topT])).symm, hS4⟩ ?_
    rintro ⟨k, b⟩ e w5 ⟨hk, hb, hS5⟩
    dsimp only at hk hb hS5 ⊢
    have hS45 : RowsI w5 A4 S.length rs4 S := (hW.later hS5.below).I (hS5.rdR 2 rfl)
    have hri := hS45.at_ (i := (i : Int)) (by omega) (by omega)
    have hci := hS45.cap_ (i := (i : Int)) (by omega) (by omega)
    have hri0 := hW.row i hiS
    have hci0 := hW.cap i hiS
    have hril := hri.1
    refine Cd.seq (Cd.seq (Cd.region (Ops.mi rfl rfl rfl (Ops.ms rfl rfl rfl (Ops.len rfl rfl (Ops.lss rfl rfl rfl (Ops.mb rfl rfl rfl ?_)))))))
    refine Ops.split_p 47 rfl (fun h2 => ?_) (fun h2 => ?_)
    · refine Ops.g rfl rfl rfl (Ops.mb rfl rfl rfl (Ops.pick_t rfl rfl rfl (Ops.n (tQ ?_))))
      cases hbe : b
      · --dup 2
        skip
        refine Cd.cond_f rfl (Cd.exit (thenQ_x (thenQ_x (blockQ_x (tQ (Cd.seq (Cd.region (Ops.mb rfl rfl rfl (Ops.n ?_)))))))))
        refine tQ ?_
        subst hbe
        have hnt : ¬ topB S (gl S (i : Int)) = true := fun h => by
          have h3 : ∀ y ∈ S, Ins (gl S (i : Int)) y → y = gl S (i : Int) := of_decide_eq_true h
          have := of_decide_eq_false hb.symm
          exact this fun y hy => h3 y (List.mem_of_mem_take hy)
        rw [if_neg hnt] at hsucc
        rw [← hsucc] at hW6 hS5 ⊢
        refine Cd.cond_f rfl (Cd.skip (blockQ_n (tQ (Cd.region (Ops.mi rfl rfl rfl (Ops.add rfl rfl rfl (by omega) (Ops.mi rfl rfl rfl (Ops.n (tQ ?_)))))))))
        exact ⟨(i + 1, (A6, c6), rs6, (A7, c7)), by show S.length - (i + 1) < S.length - i; omega, ⟨rfl, rfl, rfl, rfl, rfl, trivial⟩, by show i + 1 ≤ S.length; omega, hW6, hS5⟩
      · subst hbe
        have hall := of_decide_eq_true hb.symm
        have hkS : k < S.length := by omega
        have hrk := hS45.at_ (i := (k : Int)) (by omega) (by omega)
        have hck := hS45.cap_ (i := (k : Int)) (by omega) (by omega)
        have hnext : decide ((i : Int) = (k : Int) ∨ ¬ Ins (gl S (i : Int)) (gl S (k : Int))) = decide (topT (gl S (i : Int)) (S.take (k + 1))) := decide_eq_decide.2 (by
          unfold topT
          rw [take_succ_gl hkS]
          constructor
          · intro h y hy hyi
            rcases List.mem_append.1 hy with hy | hy
            · exact hall y hy hyi
            · obtain rfl : y = gl S (k : Int) := by simpa using hy
              rcases h with h | h
              · rw [h]
              · exact absurd hyi h
          · intro h
            by_cases hin : Ins (gl S (i : Int)) (gl S (k : Int))
            · left
              have h3 := h _ (List.mem_append.2 (.inr (by simp))) hin
              rw [gl_mem hiS, gl_mem hkS] at h3
              rw [(List.getElem_inj hSL.nodup).1 h3]
            · exact .inr hin)
        skip
        refine Cd.cond_t rfl (Cd.skip (tQ (Cd.seq (Cd.block ?_))))
        by_cases h3 : (i : Int) = (k : Int)
        · --dup 2
          refine Cd.draw [.ex (.int .i64 ((i : Int))), .ex (.int .i64 ((k : Int))), .ex (.bool (decide (((i : Int)) = ((k : Int))))), .ex (.bool (true)), .ex (undef), .ex (undef), .ex (undef), .ex (undef), .ex (undef), .ex (undef), .ex (undef), .ex (undef), .ex (undef), .ex (undef), .ex (.bool (true)), .ex (.bool (true))] (by kernel_rfl) (by kernel_rfl) rfl (lx (lx (lx (lx (lx (lx (lx (lx (lx (lx (lx (lx (lx (lx (lx (lx (fun _ h => by cases h))))))))))))))))) ⟨?_, ?_, ?_, ?_, ?_, ?_, ?_, ?_, ?_, ?_, ?_, ?_, ?_, ?_, ?_, ?_, trivial⟩ ?_
          · intro e1 w1 hb hp hun
            refine Ops.mi rfl rfl rfl (Ops.n (d0 (by exact rfl)))
          · intro e1 w1 hb hp hun
            refine Ops.mi rfl rfl rfl (Ops.n (d0 (by exact rfl)))
          · intro e1 w1 hb hp hun
            refine Ops.eql rfl rfl rfl (Ops.n (d0 (by exact rfl)))
          · intro e1 w1 hb hp hun
            refine Ops.mb rfl rfl rfl (Ops.n ?_)
            exact d0 (by exact congrArg Value.bool (decide_eq_true h3))
          · intro e1 w1 hb hp hun
            refine Ops.k rfl rfl rfl rfl rfl (Ops.n (d0 (by exact rfl)))
          · intro e1 w1 hb hp hun
            refine Ops.k rfl rfl rfl rfl rfl (Ops.n (d0 (by exact rfl)))
          · intro e1 w1 hb hp hun
            refine Ops.k rfl rfl rfl rfl rfl (Ops.n (d0 (by exact rfl)))
          · intro e1 w1 hb hp hun
            refine Ops.k rfl rfl rfl rfl rfl (Ops.n (d0 (by exact rfl)))
          · intro e1 w1 hb hp hun
            refine Ops.k rfl rfl rfl rfl rfl (Ops.n (d0 (by exact rfl)))
          · intro e1 w1 hb hp hun
            refine Ops.k rfl rfl rfl rfl rfl (Ops.n (d0 (by exact rfl)))
          · intro e1 w1 hb hp hun
            refine Ops.k rfl rfl rfl rfl rfl (Ops.n (d0 (by exact rfl)))
          · intro e1 w1 hb hp hun
            refine Ops.k rfl rfl rfl rfl rfl (Ops.n (d0 (by exact rfl)))
          · intro e1 w1 hb hp hun
            refine Ops.k rfl rfl rfl rfl rfl (Ops.n (d0 (by exact rfl)))
          · intro e1 w1 hb hp hun
            refine Ops.k rfl rfl rfl rfl rfl (Ops.n (d0 (by exact rfl)))
          · intro e1 w1 hb hp hun
            refine Ops.pick_t rfl rfl rfl (Ops.n (d0 (by exact rfl)))
          · intro e1 w1 hb hp hun
            refine Ops.mb rfl rfl rfl (Ops.n (d0 (by exact rfl)))
          intro u w6 hb6 _
          refine blockQ_n (tQ (Cd.region (Ops.mi rfl rfl rfl (Ops.add rfl rfl rfl (by omega) (Ops.mi rfl rfl rfl (Ops.n (tQ ?_)))))))
          exact ⟨(k + 1, true), by show S.length - (k + 1) < S.length - k; omega, ⟨rfl, rfl, rfl, rfl, rfl, rfl, rfl, trivial⟩, by show k + 1 ≤ S.length; omega, by rw [← hnext, decide_eq_true (.inl h3)], hS5.later hb6⟩
        · refine Cd.draw [.ex (.int .i64 ((i : Int))), .ex (.int .i64 ((k : Int))), .ex (.bool (decide (((i : Int)) = ((k : Int))))), .ex (.bool (false)), .ex (.slice (A4) (S.length) (c4)), .ex (.int .i64 ((i : Int))), .ex (.pointer (ptrAt (A4) ((i : Int)).toNat)), .ex (.slice ((rg (rs4) ((i : Int))).a) ((rg (rs4) ((i : Int))).n) ((rg (rs4) ((i : Int))).c)), .ex (.slice (A4) (S.length) (c4)), .ex (.int .i64 ((k : Int))), .ex (.pointer (ptrAt (A4) ((k : Int)).toNat)), .ex (.slice ((rg (rs4) ((k : Int))).a) ((rg (rs4) ((k : Int))).n) ((rg (rs4) ((k : Int))).c)), .ex (.bool (decide (Ins (gl S (i : Int)) (gl S (k : Int))))), .ex (.bool (decide (¬ (Ins (gl S (i : Int)) (gl S (k : Int)))))), .ex (.bool (decide (¬ (Ins (gl S (i : Int)) (gl S (k : Int)))))), .ex (.bool (decide (¬ (Ins (gl S (i : Int)) (gl S (k : Int))))))] (by kernel_rfl) (by kernel_rfl) rfl (lx (lx (lx (lx (lx (lx (lx (lx (lx (lx (lx (lx (lx (lx (lx (lx (fun _ h => by cases h))))))))))))))))) ⟨?_, ?_, ?_, ?_, ?_, ?_, ?_, ?_, ?_, ?_, ?_, ?_, ?_, ?_, ?_, ?_, trivial⟩ ?_
          · intro e1 w1 hb hp hun
            refine Ops.mi rfl rfl rfl (Ops.n (d0 (by exact rfl)))
          · intro e1 w1 hb hp hun
            refine Ops.mi rfl rfl rfl (Ops.n (d0 (by exact rfl)))
          · intro e1 w1 hb hp hun
            refine Ops.eql rfl rfl rfl (Ops.n (d0 (by exact rfl)))
          · intro e1 w1 hb hp hun
            refine Ops.mb rfl rfl rfl (Ops.n ?_)
            exact d0 (by exact congrArg Value.bool (decide_eq_false h3))
          · intro e1 w1 hb hp hun
            refine Ops.g rfl rfl rfl (Ops.ms rfl rfl rfl (Ops.n (d0 (by exact rfl))))
          · intro e1 w1 hb hp hun
            refine Ops.g rfl rfl rfl (Ops.mi rfl rfl rfl (Ops.n (d0 (by exact rfl))))
          · intro e1 w1 hb hp hun
            refine Ops.g rfl rfl rfl (Ops.idx (hS45.top.later hb).2 rfl rfl rfl (by omega) (by omega) (Ops.n (d0 (by exact rfl))))
          · intro e1 w1 hb hp hun
            refine Ops.g rfl rfl rfl (Ops.ld_sl (hS45.top.later hb) rfl (by omega) rfl rfl (Ops.n (d0 (by exact rfl))))
          · intro e1 w1 hb hp hun
            refine Ops.g rfl rfl rfl (Ops.ms rfl rfl rfl (Ops.n (d0 (by exact rfl))))
          · intro e1 w1 hb hp hun
            refine Ops.g rfl rfl rfl (Ops.mi rfl rfl rfl (Ops.n (d0 (by exact rfl))))
          · intro e1 w1 hb hp hun
            refine Ops.g rfl rfl rfl (Ops.idx (hS45.top.later hb).2 rfl rfl rfl (by omega) (by omega) (Ops.n (d0 (by exact rfl))))
          · intro e1 w1 hb hp hun
            refine Ops.g rfl rfl rfl (Ops.ld_sl (hS45.top.later hb) rfl (by omega) rfl rfl (Ops.n (d0 (by exact rfl))))
          · intro e1 w1 hb hp hun
            refine Ops.g rfl rfl rfl (Ops.call (l17Within_c _ _ _ _ _ _ _ _ _ (hri.later hb) (hrk.later hb) (by omega) (by omega)) rfl rfl rfl ?_)
            rintro _ w2 ⟨rfl, hst⟩
            subst hst
            refine Ops.n (d0 (by exact rfl))
          · intro e1 w1 hb hp hun
            refine Ops.g rfl rfl rfl (Ops.not_p rfl rfl (Ops.n (d0 (by exact rfl))))
          · intro e1 w1 hb hp hun
            refine Ops.pick_f rfl rfl rfl (Ops.n (d0 (by exact rfl)))
          · intro e1 w1 hb hp hun
            refine Ops.mb rfl rfl rfl (Ops.n (d0 (by exact rfl)))
          intro u w6 hb6 _
          refine blockQ_n (tQ (Cd.region (Ops.mi rfl rfl rfl (Ops.add rfl rfl rfl (by omega) (Ops.mi rfl rfl rfl (Ops.n (tQ ?_)))))))
          exact ⟨(k + 1, decide (¬ Ins (gl S (i : Int)) (gl S (k : Int)))), by show S.length - (k + 1) < S.length - k; omega, ⟨rfl, rfl, rfl, rfl, rfl, rfl, rfl, trivial⟩, by show k + 1 ≤ S.length; omega, by rw [← hnext]; exact decide_eq_decide.2 ⟨.inr, fun h => h.resolve_left h3⟩, hS5.later hb6⟩
    · have hkS : k = S.length := by omega
      rw [hkS, List.take_length] at hb
      have hb : b = topB S (gl S (i : Int)) := hb
      refine Ops.k rfl rfl rfl rfl rfl (Ops.pick_f rfl rfl rfl (Ops.n (tQ (Cd.cond_f rfl (Cd.exit (thenQ_x (thenQ_x (blockQ_x (tQ ?_)))))))))
      refine Cd.seq (Cd.region (Ops.mb rfl rfl rfl (Ops.n (tQ ?_))))
      refine Cd.cond rfl (fun h3 => ?_) (fun h3 => ?_)
      · rw [← hb, if_pos h3] at hsucc
        refine Cd.seq (Cd.region (Ops.ms rfl rfl rfl (Ops.ms rfl rfl rfl (Ops.mi rfl rfl rfl (Ops.idx hS45.top.2 rfl rfl rfl (by omega) (by omega) (Ops.ld_sl hS45.top rfl (by omega) rfl rfl (Ops.bs1R hS5 rfl rfl rfl ?_)))))))
        intro A9 w6 hS6
        refine Ops.appR 2 hS6 rfl (hS6.rdR 0 rfl) rfl rfl rfl (by omega) (by omega) rfl ?_
        intro A10 c10 w7 hS7
        have hS7 : St w w7 [CkI 2 A7 (cs (faS S i).flatten).length c7 (cs (faS S i).flatten), CkR 28 A10 ((faS S i).length + 1) c10 (rs6 ++ [rg rs4 (i : Int)]), CkR 28 A4 S.length c4 rs4, cxZ A2] := hS7.tail
        have hW7 := hW6.snoc (s := rg rs4 (i : Int)) (x := gl S (i : Int)) hri0 hci0
        have hl1 : (faS S (i + 1)).length = (faS S i).length + 1 := by rw [hsucc]; simp
        refine Ops.ms rfl rfl rfl (Ops.n (tQ (Cd.seq (Cd.region (Ops.mi rfl rfl rfl (Ops.n (tQ (Cd.block ?_))))))))
        refine Cd.loop (α := Nat × (Option Addr × Nat)) (fun z => [(2, .pointer A2), (4, .slice A4 S.length c4), (6, .slice A10 ((faS S i).length + 1) c10), (7, .slice z.2.1 (cs ((faS S i).flatten ++ (gl S (i : Int)).take z.1)).length z.2.2), (8, .int .i64 (i : Int)), (11, .int .i64 (z.1 : Int))])
          (fun z w' => z.1 ≤ (gl S (i : Int)).length ∧ St w w' [CkI 2 z.2.1 (cs ((faS S i).flatten ++ (gl S (i : Int)).take z.1)).length z.2.2 (cs ((faS S i).flatten ++ (gl S (i : Int)).take z.1)), CkR 28 A10 ((faS S i).length + 1) c10 (rs6 ++ [rg rs4 (i : Int)]), CkR 28 A4 S.length c4 rs4, cxZ A2]) (fun z => (gl S (i : Int)).length - z.1) (0, (A7, c7)) ⟨rfl, rfl, rfl, by show Value.slice A7 (cs (faS S i).flatten).length c7 = .slice A7 (cs ((faS S i).flatten ++ (gl S (i : Int)).take 0)).length c7; rw [List.take_zero, List.append_nil], rfl, rfl, trivial⟩ ⟨Nat.zero_le _, by simpa using hS7⟩ ?_
        rintro ⟨j, A11, c11⟩ e w8 ⟨hj, hS8⟩
        dsimp only at hj hS8 ⊢
        have hS48 : RowsI w8 A4 S.length rs4 S := (hW.later hS8.below).I (hS8.rdR 2 rfl)
        have hri8 := hS48.at_ (i := (i : Int)) (by omega) (by omega)
        refine Cd.seq (Cd.seq (Cd.region (Ops.mi rfl rfl rfl (Ops.ms rfl rfl rfl (Ops.mi rfl rfl rfl (Ops.idx hS48.top.2 rfl rfl rfl (by omega) (by omega) (Ops.ld_sl hS48.top rfl (by omega) rfl rfl (Ops.len rfl rfl (Ops.lss rfl rfl rfl ?_)))))))))
        refine Ops.n (tQ ?_)
        refine Cd.cond_p _ rfl (fun h4 => ?_) (fun h4 => ?_)
        · have hjl : j < (gl S (i : Int)).length := by omega
          have hfe : cs (cs ((faS S i).flatten ++ (gl S (i : Int)).take j) ++ [gi (gl S (i : Int)) (j : Int)]) = cs ((faS S i).flatten ++ (gl S (i : Int)).take (j + 1)) := by rw [cs_cs, take_succ_gi hjl, List.append_assoc]
          have hcap11 := hS8.cap 0 rfl
          have hvl8 := hvl ((faS S i).flatten ++ (gl S (i : Int)).take j) (fun x hx => by
            rcases List.mem_append.1 hx with hx | hx
            · obtain ⟨l, hl, hxl⟩ := List.mem_flatten.1 hx
              exact ⟨l, List.mem_of_mem_take (List.mem_filter.1 hl).1, hxl⟩
            · exact ⟨_, hgS, List.mem_of_mem_take hx⟩)
          refine Cd.skip (tQ (Cd.seq (Cd.block (Cd.region (Ops.ms rfl rfl rfl (Ops.ms rfl rfl rfl (Ops.mi rfl rfl rfl (Ops.idx hS48.top.2 rfl rfl rfl (by omega) (by omega) (Ops.ld_sl hS48.top rfl (by omega) rfl rfl ?_)))))))))
          refine Ops.mi rfl rfl rfl (Ops.idx hri8.2 rfl rfl rfl (by omega) (by omega) (Ops.ld_int hri8 rfl (by omega) rfl rfl (Ops.call (l17Insert_c A11 _ c11 _ (gi (gl S (i : Int)) (j : Int)) _ (hS8.rdI 0 rfl) hcap11.1 hvl8 (cs_SA _)) rfl rfl rfl ?_)))
          rintro _ w9 ⟨A12, c12, rfl, hbl, hor⟩
          have hS9 := hS8.insRow (i := 0) rfl hbl hor
          rw [hfe] at hS9 ⊢
          refine Ops.ms rfl rfl rfl (Ops.n (blockQ_n (tQ (Cd.region (Ops.mi rfl rfl rfl (Ops.add rfl rfl rfl (by omega) (Ops.mi rfl rfl rfl (Ops.n (tQ ?_)))))))))
          exact ⟨(j + 1, (A12, c12)), by show (gl S (i : Int)).length - (j + 1) < (gl S (i : Int)).length - j; omega, ⟨rfl, rfl, rfl, rfl, rfl, rfl, trivial⟩, by show j + 1 ≤ _; omega, hS9⟩
        · rw [show (gl S (i : Int)).take j = gl S (i : Int) from List.take_of_length_le (by omega)] at hS8 ⊢
          have hfe : (faS S i).flatten ++ gl S (i : Int) = (faS S (i + 1)).flatten := by rw [hsucc]; simp
          rw [hfe, ← hl1] at hS8
          rw [← hsucc, ← hl1] at hW7
          rw [hfe, ← hl1]
          refine Cd.exit (thenQ_x (thenQ_x (blockQ_x (blockQ_n (tQ (Cd.region (Ops.mi rfl rfl rfl (Ops.add rfl rfl rfl (by omega) (Ops.mi rfl rfl rfl ?_)))))))))
          refine Ops.n (tQ ?_)
          exact ⟨(i + 1, (A10, c10), rs6 ++ [rg rs4 (i : Int)], (A11, c11)), by show S.length - (i + 1) < S.length - i; omega, ⟨rfl, rfl, rfl, rfl, rfl, trivial⟩, by show i + 1 ≤ S.length; omega, hW7, hS8⟩
      · rw [← hb, if_neg (by rw [h3]; decide)] at hsucc
        rw [← hsucc] at hW6 hS5 ⊢
        refine Cd.skip (blockQ_n (tQ (Cd.region (Ops.mi rfl rfl rfl (Ops.add rfl rfl rfl (by omega) (Ops.mi rfl rfl rfl (Ops.n (tQ ?_))))))))
        exact ⟨(i + 1, (A6, c6), rs6, (A7, c7)), by show S.length - (i + 1) < S.length - i; omega, ⟨rfl, rfl, rfl, rfl, rfl, trivial⟩, by show i + 1 ≤ S.length; omega, hW6, hS5⟩
  have hiS : i = S.length := by omega
  rw [hiS, faS_all, ← hfac, hcv] at hS4 ⊢
  rw [hiS, faS_all, ← hfac] at hW6
  clear h1 hi hiS hSm
  have hFl : (facP ls).length ≤ 1000000 := by rw [hfac]; exact Nat.le_trans (List.length_filter_le _ _) (by omega)
  have hFin : ∀ l ∈ facP ls, Ins l (cvP ls) := fun l hl => cvP_ins (facP_mem.1 hl).1
  have hFr : ∀ l ∈ facP ls, l.length ≤ 1000000 := fun l hl => by
    have h1 := hsa l (facP_mem.1 hl).1
    have h2 := Ins.len h1 (cs_SA ls.flatten) (hFin l hl)
    have h3 := cs_len ls.flatten
    omega
  have hVl : (cvP ls).length ≤ 1000000 := Nat.le_trans (cs_len _) hfl
  have hVS : SA (cvP ls) := cs_SA _
  generalize hFe : facP ls = F at *
  have hcxF : cxF ls = F.map (List.map (ix (cvP ls))) := by unfold cxF; rw [hFe]
  generalize hVe : cvP ls = Vs at *
  have hbad : CxBad ls ↔ ((∃ l ∈ F, 6 < l.length) ∨ 60 < Vs.length ∨ 400 < F.length) := by unfold CxBad; rw [hFe, hVe, hlong]
  refine Cd.exit (thenQ_x (thenQ_x (blockQ_x (tQ (Cd.seq (Cd.region (Ops.ms rfl rfl rfl (Ops.len rfl rfl (Ops.bldF2 (by exact inferInstance) (by exact inferInstance) rfl rfl rfl rfl rfl ?_)))))))))
  refine Ops.new2 hS4 rfl ?_
  intro A12 w5 hS5
  refine Ops.st_agg 2 0 hS5 rfl rfl rfl rfl rfl rfl rfl ?_
  intro w6 hS6
  have hS6 : St w w6 ([Bx 26 2 A12 [.int .i64 (Vs.length : Int), .slice none 0 0], CkI 2 A7 Vs.length c7 Vs, CkR 28 A6 F.length c6 rs6, cxZ A2, CkR 28 none 0 0 []] ++ rowsCk 2 [] (((F.take 0)).map (List.map (ix Vs)))) := by
    have h := (hS6.sub (List.Sublist.cons_cons _ (List.Sublist.cons_cons _ (List.Sublist.cons_cons _ (List.sublist_cons_self _ _))))).nil 28
    refine h.perm ?_
    exact List.perm_append_comm (l₁ := [CkR 28 none 0 0 []]) (l₂ := [_, _, _, _])
  refine Ops.n (tQ (Cd.seq (Cd.seq (Cd.region (Ops.mi rfl rfl rfl (Ops.n (tQ (Cd.block ?_))))))))
  refine Cd.loop (α := Nat × (Option Addr × Nat) × List SlV) (fun z => [(2, .pointer A2), (6, .slice A6 F.length c6), (7, .slice A7 Vs.length c7), (12, .pointer A12), (13, .int .i64 (z.1 : Int))])
    (fun z w' => z.1 ≤ F.length ∧ (∀ l ∈ F.take z.1, l.length ≤ 6) ∧ z.2.2.length = z.1 ∧ St w w' ([Bx 26 2 A12 [.int .i64 (Vs.length : Int), .slice z.2.1.1 z.1 z.2.1.2], CkI 2 A7 Vs.length c7 Vs, CkR 28 A6 F.length c6 rs6, cxZ A2, CkR 28 z.2.1.1 z.1 z.2.1.2 z.2.2] ++ rowsCk 2 z.2.2 ((F.take z.1).map (List.map (ix Vs))))) (fun z => F.length - z.1) (0, (none, 0), []) ⟨rfl, rfl, rfl, rfl, rfl, trivial⟩ ⟨Nat.zero_le _, by simp, rfl, hS6⟩ ?_
  clear hS6 hS5 hS4
  rintro ⟨k, ⟨A13, c13⟩, rs13⟩ e w6 ⟨hk, h6, hrl13, hS6⟩
  dsimp only at hk h6 hrl13 hS6 ⊢
  refine Cd.seq (Cd.seq (Cd.region (Ops.mi rfl rfl rfl (Ops.ms rfl rfl rfl (Ops.len rfl rfl (Ops.lss rfl rfl rfl (Ops.n (tQ ?_))))))))
  refine Cd.cond_p _ rfl (fun h1 => ?_) (fun h1 => ?_)
  · have hkF : k < F.length := by omega
    have hgF : gl F (k : Int) ∈ F := by rw [gl_mem hkF]; exact List.getElem_mem _
    have hgl := hFr _ hgF
    have hgv := hFin _ hgF
    refine Cd.skip (tQ (Cd.seq (Cd.block (Cd.seq (Cd.region (Ops.bs0 hS6 rfl ?_))))))
    intro A14 w7 hS7
    have hS7 : St w w7 (CkI 2 A14 0 0 [] :: ([Bx 26 2 A12 [.int .i64 (Vs.length : Int), .slice A13 k c13], CkI 2 A7 Vs.length c7 Vs, CkR 28 A6 F.length c6 rs6, cxZ A2, CkR 28 A13 k c13 rs13] ++ rowsCk 2 rs13 ((F.take k).map (List.map (ix Vs))))) := hS7
    refine Ops.ms rfl rfl rfl (Ops.n (tQ (Cd.seq (Cd.seq (Cd.region (Ops.mi rfl rfl rfl (Ops.n (tQ (Cd.block ?_)))))))))
    refine Cd.loop (α := Nat × (Option Addr × Nat)) (fun z => [(2, .pointer A2), (6, .slice A6 F.length c6), (7, .slice A7 Vs.length c7), (12, .pointer A12), (13, .int .i64 (k : Int)), (14, .slice z.2.1 z.1 z.2.2), (15, .int .i64 (z.1 : Int))])
      (fun z w' => z.1 ≤ (gl F (k : Int)).length ∧ St w w' (CkI 2 z.2.1 z.1 z.2.2 (((gl F (k : Int)).take z.1).map (ix Vs)) :: ([Bx 26 2 A12 [.int .i64 (Vs.length : Int), .slice A13 k c13], CkI 2 A7 Vs.length c7 Vs, CkR 28 A6 F.length c6 rs6, cxZ A2, CkR 28 A13 k c13 rs13] ++ rowsCk 2 rs13 ((F.take k).map (List.map (ix Vs)))))) (fun z => (gl F (k : Int)).length - z.1) (0, (A14, 0)) ⟨rfl, rfl, rfl, rfl, rfl, rfl, rfl, trivial⟩ ⟨Nat.zero_le _, hS7⟩ ?_
    clear hS7
    rintro ⟨j, A14, c14⟩ e w7 ⟨hj, hS7⟩
    dsimp only at hj hS7 ⊢
    have hF7 : RowsI w7 A6 F.length rs6 F := (hW6.later hS7.below).I (hS7.rdR 3 rfl)
    have hrk := hF7.at_ (i := (k : Int)) (by omega) (by omega)
    have hrkl := hrk.1
    refine Cd.seq (Cd.seq (Cd.region (Ops.mi rfl rfl rfl (Ops.ms rfl rfl rfl (Ops.mi rfl rfl rfl (Ops.idx hF7.top.2 rfl rfl rfl (by omega) (by omega) (Ops.ld_sl hF7.top rfl (by omega) rfl rfl (Ops.len rfl rfl (Ops.lss rfl rfl rfl ?_)))))))))
    refine Ops.n (tQ ?_)
    refine Cd.cond_p _ rfl (fun h2 => ?_) (fun h2 => ?_)
    · have hjl : j < (gl F (k : Int)).length := by omega
      have hxv : gi (gl F (k : Int)) (j : Int) ∈ Vs := hgv _ (by rw [gi_mem hjl]; exact List.getElem_mem _)
      refine Cd.skip (tQ (Cd.seq (Cd.block (Cd.region (Ops.ms rfl rfl rfl (Ops.ms rfl rfl rfl (Ops.ms rfl rfl rfl (Ops.mi rfl rfl rfl (Ops.idx hF7.top.2 rfl rfl rfl (by omega) (by omega) ?_)))))))))
      refine Ops.ld_sl hF7.top rfl (by omega) rfl rfl (Ops.mi rfl rfl rfl (Ops.idx hrk.2 rfl rfl rfl (by omega) (by omega) (Ops.ld_int hrk rfl (by omega) rfl rfl (Ops.call (l01IndexX_c A7 Vs.length c7 Vs _ _ (hS7.rdI 2 rfl) (by omega) hVS hxv) rfl rfl rfl ?_))))
      rintro _ _ ⟨rfl, rfl⟩
      refine Ops.bs1I hS7 rfl rfl rfl ?_
      intro A15 w8 hS8
      refine Ops.appI 1 hS8 rfl (hS8.rdI 0 rfl) rfl rfl rfl (by omega) (by omega) rfl ?_
      intro A16 c16 w9 hS9
      have hS9 := hS9.tail
      refine Ops.ms rfl rfl rfl (Ops.n (blockQ_n (tQ (Cd.region (Ops.mi rfl rfl rfl (Ops.add rfl rfl rfl (by omega) (Ops.mi rfl rfl rfl (Ops.n (tQ ?_)))))))))
      refine ⟨(j + 1, (A16, c16)), by show (gl F (k : Int)).length - (j + 1) < (gl F (k : Int)).length - j; omega, ⟨rfl, rfl, rfl, rfl, rfl, rfl, rfl, trivial⟩, by show j + 1 ≤ _; omega, ?_⟩
      show St w w9 (CkI 2 A16 (j + 1) c16 (((gl F (k : Int)).take (j + 1)).map (ix Vs)) :: _)
      rw [take_succ_gi hjl, List.map_append]
      exact hS9
    · have hjl : j = (gl F (k : Int)).length := by omega
      rw [hjl, List.take_length] at hS7
      rw [hjl]
      refine Cd.exit (thenQ_x (thenQ_x (blockQ_x (tQ (Cd.seq (Cd.seq (Cd.region (Ops.ms rfl rfl rfl (Ops.len rfl rfl ?_)))))))))
      refine Ops.gtr rfl rfl rfl (Ops.n (tQ ?_))
      refine Cd.cond_p _ rfl (fun h3 => ?_) (fun h3 => ?_)
      · have hb : CxBad ls := hbad.2 (.inl ⟨_, hgF, by omega⟩)
        unfold cxV cxL cxK
        rw [if_pos hb, if_pos hb, if_pos hb]
        refine Cd.seq (Cd.region (Ops.bldZ2 (by exact inferInstance) (by exact inferInstance) rfl rfl rfl (Ops.st_agg 2 4 hS7 rfl rfl rfl rfl rfl rfl rfl ?_)))
        intro w8 hS8
        refine Ops.mi rfl rfl rfl (Ops.n (tQ (Cd.ret (thenQ_r (blockQ_r (thenQ_r (thenQ_r (blockQ_r (thenQ_r ?_)))))))))
        skip
        refine retc2_r rfl (hS8.rd 4 rfl) rfl ?_
        exact AnsC.none hS8
      · refine Cd.skip (tQ (Cd.region (Ops.fld (hS7.rd 1 rfl) rfl rfl rfl rfl inferInstance (Ops.ldf_s (hS7.rd 1 rfl) rfl rfl rfl rfl rfl (Ops.ms rfl rfl rfl (Ops.bs1R hS7 rfl rfl rfl ?_))))))
        intro A15 w8 hS8
        refine Ops.appR 6 hS8 rfl (hS8.rdR 0 rfl) rfl rfl rfl (by omega) (by omega) rfl ?_
        intro A16 c16 w9 hS9
        have hS9 : St w w9 (CkI 2 A14 (gl F (k : Int)).length c14 ((gl F (k : Int)).map (ix Vs)) :: ([Bx 26 2 A12 [.int .i64 (Vs.length : Int), .slice A13 k c13], CkI 2 A7 Vs.length c7 Vs, CkR 28 A6 F.length c6 rs6, cxZ A2, CkR 28 A16 (k + 1) c16 (rs13 ++ [⟨A14, (gl F (k : Int)).length, c14⟩])] ++ rowsCk 2 rs13 ((F.take k).map (List.map (ix Vs))))) := hS9.tail
        skip
        refine Ops.fld (hS9.rd 1 rfl) rfl rfl rfl rfl inferInstance (Ops.stf 1 hS9 rfl rfl rfl rfl rfl ?_)
        intro w10 hS10
        have hS10 : St w w10 (CkI 2 A14 (gl F (k : Int)).length c14 ((gl F (k : Int)).map (ix Vs)) :: ([Bx 26 2 A12 [.int .i64 (Vs.length : Int), .slice A16 (k + 1) c16], CkI 2 A7 Vs.length c7 Vs, CkR 28 A6 F.length c6 rs6, cxZ A2, CkR 28 A16 (k + 1) c16 (rs13 ++ [⟨A14, (gl F (k : Int)).length, c14⟩])] ++ rowsCk 2 rs13 ((F.take k).map (List.map (ix Vs))))) := hS10
        refine Ops.n (blockQ_n (tQ (Cd.region (Ops.mi rfl rfl rfl (Ops.add rfl rfl rfl (by omega) (Ops.mi rfl rfl rfl (Ops.n (tQ ?_))))))))
        refine ⟨(k + 1, (A16, c16), rs13 ++ [⟨A14, (gl F (k : Int)).length, c14⟩]), by show F.length - (k + 1) < F.length - k; omega, ⟨rfl, rfl, rfl, rfl, rfl, trivial⟩, by show k + 1 ≤ F.length; omega, ?_, by show (rs13 ++ [_]).length = k + 1; simp; omega, ?_⟩
        · show ∀ l ∈ F.take (k + 1), l.length ≤ 6
          rw [take_succ_gl hkF]
          intro l hl
          rcases List.mem_append.1 hl with hl | hl
          · exact h6 l hl
          · obtain rfl : l = gl F (k : Int) := by simpa using hl
            omega
        · show St w w10 ([Bx 26 2 A12 [.int .i64 (Vs.length : Int), .slice A16 (k + 1) c16], CkI 2 A7 Vs.length c7 Vs, CkR 28 A6 F.length c6 rs6, cxZ A2, CkR 28 A16 (k + 1) c16 (rs13 ++ [⟨A14, (gl F (k : Int)).length, c14⟩])] ++ rowsCk 2 (rs13 ++ [⟨A14, (gl F (k : Int)).length, c14⟩]) ((F.take (k + 1)).map (List.map (ix Vs))))
          rw [take_succ_gl hkF, List.map_append, rowsCk_append (by rw [hrl13]; simp; omega), ← List.append_assoc]
          exact hS10.perm (List.perm_append_comm (l₁ := [CkI 2 A14 (gl F (k : Int)).length c14 ((gl F (k : Int)).map (ix Vs))]))
  · have hkF : k = F.length := by omega
    subst hkF
    rw [List.take_length] at hS6 h6
    refine Cd.exit (thenQ_x (thenQ_x (blockQ_x (tQ (Cd.seq (Cd.seq (Cd.region (Ops.ms rfl rfl rfl (Ops.len rfl rfl ?_)))))))))
    refine Ops.gtr rfl rfl rfl (Ops.mb rfl rfl rfl ?_)
    refine Ops.split_p 137 rfl (fun h2 => ?_) (fun h2 => ?_)
    · have hb : CxBad ls := hbad.2 (.inr (.inl (by omega)))
      unfold cxV cxL cxK
      rw [if_pos hb, if_pos hb, if_pos hb]
      refine Ops.k rfl rfl rfl rfl rfl (Ops.k rfl rfl rfl rfl rfl (Ops.k rfl rfl rfl rfl rfl (Ops.pick_t rfl rfl rfl (Ops.n (tQ (Cd.cond_t rfl (Cd.seq (Cd.region (Ops.bldZ2 (by exact inferInstance) (by exact inferInstance) rfl rfl rfl ?_)))))))))
      refine Ops.st_agg 2 3 hS6 rfl rfl rfl rfl rfl rfl rfl ?_
      intro w8 hS8
      refine Ops.mi rfl rfl rfl (Ops.n (tQ (Cd.ret (thenQ_r ?_))))
      skip
      refine retc2_r rfl (hS8.rd 3 rfl) rfl ?_
      exact AnsC.none hS8
    · refine Ops.g rfl rfl rfl (Ops.ms rfl rfl rfl (Ops.g rfl rfl rfl (Ops.len rfl rfl (Ops.g rfl rfl rfl (Ops.gtr rfl rfl rfl (Ops.pick_f rfl rfl rfl (Ops.n (tQ ?_))))))))
      refine Cd.cond_p _ rfl (fun h3 => ?_) (fun h3 => ?_)
      · have hb : CxBad ls := hbad.2 (.inr (.inr (by omega)))
        unfold cxV cxL cxK
        rw [if_pos hb, if_pos hb, if_pos hb]
        refine Cd.seq (Cd.region (Ops.bldZ2 (by exact inferInstance) (by exact inferInstance) rfl rfl rfl (Ops.st_agg 2 3 hS6 rfl rfl rfl rfl rfl rfl rfl ?_)))
        intro w8 hS8
        refine Ops.mi rfl rfl rfl (Ops.n (tQ (Cd.ret (thenQ_r ?_))))
        skip
        refine retc2_r rfl (hS8.rd 3 rfl) rfl ?_
        exact AnsC.none hS8
      · have hok : ¬ CxBad ls := fun h => by
          rcases hbad.1 h with ⟨l, hl, h⟩ | h | h
          · have := h6 l hl; omega
          · omega
          · omega
        unfold cxV cxL cxK
        rw [if_neg hok, if_neg hok, if_neg hok, hcxF, hVe]
        refine Cd.skip (tQ (Cd.seq (Cd.region (Ops.ld_agg 1 (hS6.rd 0 rfl) rfl rfl rfl (Ops.st_agg 2 3 hS6 rfl rfl rfl rfl rfl rfl rfl ?_)))))
        intro w8 hS8
        have hS9 : St w w8 (mat 28 2 A13 (F.map (List.map (ix Vs))).length c13 rs13 (F.map (List.map (ix Vs))) ++ []) := by
          rw [List.append_nil, List.length_map]
          exact hS8.sub (List.Sublist.cons _ (List.Sublist.cons _ (List.Sublist.cons _ (List.sublist_cons_self _ _))))
        refine Ops.mi rfl rfl rfl (Ops.n (tQ (Cd.ret ?_)))
        skip
        refine retc2_r rfl (hS8.rd 3 rfl) rfl ?_
        exact ⟨A13, c13, rs13, by rw [List.length_map]; rfl, by rw [List.length_map]; exact hrl13, hS9⟩
end Go.Proofs.YtiblelgfkakmiaaGreatDoor.Vc
/-
 Plain mathematics of complexes: faces with so many elements, and their numbers.
-/
namespace Go.Proofs.YtiblelgfkakmiaaGreatDoor.Vc
def faL (F : List (List Int)) (k : Nat) : List (List Int) := if k = 0 then [[]] else F.flatMap fun f => ptsP f k
def fcs (F : List (List Int)) (k : Nat) : List (List Int) := (faL F k).foldl putL []
theorem faL_mem {F : List (List Int)} {k : Nat} {x : List Int} : x ∈ faL F k ↔ (k = 0 ∧ x = []) ∨ (0 < k ∧ ∃ f ∈ F, x.Sublist f ∧ x.length = k) := by
 unfold faL
 by_cases h : k = 0
 ·simp [h]
 ·rw [if_neg h, List.mem_flatMap]
  simp only [ptsP_mem]
  constructor
  ·rintro ⟨f, h1, h2⟩; exact .inr ⟨by omega, f, h1, h2⟩
  ·rintro (h' | ⟨_, f, h1, h2⟩)
   ·exact absurd h'.1 h
   ·exact ⟨f, h1, h2⟩
theorem fcs_SL (F : List (List Int)) (k : Nat) : SL (fcs F k) := (foldPut_SL _ (by simp [SL])).1
theorem fcs_mem {F : List (List Int)} {k : Nat} {x : List Int} : x ∈ fcs F k ↔ x ∈ faL F k := by
 rw [fcs, (foldPut_SL _ (by simp [SL])).2]; simp
theorem fcs_of {F : List (List Int)} {k : Nat} {l : List (List Int)} (hs : SL l) (h : ∀ x, x ∈ l ↔ x ∈ faL F k) : l = fcs F k :=
 hs.eq (fcs_SL F k) fun x => (h x).trans fcs_mem.symm
theorem fcs_zero (F : List (List Int)) : fcs F 0 = [[]] := (fcs_of (by simp [SL]) fun x => by simp [faL]).symm
theorem fcs_len {F : List (List Int)} {k : Nat} {x : List Int} (h : x ∈ fcs F k) : x.length = k := by
 rcases faL_mem.1 (fcs_mem.1 h) with ⟨h1, h2⟩ | ⟨_, f, _, _, h2⟩
 ·rw [h1, h2]; rfl
 ·exact h2
theorem faL_num {F : List (List Int)} (k : Nat) (h6 : ∀ f ∈ F, f.length ≤ 6) : (faL F k).length ≤ 64 * F.length + 1 := by
 unfold faL
 split
 ·simp
 ·suffices h : (F.flatMap fun f => ptsP f k).length ≤ 64 * F.length by omega
  induction F with
  | nil => simp
  | cons a r ih =>
   have h1 := ptsP_small (l := a) k (h6 a (by simp))
   have h2 := ih fun f hf => h6 f (by simp [hf])
   rw [List.flatMap_cons, List.length_append, List.length_cons]
   omega
theorem fcs_num {F : List (List Int)} (k : Nat) (h6 : ∀ f ∈ F, f.length ≤ 6) : (fcs F k).length ≤ 64 * F.length + 1 := by
 have h1 := faL_num k h6
 have h2 : (fcs F k).length ≤ (faL F k).length := by
  have := foldPut_len (faL F k) []
  simpa [fcs] using this
 omega
def dpt (F : List (List Int)) : Nat := F.foldl (fun d f => max d f.length) 0
theorem foldMax (F : List (List Int)) : ∀ d : Nat, (∀ f ∈ F, f.length ≤ F.foldl (fun d f => max d f.length) d) ∧ d ≤ F.foldl (fun d f => max d f.length) d ∧ (F.foldl (fun d f => max d f.length) d = d ∨ ∃ f ∈ F, f.length = F.foldl (fun d f => max d f.length) d) := by
 induction F with
 | nil => intro d; simp
 | cons a r ih =>
  intro d
  obtain ⟨h1, h2, h3⟩ := ih (max d a.length)
  rw [List.foldl_cons]
  refine ⟨fun f hf => ?_, by omega, ?_⟩
  ·rcases List.mem_cons.1 hf with rfl | hf
   ·omega
   ·exact h1 f hf
  ·rcases h3 with h3 | ⟨f, hf, h3⟩
   ·by_cases e : a.length ≤ d
    ·exact .inl (by omega)
    ·exact .inr ⟨a, by simp, by omega⟩
   ·exact .inr ⟨f, by simp [hf], h3⟩
theorem dpt_le {F : List (List Int)} {f : List Int} (h : f ∈ F) : f.length ≤ dpt F := (foldMax F 0).1 f h
theorem dpt_bd {F : List (List Int)} {b : Nat} (h : ∀ f ∈ F, f.length ≤ b) : dpt F ≤ b := by
 rcases (foldMax F 0).2.2 with h1 | ⟨f, hf, h1⟩
 ·unfold dpt; omega
 ·have := h f hf; unfold dpt; omega
theorem dpt_ex {F : List (List Int)} (h : F ≠ []) : ∃ f ∈ F, f.length = dpt F := by
 rcases (foldMax F 0).2.2 with h1 | h1
 ·match F, h with
  | a :: r, _ => exact ⟨a, by simp, by have := dpt_le (F := a :: r) (f := a) (by simp); unfold dpt at this ⊢; omega⟩
 ·exact h1
theorem dpt_succ {F : List (List Int)} {i : Nat} (h : i < F.length) : dpt (F.take (i + 1)) = max (dpt (F.take i)) (gl F (i : Int)).length := by
 unfold dpt
 rw [take_succ_gl h, List.foldl_append]; rfl
theorem fcs_short {F : List (List Int)} {k : Nat} (h : dpt F < k) : fcs F k = [] := by
 rw [List.eq_nil_iff_forall_not_mem]
 intro x hx
 rcases faL_mem.1 (fcs_mem.1 hx) with ⟨h1, _⟩ | ⟨_, f, hf, h1, h2⟩
 ·omega
 ·have := dpt_le hf
  have := h1.length_le
  omega
def fvP (F : List (List Int)) : List Int := (List.range (dpt F + 1)).map fun k => ((fcs F k).length : Int)
theorem fvP_len (F : List (List Int)) : (fvP F).length = dpt F + 1 := by simp [fvP]
theorem fvP_at (F : List (List Int)) {k : Nat} (h : k ≤ dpt F) : gi (fvP F) (k : Int) = ((fcs F k).length : Int) := by
 rw [gi_mem (by rw [fvP_len]; omega)]
 simp [fvP]
end Go.Proofs.YtiblelgfkakmiaaGreatDoor.Vc
