/-
  The texts Key, Gi1, Co9, Co5, Two, Co10, Co11, Co12 in one. Conditions: as each part states them.
-/
import Derived.Test.YtdedegbendjmbaaGreatDoorInst
import Derived.Test.YtdedegbendjmbaaGreatDoorZf
import Derived.Test.YtdedegbendjmbaaGreatDoorZb
import Derived.Lib.ItoaLen
import Derived.Test.YtdedegbendjmbaaGreatDoorLayd
import Derived.Shelf.Strconv.AppendIntPublic10
import Derived.Test.YtdedegbendjmbaaGreatDoorZc
import Derived.Test.YtdedegbendjmbaaGreatDoorZe
/-
  The text of a list of numbers, which is alike for equal lists alone. Conditions: the library's table of powers of ten holds what the program's text lays there.
-/
namespace Go.Proofs.YtdedegbendjmbaaGreatDoor.Vc
open Go.RowKit

/-! the text, plainly -/
def keyL (xs : List Int) : List UInt8 := xs.flatMap fun x => Lib.itoa x ++ [32]
def keyB (xs : List Int) : ByteArray := ⟨(keyL xs).toArray⟩
def valD (l : List UInt8) : Nat := l.foldl (fun a b => 10 * a + (b.toNat - 48)) 0
theorem u8_digit {d : Nat} (h : d < 10) : (UInt8.ofNat (48 + d)).toNat = 48 + d := by
  rw [UInt8.toNat_ofNat']
  omega
theorem dec_val : ∀ u : Nat, valD (Lib.decDigits u) = u ∧ ∀ b ∈ Lib.decDigits u, 48 ≤ b.toNat ∧ b.toNat ≤ 57 := by
  intro u
  induction u using Nat.strongRecOn with
  | ind u ih =>
    rw [Lib.decDigits]
    split
    · rename_i h
      refine ⟨?_, fun b hb => ?_⟩
      · simp only [valD, List.foldl_cons, List.foldl_nil, u8_digit h]; omega
      · simp only [List.mem_singleton] at hb
        subst hb
        rw [u8_digit h]; omega
    · rename_i h
      obtain ⟨h1, h2⟩ := ih (u / 10) (by omega)
      refine ⟨?_, fun b hb => ?_⟩
      · unfold valD at h1 ⊢
        rw [List.foldl_append, h1]
        simp only [List.foldl_cons, List.foldl_nil, u8_digit (show u % 10 < 10 by omega)]
        omega
      · rcases List.mem_append.1 hb with hb | hb
        · exact h2 b hb
        · simp only [List.mem_singleton] at hb
          subst hb
          rw [u8_digit (by omega)]; omega
theorem dec_inj {u v : Nat} (h : Lib.decDigits u = Lib.decDigits v) : u = v := by rw [← (dec_val u).1, h, (dec_val v).1]
theorem itoa_bytes {x : Int} : ∀ b ∈ Lib.itoa x, b ≠ 32 := by
  intro b hb e
  subst e
  unfold Lib.itoa at hb
  split at hb
  · rcases List.mem_cons.1 hb with h | h
    · exact absurd h (by decide)
    · have := (dec_val _).2 _ h
      exact absurd this (by decide)
  · have := (dec_val _).2 _ hb
    exact absurd this (by decide)
theorem itoa_inj {x y : Int} (h : Lib.itoa x = Lib.itoa y) : x = y := by
  have no45 : ∀ (u v : Nat), 45 :: Lib.decDigits u ≠ Lib.decDigits v := fun u v e => by
    have := (dec_val v).2 45 (by rw [← e]; simp)
    exact absurd this (by decide)
  unfold Lib.itoa at h
  split at h <;> split at h
  · simp only [List.cons.injEq, true_and] at h
    have := dec_inj h
    omega
  · exact absurd h (no45 _ _)
  · exact absurd h.symm (no45 _ _)
  · have := dec_inj h
    omega
theorem split_at : ∀ {a b r s : List UInt8}, (∀ x ∈ a, x ≠ 32) → (∀ x ∈ b, x ≠ 32) → a ++ 32 :: r = b ++ 32 :: s → a = b ∧ r = s
  | [], [], _, _, _, _, h => by simpa using h
  | [], y :: b, _, _, _, hb, h => by
    simp only [List.nil_append, List.cons_append, List.cons.injEq] at h
    exact absurd h.1.symm (hb y (by simp))
  | x :: a, [], _, _, ha, _, h => by
    simp only [List.nil_append, List.cons_append, List.cons.injEq] at h
    exact absurd h.1 (ha x (by simp))
  | x :: a, y :: b, _, _, ha, hb, h => by
    simp only [List.cons_append, List.cons.injEq] at h
    obtain ⟨h1, h2⟩ := split_at (fun z hz => ha z (by simp [hz])) (fun z hz => hb z (by simp [hz])) h.2
    exact ⟨by rw [h.1, h1], h2⟩
theorem keyL_cons (x : Int) (xs : List Int) : keyL (x :: xs) = Lib.itoa x ++ 32 :: keyL xs := by simp [keyL]
theorem keyL_snoc (xs : List Int) (x : Int) : keyL (xs ++ [x]) = (keyL xs ++ Lib.itoa x) ++ [32] := by simp [keyL]
theorem keyL_inj : ∀ {xs ys : List Int}, keyL xs = keyL ys → xs = ys
  | [], [], _ => rfl
  | [], y :: ys, h => by rw [keyL_cons] at h; simp [keyL] at h
  | x :: xs, [], h => by rw [keyL_cons] at h; simp [keyL] at h
  | x :: xs, y :: ys, h => by
    rw [keyL_cons, keyL_cons] at h
    obtain ⟨h1, h2⟩ := split_at itoa_bytes itoa_bytes h
    rw [itoa_inj h1, keyL_inj h2]
theorem keyB_inj {xs ys : List Int} (h : keyB xs = keyB ys) : xs = ys := by
  have h1 : (keyL xs).toArray = (keyL ys).toArray := congrArg ByteArray.data h
  exact keyL_inj (by simpa using h1)
theorem fold_push : ∀ (l : List UInt8) (s : ByteArray), (l.map fun b => ((b.toNat : Nat) : Int)).foldl (fun r n => r.push (UInt8.ofNat n.toNat)) s = ⟨s.data ++ l.toArray⟩
  | [], s => by simp
  | b :: l, s => by
    simp only [List.map_cons, List.foldl_cons]
    rw [fold_push l]
    have e : UInt8.ofNat ((b.toNat : Nat) : Int).toNat = b := by simp
    rw [e]
    have e2 : (s.push b).data = s.data.push b := rfl
    rw [e2]
    congr 1
    apply Array.ext'
    simp

/-! the library's table -/
def Tab (w : World) : Prop := Lib.TabIs Tryz.prog w "internal/strconv.uint64pow10" .u64 Lib.pow10Tab
theorem Tab.later {w w' : World} (h : Tab w) (hb : Below w.heap.size w w') : Tab w' := Lib.tabBelow_of_tabIs h w' hb.toBelow

/-- a row of bytes of the call's own -/
def OwB (B : Nat) (w : World) (A : Option Addr) (m c : Nat) (l : List UInt8) : Prop := w.ownsRow B 5 1 (.slice A m c) m (Lib.byteCells l)
theorem owns_slice {B m : Nat} {w : World} {v : Value} {xs : List Value} (h : w.ownsRow B 5 1 v m xs) : ∃ A c, v = .slice A m c := by
  rcases h.2 with ⟨rfl, rfl⟩ | ⟨g, cap, cur, rfl, _⟩
  · exact ⟨_, _, rfl⟩
  · exact ⟨_, _, rfl⟩
theorem OwB.later {B : Nat} {w w' : World} {A : Option Addr} {m c : Nat} {l : List UInt8} (h : OwB B w A m c l) (hb : Below w.heap.size w w') : OwB B w' A m c l := by
  refine ⟨h.1, ?_⟩
  rcases h.2 with h1 | ⟨g, cap, cur, h1, h2, h3, r⟩
  · exact .inl h1
  · exact .inr ⟨g, cap, cur, h1, h2, by rw [hb.block g (Array.getElem?_eq_some_iff.1 h3).1]; exact h3, r⟩
section
variable {N : Nat} {ops : Array Oper} {K : Env → World → Prop} {rest : List Oper} {e : Env} {w0 w w' : World} {ks : List Ck} {d : Nat} {ty : TypeId} {pos : String} {af : Array Edge}
/-- one byte more -/
theorem Ops.appW {B m c : Nat} {A : Option Addr} {l : List UInt8} {A1 : Option Addr} {b : UInt8} {x y : Operand} (hO : OwB B w A m c l) (hB : B ≤ w.heap.size) (hR : Rd w A1 1 (fun _ => .int .u8 (b.toNat : Nat))) (hx : ev e x = .slice A m c) (hy : ev e y = .slice A1 1 1) (hm : m ≤ 1000000000) (hb : Nat.blt d N = true)
    (hK : ∀ A2 c2 w', Go.RowKit.Below B w w' → OwB B w' A2 (m + 1) c2 (l ++ [b]) → Ops Tryz.prog N ops K rest (upd e d (.slice A2 (m + 1) c2)) w') :
    Ops Tryz.prog N ops K (⟨some d, .call ⟨.builtin .append, #[x, y], #[41, 41]⟩, ty, pos, af, none⟩ :: rest) e w := by
  obtain ⟨inf, hi, hz0, hs, hby⟩ := Inf.get Tryz.prog 5
  obtain ⟨p, hp, hc⟩ := hR 0 (by omega)
  obtain ⟨a, rfl⟩ : ∃ a, A1 = some a := by cases A1 with | none => simp [ptrAt] at hp | some q => exact ⟨q, rfl⟩
  simp only [ptrAt, Option.map_some, Option.some.injEq] at hp
  obtain ⟨v', w', hr, hO', hg, _⟩ := run_append_own (P := Tryz.prog) (w := w) B 41 ty 5 inf (.int .u8 0) 1 1 Tryz.underlying41 hi hz0 hs hby rfl (by decide) (.slice A m c) m (Lib.byteCells l) hO a 1 1 [.int .u8 (b.toNat : Nat)] rfl
    (fun j u hj => by
      match j, hj with
      | 0, hj => simp at hj; subst hj; rw [hp]; exact hc) (fun u hu => by simp at hu; subst hu; rfl) (by simp only [maxLen]; omega) (by omega) hB
  obtain ⟨A2, c2, rfl⟩ := owns_slice hO'
  refine .val (w' := w') ?_ hb (hK A2 c2 w' ?_ ?_)
  · simp [execOp, resolve, invoke, builtin, hx, hy, hr]
  · exact (Go.RowKit.Below.refl B w).grown hg hB (fun k hk => (hO.lt k hk).1)
  · show w'.ownsRow B 5 1 (.slice A2 (m + 1) c2) (m + 1) (Lib.byteCells (l ++ [b]))
    rw [show Lib.byteCells (l ++ [b]) = Lib.byteCells l ++ [.int .u8 (b.toNat : Nat)] by simp [Lib.byteCells]]
    exact hO'
/-- bytes as a text -/
theorem Ops.convS {B m c : Nat} {A : Option Addr} {l : List UInt8} {x : Operand} (hO : OwB B w A m c l) (hx : ev e x = .slice A m c) (hb : Nat.blt d N = true) (hK : Ops Tryz.prog N ops K rest (upd e d (.string ⟨l.toArray⟩)) w) :
    Ops Tryz.prog N ops K (⟨some d, .convert 41 9 x, ty, pos, af, none⟩ :: rest) e w := by
  have hr : (Conv.bytesToString (.slice A m c)).run Tryz.prog w = .ok (.string ⟨l.toArray⟩) w := by
    have hl : (Lib.byteCells l).length = m * 1 := hO.1
    rcases hO.2 with ⟨h1, h2⟩ | ⟨g, cap, cur, h1, _⟩
    · simp only [Value.slice.injEq] at h1
      obtain ⟨rfl, rfl, rfl⟩ := h1
      have : l = [] := List.eq_nil_of_length_eq_zero (by rw [Lib.byteCells_length] at hl; omega)
      subst this
      rfl
    · simp only [Value.slice.injEq] at h1
      obtain ⟨rfl, _, rfl⟩ := h1
      have h2 := hO.cells (g := g) rfl
      have h3 := run_loadCells_list (P := Tryz.prog) (w := w) (⟨g, 0, none⟩ : Addr) (Lib.byteCells l) h2
      rw [hl, Nat.mul_one] at h3
      have e1 : Lib.byteCells l = (l.map fun b => ((b.toNat : Nat) : Int)).map (Value.int .u8) := by simp [Lib.byteCells]
      rw [e1] at h3
      rw [run_bytesToString w _ m c _ h3, fold_push]
      simp
  refine .val (w' := w) ?_ hb hK
  simp [execOp, hx, convert, run_underlying Tryz.underlying41, run_underlying Tryz.underlying9, run_underlying Tryz.underlying5, hr]
end
theorem AppendInt_c {B m c : Nat} {A : Option Addr} {l : List UInt8} (x : Int) (w : World) (hx : -9223372036854775808 ≤ x ∧ x ≤ 9223372036854775807) (hO : OwB B w A m c l) (hB : B ≤ w.heap.size) (hm : m ≤ 1000000000) (hT : Lib.TabBelow Tryz.prog B w "internal/strconv.uint64pow10" .u64 Lib.pow10Tab) :
    Ret Tryz.prog 162 [.slice A m c, .int .i64 x, .int .i64 10] w (fun v w' => ∃ A' c', v = .slice A' (m + (Lib.itoa x).length) c' ∧ OwB B w' A' (m + (Lib.itoa x).length) c' (l ++ Lib.itoa x) ∧ Go.RowKit.Below B w w') := by
  have key := Any.strconv_AppendInt_10 lai B m x hx.1 hx.2 (.slice A m c) (Lib.byteCells l) w hO hB (by omega) hT
  refine Calls.mono key fun y w' ⟨v', hy, hO', hb, _⟩ => ⟨_, hy, ?_⟩
  obtain ⟨A2, c2, rfl⟩ := owns_slice hO'
  refine ⟨A2, c2, rfl, ?_, hb⟩
  show w'.ownsRow B 5 1 (.slice A2 _ c2) _ (Lib.byteCells (l ++ Lib.itoa x))
  rw [Lib.byteCells_append]
  exact hO'
theorem itoa_len (x : Int) (hx : -9223372036854775808 ≤ x ∧ x ≤ 9223372036854775807) : (Lib.itoa x).length ≤ 21 := Lib.itoa_length_le x hx.1 hx.2
theorem keyL_len : ∀ (xs : List Int), (∀ x ∈ xs, -9223372036854775808 ≤ x ∧ x ≤ 9223372036854775807) → (keyL xs).length ≤ 22 * xs.length
  | [], _ => by simp [keyL]
  | x :: xs, h => by
    have h1 := itoa_len x (h x (by simp))
    have h2 := keyL_len xs fun y hy => h y (by simp [hy])
    rw [keyL_cons]
    simp only [List.length_append, List.length_cons]
    omega

theorem keyOf_c (A : Option Addr) (n c : Nat) (xs : List Int) (w : World) (hT : Tab w) (hR : RdI w A n xs) (hx : ∀ x ∈ xs, -9223372036854775808 ≤ x ∧ x ≤ 9223372036854775807) (hn : n ≤ 1000000) :
    Ret Tryz.prog 134 [.slice A n c] w (fun v w' => v = .string (keyB xs) ∧ St w w' []) := by
  have hxl := hR.1
  refine Ret.of_cd Tryz.func134 rfl Tryz.ntmps134 rfl (post1 rfl) ?_
  refine Cd.seq ?_
  refine Cd.region ?_
  refine Ops.mv_str rfl rfl rfl ?_
  refine Ops.nil ?_
  refine thenQ_n ?_
  refine Cd.seq ?_
  refine Cd.region ?_
  refine Ops.mv_sl rfl rfl rfl ?_
  refine Ops.nil ?_
  refine thenQ_n ?_
  refine Cd.seq ?_
  refine Cd.seq ?_
  refine Cd.region ?_
  refine Ops.mv_sl rfl rfl rfl ?_
  refine Ops.len rfl rfl ?_
  refine Ops.mv_int rfl rfl rfl ?_
  refine Ops.nil ?_
  refine thenQ_n ?_
  refine Cd.block ?_
  refine Cd.loop (α := Nat × Option Addr × Nat) (fun s => [(3, .slice s.2.1 (keyL (xs.take s.1)).length s.2.2), (6, .slice A n c), (7, .int .i64 (n : Int)), (8, .int .i64 (s.1 : Int))]) (fun s w' => OwB w.heap.size w' s.2.1 (keyL (xs.take s.1)).length s.2.2 (keyL (xs.take s.1)) ∧ Go.RowKit.Below w.heap.size w w' ∧ s.1 ≤ n) (fun s => n - s.1) (0, none, 0) ⟨rfl, rfl, rfl, rfl, trivial⟩ ⟨World.ownsRow_nil w _ _ _, Go.RowKit.Below.refl _ _, Nat.zero_le _⟩ ?_
  rintro ⟨i, A3, c3⟩ e w1 ⟨hO, hb1, hi⟩
  dsimp only at hO hb1 hi ⊢
  refine Cd.seq ?_
  refine Cd.region ?_
  refine Ops.lss rfl rfl rfl ?_
  refine Ops.nil ?_
  refine thenQ_n ?_
  refine Cd.seq ?_
  refine Cd.cond_p _ rfl (fun h1 => ?_) (fun h1 => ?_)
  · have hi' : i < xs.length := by omega
    have hR1 : RdI w1 A n xs := hR.later ⟨hb1, fun s => s.elim⟩
    have hT1 : Lib.TabBelow Tryz.prog w.heap.size w1 "internal/strconv.uint64pow10" .u64 Lib.pow10Tab := (Lib.tabBelow_of_tabIs hT).on hb1
    have hxi := hx _ (gi_in hi')
    have hll := keyL_len (xs.take i) fun x hm => hx x (List.mem_of_mem_take hm)
    have hil := itoa_len _ hxi
    rw [List.length_take] at hll
    have hsz := hb1.size
    have htk : keyL (xs.take (i + 1)) = (keyL (xs.take i) ++ Lib.itoa (gi xs (i : Int))) ++ [32] := by rw [take_succ_gi hi', keyL_snoc]
    refine Cd.skip ?_
    refine thenQ_n ?_
    refine Cd.seq ?_
    refine Cd.block ?_
    refine Cd.seq ?_
    refine Cd.region ?_
    refine Ops.idx hR1.2 rfl rfl rfl (by omega) (by omega) ?_
    refine Ops.ld_int hR1 rfl (by omega) rfl rfl ?_
    refine Ops.mv_int rfl rfl rfl ?_
    refine Ops.nil ?_
    refine thenQ_n ?_
    refine Cd.seq ?_
    refine Cd.region ?_
    refine Ops.mv_sl rfl rfl rfl ?_
    refine Ops.mv_int rfl rfl rfl ?_
    refine Ops.call (AppendInt_c (gi xs (i : Int)) _ hxi hO hsz (by omega) hT1) rfl rfl rfl ?_
    rintro _ w2 ⟨A4, c4, rfl, hO2, hb2⟩
    have hsz2 := hb2.size
    refine Ops.mv_sl rfl rfl rfl ?_
    refine Ops.nil ?_
    refine thenQ_n ?_
    refine Cd.region ?_
    refine Ops.mv_sl rfl rfl rfl ?_
    refine Ops.bs1 (St.refl w2) rfl rfl rfl rfl ?_
    intro A5 w3 hS3
    have hO3 := hO2.later hS3.below
    have hb3 : Go.RowKit.Below w.heap.size w2 w3 := hS3.below.toBelow.mono (by omega)
    have hsz3 := hb3.size
    refine Ops.appW (b := 32) hO3 (by omega) (hS3.rd 0 rfl |>.congr fun j hj => by obtain rfl : j = 0 := by { have : j < 1 := hj; omega }; rfl) rfl rfl (by omega) rfl ?_
    intro A6 c6 w4 hb4 hO4
    refine Ops.mv_sl rfl rfl rfl ?_
    refine Ops.nil ?_
    refine blockQ_n ?_
    refine thenQ_n ?_
    refine Cd.region ?_
    refine Ops.add rfl rfl rfl (by omega) ?_
    refine Ops.mv_int rfl rfl rfl ?_
    refine Ops.nil ?_
    refine thenQ_n ?_
    refine ⟨(i + 1, A6, c6), by show n - (i + 1) < n - i; omega, ⟨?_, rfl, rfl, rfl, trivial⟩, ?_, ((hb1.trans hb2).trans hb3).trans hb4, by show i + 1 ≤ n; omega⟩
    · show Value.slice _ _ _ = .slice _ _ _
      rw [htk]
      simp [Nat.add_assoc]
    · show OwB _ w4 A6 (keyL (xs.take (i + 1))).length c6 (keyL (xs.take (i + 1)))
      rw [htk]
      have e1 : ((keyL (xs.take i) ++ Lib.itoa (gi xs (i : Int))) ++ [32]).length = (keyL (xs.take i)).length + (Lib.itoa (gi xs (i : Int))).length + 1 := by simp; omega
      rw [e1]
      exact hO4
  · have hin : i = xs.length := by omega
    subst hin
    rw [List.take_length] at hO
    refine Cd.exit ?_
    refine thenQ_x ?_
    refine thenQ_x ?_
    refine blockQ_x ?_
    refine thenQ_n ?_
    refine Cd.seq ?_
    refine Cd.region ?_
    refine Ops.mv_sl rfl rfl rfl ?_
    refine Ops.convS hO (by show Value.slice _ _ _ = .slice _ _ _; rw [List.take_length]) rfl ?_
    refine Ops.mv_str rfl rfl rfl ?_
    refine Ops.nil ?_
    refine thenQ_n ?_
    refine Cd.ret ?_
    refine ret1_v rfl ?_
    exact ⟨rfl, ⟨⟨hb1, fun s => s.elim⟩, fun k hk => (by cases hk), List.nodup_nil⟩⟩
end Go.Proofs.YtdedegbendjmbaaGreatDoor.Vc
/-
  The girth on both sides. Conditions: the library's table of powers of ten holds what the program's text lays there.
-/
namespace Go.Proofs.YtdedegbendjmbaaGreatDoor.Vc
open Go.RowKit

/-- rows that can be read, wherever they are named -/
structure RowsW (w : World) (n : Nat) (rs : List SlV) (xss : List (List Int)) : Prop where
  rl : rs.length = n
  len : xss.length = n
  row : ∀ i, i < n → RdI w (rs.getD i slNil).a (rs.getD i slNil).n (xss.getD i [])
  cap : ∀ i, i < n → (rs.getD i slNil).n ≤ (rs.getD i slNil).c ∧ (rs.getD i slNil).c ≤ maxLen
/-! what has been seen -/
def seenA (ls : List (List Int)) : List (ByteArray × Bool) := ls.foldl (fun L l => putA L (keyB l) true) []
theorem seenA_snoc (ls : List (List Int)) (l : List Int) : seenA (ls ++ [l]) = putA (seenA ls) (keyB l) true := by simp [seenA, List.foldl_append]
theorem seenA_get (ls : List (List Int)) (l : List Int) : (getA (seenA ls) (keyB l)).getD false = decide (l ∈ ls) := by
  have key : ∀ r : List (List Int), (getA (seenA r.reverse) (keyB l)).getD false = decide (l ∈ r.reverse) := fun r => by
    induction r with
    | nil => rfl
    | cons x r ih =>
      rw [List.reverse_cons, seenA_snoc, getA_put]
      by_cases e : x = l
      · subst e
        rw [if_pos rfl]; simp
      · rw [if_neg (fun h => e (keyB_inj h)), ih]
        have : l ≠ x := fun h => e h.symm
        simp [this]
  have := key ls.reverse
  rwa [List.reverse_reverse] at this
instance (l : List (List Int)) : Decidable l.Nodup := by unfold List.Nodup; infer_instance
end Go.Proofs.YtdedegbendjmbaaGreatDoor.Vc
/-
  The greatest ones of some lists, walked. Conditions: as each states them.
-/
namespace Go.Proofs.YtdedegbendjmbaaGreatDoor.Vc
open Go.RowKit

theorem rg_map {q : List Nat} (f : Nat → SlV) {k : Nat} (h : k < q.length) : rg (q.map f) (k : Int) = f (q.getD k 0) := by
  simp [rg, List.getD_eq_getElem?_getD, h]
theorem take_succ_getD {q : List Nat} {k : Nat} (h : k < q.length) : q.take (k + 1) = q.take k ++ [q.getD k 0] := by
  rw [List.take_succ_eq_append_getElem h]
  simp [List.getD_eq_getElem?_getD, h]
/-- in order of their lengths, the greatest ones are those that are found -/
theorem grt_fac {ls lq : List (List Int)} (hs : ∀ l ∈ ls, SA l) (hp : ∀ x, x ∈ lq ↔ x ∈ ls) (hd : lq.Pairwise fun a b => b.length ≤ a.length) {F : List (List Int)} (hF : F.Perm (grtP lq)) (ho : F.Pairwise fun a b => ¬ LT b a) : F = facP ls := by
  have hsq : ∀ l ∈ lq, SA l := fun l hl => hs l ((hp l).1 hl)
  refine (FacOf.eq (ls := ls) ⟨SL.of_sorted ho (hF.nodup_iff.2 (grtP_nodup hsq)), fun x => ?_⟩ (facP_of ls))
  rw [hF.mem_iff, grtP_mem hsq hd]
  exact ⟨fun h => h.perm hp, fun h => h.perm fun x => (hp x).symm⟩

set_option maxHeartbeats 1000000 in
theorem greatestOf_c (A : Option Addr) (n c : Nat) (rs : List SlV) (ls : List (List Int)) (w : World) (hT : Tab w) (hR : RowsI w A n rs ls) (hn : n ≤ 2000000) (hsa : ∀ l ∈ ls, SA l) (h6 : ∀ l ∈ ls, l.length ≤ 6) (hx : ∀ l ∈ ls, ∀ x ∈ l, -9223372036854775808 ≤ x ∧ x ≤ 9223372036854775807) :
    Ret Tryz.prog 119 [.slice A n c] w (fun v w' => ∃ (q : List Nat) (A' : Option Addr) (c' : Nat), v = .slice A' q.length c' ∧ q.Nodup ∧ (∀ i ∈ q, i < n) ∧ q.map (fun i => ls.getD i []) = facP ls ∧ St w w' [CkR 25 A' q.length c' (q.map fun i => rs.getD i slNil)]) := by
  have hrl : rs.length = n := hR.top.1
  have hll : ls.length = n := hR.len
  have hlen : ∀ i, i < n → (rs.getD i slNil).n = (ls.getD i []).length := fun i hi => (hR.row i hi).1.symm
  have hmem : ∀ i, i < n → ls.getD i [] ∈ ls := fun i hi => by rw [List.getD_eq_getElem?_getD, List.getElem?_eq_getElem (by omega)]; exact List.getElem_mem _
  refine Ret.of_cd Tryz.func119 rfl Tryz.ntmps119 rfl (post1 rfl) ?_
  refine Cd.seq ?_
  refine Cd.region ?_
  refine Ops.mv_sl rfl rfl rfl ?_
  refine Ops.nil ?_
  refine thenQ_n ?_
  refine Cd.seq ?_
  refine Cd.region ?_
  refine Ops.mv_sl rfl rfl rfl ?_
  refine Ops.call (CloneRR_c A n c rs w hR.top (by omega)) rfl rfl rfl ?_
  rintro _ w1 ⟨A1, c1, rfl, hS1⟩
  refine Ops.mv_sl rfl rfl rfl ?_
  refine Ops.nil ?_
  refine thenQ_n ?_
  refine Cd.seq ?_
  refine Cd.region ?_
  refine Ops.mv_sl rfl rfl rfl ?_
  have hcap : ∀ s ∈ rs, s.n ≤ 9223372036854775807 := fun s hs => by
    obtain ⟨i, hi, rfl⟩ := List.mem_iff_getElem.1 hs
    have h := hlen i (by omega)
    have h2 := h6 _ (hmem i (by omega))
    rw [List.getD_eq_getElem?_getD, List.getElem?_eq_getElem hi] at h
    simp only [Option.getD_some] at h
    omega
  refine Ops.call (sortStable_c (by omega) hcap hS1) rfl rfl rfl ?_
  rintro _ w2 ⟨rfl, ds, hpm, hso, hS2⟩
  obtain ⟨q0, hq0, rfl⟩ := perm_idx slNil hpm
  rw [hrl] at hq0
  have hq0l : q0.length = n := by rw [hq0.length_eq, List.length_range]
  have hq0n : q0.Nodup := hq0.nodup_iff.2 List.nodup_range
  have hq0m : ∀ i ∈ q0, i < n := fun i hi => List.mem_range.1 (hq0.mem_iff.1 hi)
  have hget : ∀ k, k < n → q0.getD k 0 < n := fun k hk => hq0m _ (by rw [List.getD_eq_getElem?_getD, List.getElem?_eq_getElem (by omega)]; exact List.getElem_mem _)
  generalize hlsF : (fun i => ls.getD i []) = lsF
  generalize hrsF : (fun i => rs.getD i slNil) = rsF at *
  have hrow : ∀ (w' : World) i, i < n → Below w.heap.size w w' → RdI w' (rsF i).a (rsF i).n (lsF i) := fun w' i hi hb => by
    rw [← hrsF, ← hlsF]; exact (hR.row i hi).later hb
  have hlF : ∀ i, i < n → lsF i ∈ ls := fun i hi => by rw [← hlsF]; exact hmem i hi
  have hlq : ∀ x, x ∈ q0.map lsF ↔ x ∈ ls := fun x => by
    rw [List.mem_map]
    constructor
    · rintro ⟨i, hi, rfl⟩; exact hlF i (hq0m i hi)
    · intro hx
      obtain ⟨i, hi, rfl⟩ := List.mem_iff_getElem.1 hx
      refine ⟨i, hq0.mem_iff.2 (List.mem_range.2 (by omega)), ?_⟩
      rw [← hlsF]; simp [List.getD_eq_getElem?_getD, hi]
  have hlq2 : (q0.map lsF).Pairwise fun a b => b.length ≤ a.length := by
    rw [List.pairwise_map, List.pairwise_iff_getElem]
    intro i j hi hj hij
    have h := hso i j (Nat.zero_le _) hij (by omega)
    rw [gs_mem (by simp; omega), gs_mem (by simp; omega)] at h
    simp only [List.getElem_map] at h
    have h1 := (hrow w _ (hq0m _ (List.getElem_mem hi)) (Below.refl _ _)).1
    have h2 := (hrow w _ (hq0m _ (List.getElem_mem hj)) (Below.refl _ _)).1
    unfold knS at h
    omega
  refine Ops.nil ?_
  refine thenQ_n ?_
  refine Cd.seq ?_
  refine Cd.region ?_
  refine Ops.mkmap hS2 rfl ?_
  intro g w3 hS3
  refine Ops.mv_map rfl rfl rfl ?_
  refine Ops.nil ?_
  refine thenQ_n ?_
  refine Cd.seq ?_
  refine Cd.region ?_
  refine Ops.mv_sl rfl rfl rfl ?_
  refine Ops.nil ?_
  refine thenQ_n ?_
  refine Cd.seq ?_
  refine Cd.seq ?_
  refine Cd.region ?_
  refine Ops.mv_sl rfl rfl rfl ?_
  refine Ops.len rfl rfl ?_
  refine Ops.mv_int rfl rfl rfl ?_
  refine Ops.nil ?_
  refine thenQ_n ?_
  refine Cd.block ?_
  refine Cd.loop (α := Nat × Option Addr × Nat × List Nat) (fun z => [(4, .map (some g)), (5, .slice z.2.1 z.2.2.2.length z.2.2.1), (16, .slice A1 n c1), (17, .int .i64 (n : Int)), (18, .int .i64 (z.1 : Int))])
    (fun z w' => z.1 ≤ n ∧ z.2.2.2.Sublist (q0.take z.1) ∧ z.2.2.2.map lsF = grtP ((q0.take z.1).map lsF) ∧ St w w' [CkR 25 z.2.1 z.2.2.2.length z.2.2.1 (z.2.2.2.map rsF), CkM 127 g (prV Value.string Value.bool (seenA ((z.2.2.2.map lsF).flatMap allP))), CkR 25 A1 n c1 (q0.map rsF)]) (fun z => n - z.1) (0, none, 0, []) ⟨rfl, rfl, rfl, rfl, rfl, trivial⟩ ⟨Nat.zero_le _, List.nil_sublist _, rfl, hS3.nil _⟩ ?_
  rintro ⟨k, A5, c5, q⟩ e w4 ⟨hk, hsub, hgrt, hS4⟩
  dsimp only at hk hsub hgrt hS4 ⊢
  have hqn : q.Nodup := (hq0n.sublist (List.take_sublist _ _)).sublist hsub
  have hqm : ∀ i ∈ q, i < n := fun i hi => hq0m i (List.mem_of_mem_take (hsub.subset hi))
  have hql : q.length ≤ n := by have := hsub.length_le; rw [List.length_take] at this; omega
  refine Cd.seq ?_
  refine Cd.region ?_
  refine Ops.lss rfl rfl rfl ?_
  refine Ops.nil ?_
  refine thenQ_n ?_
  refine Cd.seq ?_
  refine Cd.cond_p _ rfl (fun h1 => ?_) (fun h1 => ?_)
  · have hkn : k < n := by omega
    have hR4 := hS4.rdR 2 rfl
    have hrg := rg_map (q := q0) rsF (k := k) (by omega)
    have hi0 := hget k hkn
    have htk := take_succ_getD (q := q0) (k := k) (by omega)
    generalize hi : q0.getD k 0 = i0 at *
    have hr0 := hrow w4 i0 hi0 hS4.below
    have hl0 := hlF i0 hi0
    have hl6 := h6 _ hl0
    have hrn := hr0.1
    have hgs : grtP ((q0.take (k + 1)).map lsF) = grtS (grtP ((q0.take k).map lsF)) (lsF i0) := by rw [htk, List.map_append]; exact grtP_snoc _ _
    have hcap0 : (rsF i0).n ≤ (rsF i0).c := by rw [← hrsF]; exact (hR.cap i0 hi0).1
    refine Cd.skip ?_
    refine thenQ_n ?_
    refine Cd.seq ?_
    refine Cd.block ?_
    refine Cd.seq ?_
    refine Cd.region ?_
    refine Ops.idx hR4.2 rfl rfl rfl (by omega) (by omega) ?_
    refine Ops.ld_sl hR4 rfl (by omega) rfl rfl ?_
    rw [hrg]
    refine Ops.mv_sl rfl rfl rfl ?_
    refine Ops.nil ?_
    refine thenQ_n ?_
    refine Cd.seq ?_
    refine Cd.seq ?_
    refine Cd.region ?_
    refine Ops.mv_sl rfl rfl rfl ?_
    refine Ops.len rfl rfl ?_
    refine Ops.eql rfl rfl rfl ?_
    refine Ops.mv_bool rfl rfl rfl ?_
    refine Ops.split_p 25 rfl (fun h2 => ?_) (fun h2 => ?_)
    · have hnil : lsF i0 = [] := List.eq_nil_of_length_eq_zero (by omega)
      refine Ops.skipg rfl rfl rfl rfl rfl ?_
      refine Ops.skipg rfl rfl rfl rfl rfl ?_
      refine Ops.skipg rfl rfl rfl rfl rfl ?_
      refine Ops.skipg rfl rfl rfl rfl rfl ?_
      refine Ops.pick_t rfl rfl rfl ?_
      refine Ops.nil ?_
      refine thenQ_n ?_
      refine Cd.cond_t rfl ?_
      refine Cd.exit ?_
      refine thenQ_x ?_
      refine blockQ_x ?_
      refine thenQ_n ?_
      refine Cd.region ?_
      refine Ops.add rfl rfl rfl (by omega) ?_
      refine Ops.mv_int rfl rfl rfl ?_
      refine Ops.nil ?_
      refine thenQ_n ?_
      refine ⟨(k + 1, A5, c5, q), by show n - (k + 1) < n - k; omega, ⟨rfl, rfl, rfl, rfl, rfl, trivial⟩, by show k + 1 ≤ n; omega, by show q.Sublist (q0.take (k + 1)); rw [htk]; exact hsub.trans (List.sublist_append_left _ _), ?_, hS4⟩
      show q.map lsF = grtP ((q0.take (k + 1)).map lsF)
      rw [hgs, grtS, if_pos (.inl hnil)]; exact hgrt
    · have hne : lsF i0 ≠ [] := fun h => h2 (by rw [h] at hrn; simp at hrn; omega)
      refine Ops.rung rfl rfl rfl ?_
      refine Ops.mv_map rfl rfl rfl ?_
      refine Ops.rung rfl rfl rfl ?_
      refine Ops.mv_sl rfl rfl rfl ?_
      refine Ops.rung rfl rfl rfl ?_
      refine Ops.call (keyOf_c _ _ _ _ _ (hT.later hS4.below) hr0 (hx _ hl0) (by omega)) rfl rfl rfl ?_
      rintro _ w5 ⟨rfl, hst⟩
      have hS5 := hS4.later hst.below
      refine Ops.rung rfl rfl rfl ?_
      refine Ops.lookB keyS (keyB (lsF i0)) (hS5.rdM 1 rfl) rfl rfl rfl ?_
      rw [seenA_get, hgrt]
      refine Ops.pick_f rfl rfl rfl ?_
      refine Ops.nil ?_
      refine thenQ_n ?_
      refine Cd.cond_p _ rfl (fun h3 => ?_) (fun h3 => ?_)
      · refine Cd.exit ?_
        refine thenQ_x ?_
        refine blockQ_x ?_
        refine thenQ_n ?_
        refine Cd.region ?_
        refine Ops.add rfl rfl rfl (by omega) ?_
        refine Ops.mv_int rfl rfl rfl ?_
        refine Ops.nil ?_
        refine thenQ_n ?_
        refine ⟨(k + 1, A5, c5, q), by show n - (k + 1) < n - k; omega, ⟨rfl, rfl, rfl, rfl, rfl, trivial⟩, by show k + 1 ≤ n; omega, by show q.Sublist (q0.take (k + 1)); rw [htk]; exact hsub.trans (List.sublist_append_left _ _), ?_, hS5⟩
        show q.map lsF = grtP ((q0.take (k + 1)).map lsF)
        rw [hgs, grtS, if_pos (.inr h3)]; exact hgrt
      · refine Cd.skip ?_
        refine thenQ_n ?_
        refine Cd.seq ?_
        refine Cd.region ?_
        refine Ops.mv_sl rfl rfl rfl ?_
        refine Ops.mv_sl rfl rfl rfl ?_
        refine Ops.bs1R hS5 rfl rfl rfl ?_
        intro A6 w6 hS6
        refine Ops.appR 1 hS6 rfl (hS6.rdR 0 rfl) rfl rfl rfl (by omega) (by omega) rfl ?_
        intro A7 c7 w7 hS7
        have hS7 : St w w7 [CkR 25 A7 (q.length + 1) c7 (q.map rsF ++ [rsF i0]), CkM 127 g (prV Value.string Value.bool (seenA ((q.map lsF).flatMap allP))), CkR 25 A1 n c1 (q0.map rsF)] := hS7.tail
        refine Ops.mv_sl rfl rfl rfl ?_
        refine Ops.nil ?_
        refine thenQ_n ?_
        refine Cd.seq ?_
        refine Cd.region ?_
        refine Ops.mv_sl rfl rfl rfl ?_
        refine Ops.call (sizeI_c _ _ _ _) rfl rfl rfl ?_
        rintro _ _ ⟨rfl, rfl⟩
        generalize hbase : (q.map lsF).flatMap allP = base at *
        refine Ops.add rfl rfl rfl (by omega) ?_
        refine Ops.mv_int rfl rfl rfl ?_
        refine Ops.nil ?_
        refine thenQ_n ?_
        refine Cd.block ?_
        refine Cd.loop (α := Nat) (fun m => [(4, .map (some g)), (5, .slice A7 (q.length + 1) c7), (7, .slice (rsF i0).a (rsF i0).n (rsF i0).c), (16, .slice A1 n c1), (17, .int .i64 (n : Int)), (18, .int .i64 (k : Int)), (37, .int .i64 (((rsF i0).n : Int) + 1)), (38, .int .i64 (m : Int))])
          (fun m w' => m ≤ (lsF i0).length + 1 ∧ St w w' [CkR 25 A7 (q.length + 1) c7 (q.map rsF ++ [rsF i0]), CkM 127 g (prV Value.string Value.bool (seenA (base ++ parA (lsF i0) m))), CkR 25 A1 n c1 (q0.map rsF)]) (fun m => (lsF i0).length + 1 - m) 0 ⟨rfl, rfl, rfl, rfl, rfl, rfl, rfl, rfl, trivial⟩ ⟨Nat.zero_le _, by rw [show parA (lsF i0) 0 = [] from rfl, List.append_nil]; exact hS7⟩ ?_
        rintro m e w8 ⟨hm, hS8⟩
        refine Cd.seq ?_
        refine Cd.region ?_
        refine Ops.lss rfl rfl rfl ?_
        refine Ops.nil ?_
        refine thenQ_n ?_
        refine Cd.seq ?_
        refine Cd.cond_p _ rfl (fun h4 => ?_) (fun h4 => ?_)
        · refine Cd.skip ?_
          refine thenQ_n ?_
          refine Cd.seq ?_
          refine Cd.block ?_
          refine Cd.seq ?_
          refine Cd.region ?_
          refine Ops.mv_int rfl rfl rfl ?_
          refine Ops.mv_int rfl rfl rfl ?_
          refine Ops.nil ?_
          refine thenQ_n ?_
          refine Cd.seq ?_
          refine Cd.region ?_
          refine Ops.mv_sl rfl rfl rfl ?_
          refine Ops.mv_int rfl rfl rfl ?_
          refine Ops.call (partsOf_c m _ _ _ _ _ (hrow w8 i0 hi0 hS8.below) hcap0 (by omega) (by omega)) rfl rfl rfl ?_
          rintro _ w9 ⟨A9, c9, rs9, rfl, hrl9, hT9⟩
          have hps : ∀ p ∈ ptsP (lsF i0) m, p.length ≤ 6 ∧ ∀ x ∈ p, -9223372036854775808 ≤ x ∧ x ≤ 9223372036854775807 := fun p hp => by
            have h := (ptsP_mem.1 hp).1
            have h2 := h.length_le
            exact ⟨by omega, fun x hxp => hx _ hl0 x (h.subset hxp)⟩
          have hps2 := parA_succ (lsF i0) m
          have hN64 := ptsP_small (l := lsF i0) m (by omega)
          generalize hN : ptsP (lsF i0) m = N at *
          have hS9 : St w w9 ([CkR 25 A7 (q.length + 1) c7 (q.map rsF ++ [rsF i0]), CkM 127 g (prV Value.string Value.bool (seenA (base ++ parA (lsF i0) m))), CkR 25 A1 n c1 (q0.map rsF)] ++ (mat 25 2 A9 N.length c9 rs9 N ++ [])) := (hS8.call hT9).perm List.perm_append_comm
          refine Ops.len rfl rfl ?_
          refine Ops.mv_int rfl rfl rfl ?_
          refine Ops.nil ?_
          refine thenQ_n ?_
          refine Cd.block ?_
          refine Cd.loop (α := Nat) (fun j => [(4, .map (some g)), (5, .slice A7 (q.length + 1) c7), (7, .slice (rsF i0).a (rsF i0).n (rsF i0).c), (16, .slice A1 n c1), (17, .int .i64 (n : Int)), (18, .int .i64 (k : Int)), (37, .int .i64 (((rsF i0).n : Int) + 1)), (38, .int .i64 (m : Int)), (43, .slice A9 N.length c9), (44, .int .i64 (N.length : Int)), (45, .int .i64 (j : Int))])
            (fun j w' => j ≤ N.length ∧ St w w' ([CkR 25 A7 (q.length + 1) c7 (q.map rsF ++ [rsF i0]), CkM 127 g (prV Value.string Value.bool (seenA (base ++ parA (lsF i0) m ++ N.take j))), CkR 25 A1 n c1 (q0.map rsF)] ++ (mat 25 2 A9 N.length c9 rs9 N ++ []))) (fun j => N.length - j) 0 ⟨rfl, rfl, rfl, rfl, rfl, rfl, rfl, rfl, rfl, rfl, rfl, trivial⟩ ⟨Nat.zero_le _, by rw [List.take_zero, List.append_nil]; exact hS9⟩ ?_
          rintro j e w10 ⟨hj, hS10⟩
          have hM := (hS10.sub (List.sublist_append_right _ _)).rowsI rfl
          refine Cd.seq ?_
          refine Cd.region ?_
          refine Ops.lss rfl rfl rfl ?_
          refine Ops.nil ?_
          refine thenQ_n ?_
          refine Cd.seq ?_
          refine Cd.cond_p _ rfl (fun h5 => ?_) (fun h5 => ?_)
          · have hjN : j < N.length := by omega
            have hrowj := hM.at_ (i := (j : Int)) (by omega) (by omega)
            have hrlj := hrowj.1
            have hpj := hps (gl N (j : Int)) (by rw [gl_mem hjN]; exact List.getElem_mem _)
            refine Cd.skip ?_
            refine thenQ_n ?_
            refine Cd.seq ?_
            refine Cd.block ?_
            refine Cd.seq ?_
            refine Cd.region ?_
            refine Ops.idx hM.top.2 rfl rfl rfl (by omega) (by omega) ?_
            refine Ops.ld_sl hM.top rfl (by omega) rfl rfl ?_
            refine Ops.mv_sl rfl rfl rfl ?_
            refine Ops.nil ?_
            refine thenQ_n ?_
            refine Cd.region ?_
            refine Ops.mv_map rfl rfl rfl ?_
            refine Ops.mv_sl rfl rfl rfl ?_
            refine Ops.call (keyOf_c _ _ _ _ _ (hT.later hS10.below) hrowj hpj.2 (by omega)) rfl rfl rfl ?_
            rintro _ w11 ⟨rfl, hst⟩
            have hS11 := hS10.later hst.below
            refine Ops.upm rfl keyS 1 (u := true) hS11 rfl rfl rfl rfl ?_
            intro w12 hS12
            refine Ops.nil ?_
            refine blockQ_n ?_
            refine thenQ_n ?_
            refine Cd.region ?_
            refine Ops.add rfl rfl rfl (by omega) ?_
            refine Ops.mv_int rfl rfl rfl ?_
            refine Ops.nil ?_
            refine thenQ_n ?_
            refine ⟨j + 1, by show N.length - (j + 1) < N.length - j; omega, ⟨rfl, rfl, rfl, rfl, rfl, rfl, rfl, rfl, rfl, rfl, rfl, trivial⟩, by omega, ?_⟩
            rw [take_succ_gl hjN, ← List.append_assoc (base ++ parA (lsF i0) m) (N.take j), seenA_snoc]
            exact hS12
          · have hje : j = N.length := by omega
            rw [hje, List.take_length] at hS10
            refine Cd.exit ?_
            refine thenQ_x ?_
            refine thenQ_x ?_
            refine blockQ_x ?_
            refine blockQ_n ?_
            refine thenQ_n ?_
            refine Cd.region ?_
            refine Ops.add rfl rfl rfl (by omega) ?_
            refine Ops.mv_int rfl rfl rfl ?_
            refine Ops.nil ?_
            refine thenQ_n ?_
            refine ⟨m + 1, by show (lsF i0).length + 1 - (m + 1) < (lsF i0).length + 1 - m; omega, ⟨rfl, rfl, rfl, rfl, rfl, rfl, rfl, rfl, trivial⟩, by omega, ?_⟩
            rw [hps2, ← List.append_assoc base]
            exact hS10.sub (List.sublist_append_left _ _)
        · have hme : m = (lsF i0).length + 1 := by omega
          rw [hme, parA_all] at hS8
          refine Cd.exit ?_
          refine thenQ_x ?_
          refine thenQ_x ?_
          refine blockQ_x ?_
          refine blockQ_n ?_
          refine thenQ_n ?_
          refine Cd.region ?_
          refine Ops.add rfl rfl rfl (by omega) ?_
          refine Ops.mv_int rfl rfl rfl ?_
          refine Ops.nil ?_
          refine thenQ_n ?_
          refine ⟨(k + 1, A7, c7, q ++ [i0]), by show n - (k + 1) < n - k; omega, ⟨rfl, by show Value.slice A7 (q.length + 1) c7 = .slice A7 (q ++ [i0]).length c7; simp, rfl, rfl, rfl, trivial⟩, by show k + 1 ≤ n; omega, by show (q ++ [i0]).Sublist (q0.take (k + 1)); rw [htk]; exact hsub.append (List.Sublist.refl _), ?_, ?_⟩
          · show (q ++ [i0]).map lsF = grtP ((q0.take (k + 1)).map lsF)
            rw [hgs, grtS, if_neg (fun h => by
              rcases h with h | h
              · exact hne h
              · exact h3 h), List.map_append, hgrt]
            rfl
          · show St w w8 [CkR _ A7 (q ++ [i0]).length c7 ((q ++ [i0]).map rsF), CkM _ g (prV Value.string Value.bool (seenA (((q ++ [i0]).map lsF).flatMap allP))), CkR _ A1 n c1 (q0.map rsF)]
            rw [List.map_append, List.map_append, List.flatMap_append, hbase, List.length_append]
            have e1 : ([i0].map lsF).flatMap allP = allP (lsF i0) := by simp
            rw [e1]
            exact hS8
  · have hkn : k = n := by omega
    subst hkn
    rw [← hq0l, List.take_length] at hgrt
    have hsv : ∀ a, a < q.length → sv (q.map rsF) a = rsF (q.getD a 0) := fun a ha => by simp [sv, List.getD_eq_getElem?_getD, ha]
    have hqg : ∀ a, a < q.length → q.getD a 0 ∈ q := fun a ha => by rw [List.getD_eq_getElem?_getD, List.getElem?_eq_getElem ha]; exact List.getElem_mem _
    refine Cd.exit ?_
    refine thenQ_x ?_
    refine thenQ_x ?_
    refine blockQ_x ?_
    refine thenQ_n ?_
    refine Cd.seq ?_
    refine Cd.region ?_
    refine Ops.mv_sl rfl rfl rfl ?_
    refine Ops.call (sortL_c 0 hS4 rfl (by omega) (fun a => lsF (q.getD a 0)) (fun a ha => by rw [hsv a ha]; have h1 := (hrow w _ (hqm _ (hqg a ha)) (Below.refl _ _)).1; have h2 := h6 _ (hlF _ (hqm _ (hqg a ha))); omega) (fun w' q' _ _ hS' a ha => by rw [hsv a ha]; exact hrow w' _ (hqm _ (hqg a ha)) hS'.below)) rfl rfl rfl ?_
    rintro _ w5 ⟨rfl, q2, hq2, hq2s, hS5⟩
    have hq2l : q2.length = q.length := by rw [hq2.length_eq, List.length_range]
    have hq2m : ∀ a ∈ q2, a < q.length := fun a ha => List.mem_range.1 (hq2.mem_iff.1 ha)
    have hfin : (q2.map fun a => q.getD a 0).Perm q := by
      have h := hq2.map fun a => q.getD a 0
      rwa [← map_range 0 q] at h
    have hrows : q2.map (sv (q.map rsF)) = (q2.map fun a => q.getD a 0).map rsF := by
      rw [List.map_map]
      exact List.map_congr_left fun a ha => hsv a (hq2m a ha)
    have hS6 : St w w5 [CkR 25 A5 q.length c5 (q2.map (sv (q.map rsF)))] := hS5.sub (List.Sublist.cons_cons _ (List.nil_sublist _))
    rw [hrows] at hS6
    refine Ops.nil ?_
    refine thenQ_n ?_
    refine Cd.seq ?_
    refine Cd.region ?_
    refine Ops.mv_sl rfl rfl rfl ?_
    refine Ops.mv_sl rfl rfl rfl ?_
    refine Ops.nil ?_
    refine thenQ_n ?_
    refine Cd.ret ?_
    refine ret1_s rfl ?_
    refine ⟨q2.map fun a => q.getD a 0, A5, c5, by simp [hq2l], hfin.nodup_iff.2 hqn, fun i hi => hqm i (hfin.mem_iff.1 hi), ?_, by simpa [hq2l] using hS6⟩
    refine grt_fac hsa hlq hlq2 ?_ ?_
    · have h := hfin.map lsF
      rwa [hgrt] at h
    · rw [List.pairwise_map, List.pairwise_map]
      exact hq2s
end Go.Proofs.YtdedegbendjmbaaGreatDoor.Vc
/-
  Plain mathematics of complexes: the complex of some lists is one, and a complex is that of its facets. Conditions: as each states them. No program in sight.
-/
namespace Go.Proofs.YtdedegbendjmbaaGreatDoor.Vc

def rngI (n : Nat) : List Int := (List.range n).map fun k : Nat => (k : Int)
end Go.Proofs.YtdedegbendjmbaaGreatDoor.Vc
/-
  Rows of structs of two cells, a slice and a number: the rules of the operations on them. Conditions: as each rule names them.
-/
namespace Go.Proofs.YtdedegbendjmbaaGreatDoor.Vc
open Go.RowKit

structure CV where
  s : SlV
  v : Int
def flatC : List CV → List Value
  | [] => []
  | x :: r => x.s.v :: .int .i64 x.v :: flatC r
/-- a row of such structs of one's own: k of them, room for q -/
def CkC (t : TypeId) (A : Option Addr) (k q : Nat) (cs : List CV) : Ck := ⟨A, 2 * k, min (2 * q) maxLen, t, flatC cs⟩
/-- .. that can be read -/
def RdC (w : World) (A : Option Addr) (k : Nat) (cs : List CV) : Prop := cs.length = k ∧ Rd w A (2 * k) (fun j => (flatC cs).getD j undef)
/-- the address behind some -/
def cutC (A : Option Addr) (q l : Nat) : Option Addr := if q = l then A else ptrAt A (l * 2)
section
variable {w0 w : World} {ks : List Ck} {i : Nat} {t : TypeId} {A : Option Addr} {k q : Nat} {cs : List CV}
/-- a new block, of which a part is held -/
theorem St.allocP (h : St w0 w ks) (cs : List Value) (e : TypeId) (n c : Nat) (hn : n ≤ c) (hc : c ≤ cs.length) (hm : c ≤ maxLen) (hM : isM cs = false) : St w0 (w.alloc (.cells cs.toArray e)) (⟨some ⟨w.heap.size, 0, Option.none⟩, n, c, e, cs.take n⟩ :: ks) := by
  have hb : Below w.heap.size w (w.alloc (.cells cs.toArray e)) := (Below.refl _ _).alloc (Nat.le_refl _) _
  have h1 := h.later hb
  refine ⟨h1.below, fun k hk => ?_, ?_⟩
  · rcases List.mem_cons.1 hk with rfl | hk
    · refine .ofC (isM_take n hM) ⟨by simp; omega, hn, hm, .inr ⟨_, 0, cs.toArray, rfl, h.below.size, heap_alloc_new w _, by simp; omega, fun j hj => ?_⟩⟩
      have hj : j < n := hj
      simp [List.getElem?_take, hj]
    · exact h1.own k hk
  · simp only [List.filterMap_cons, Ck.blk, Option.map_some, List.nodup_cons]
    refine ⟨fun hin => ?_, h.apart⟩
    obtain ⟨k', hk', hkb⟩ := List.mem_filterMap.1 hin
    have := ((h.own k' hk').lt hkb).2
    omega
end
section
variable {P : Program} {N : Nat} {ops : Array Oper} {K : Env → World → Prop} {rest : List Oper} {e : Env} {w0 w w' : World} {ks : List Ck} {d : Nat} {ty : TypeId} {pos : String} {af : Array Edge}
theorem Ops.bld2c {t : TypeId} {f0 f1 : Field} {z0 z1 y0 y1 : Value} {b b0 b1 : Nat} [Und P t (.struct #[f0, f1])] [Inf P t (.agg #[z0, z1]) 2 b] {x0 x1 : Operand} {v0 v1 : Value} (hI0 : Inf P f0.type y0 1 b0) (hI1 : Inf P f1.type y1 1 b1) (ho : f0.offset = 0) (ho1 : f1.offset = 1) (h0 : ev e x0 = v0) (h1 : ev e x1 = v1) (c0 : v0.oneCell' = true) (c1 : v1.oneCell' = true) (hb : Nat.blt d N = true)
    (hK : Ops P N ops K rest (upd e d (.agg #[v0, v1])) w) : Ops P N ops K (⟨some d, .build t #[(0, x0), (1, x1)], ty, pos, af, none⟩ :: rest) e w := by
  obtain ⟨inf, hi, hz0, hs, hby⟩ := Inf.get P t
  obtain ⟨inf0, hi0, hz00, hs0, hby0⟩ := hI0.get P f0.type
  obtain ⟨inf1, hi1, hz01, hs1, hby1⟩ := hI1.get P f1.type
  have e0 : v0.cells = #[v0] := by cases v0 <;> simp [Value.oneCell'] at c0 <;> rfl
  have e1 : v1.cells = #[v1] := by cases v1 <;> simp [Value.oneCell'] at c1 <;> rfl
  have ez : (Value.agg #[z0, z1]).cells = #[z0, z1] := rfl
  refine .val (w' := w) ?_ hb hK
  simp [execOp, Instr.build, run_underlying (Und.out (P := P) (t := t)), sizeOf, typeInfo, zeroValue, hi, hz0, hi0, hs0, hi1, hs1, ho, ho1, h0, h1, e0, e1, ez, Instr.fill]

end
end Go.Proofs.YtdedegbendjmbaaGreatDoor.Vc
/-
  The complex of some lists, walked. Conditions: as each states them.
-/
namespace Go.Proofs.YtdedegbendjmbaaGreatDoor.Vc
open Go.RowKit
section
variable {P : Program} {N : Nat} {ops : Array Oper} {K : Env → World → Prop} {rest : List Oper} {e : Env} {w0 w w' : World} {ks : List Ck} {d : Nat} {ty : TypeId} {pos : String} {af : Array Edge}
end

def AnsC (V : Int) (F : List (List Int)) (K : Int) (w : World) (v : Value) (w' : World) : Prop := ∃ A' c' rs', v = .tuple #[.agg #[.int .i64 V, .slice A' F.length c'], .int .i64 K] ∧ rs'.length = F.length ∧ St w w' (mat 25 2 A' F.length c' rs' F ++ [])
/-- some rows with new numbers, the others as they were -/
def mixR (f : Int → Int) (ss : List (List Int)) (k : Nat) : List (List Int) := (ss.take k).map (List.map f) ++ ss.drop k
def mixI (f : Int → Int) (l : List Int) (j : Nat) : List Int := (l.take j).map f ++ l.drop j
end Go.Proofs.YtdedegbendjmbaaGreatDoor.Vc
/-
  The test of a complex, walked. Conditions: as each states them.
-/
namespace Go.Proofs.YtdedegbendjmbaaGreatDoor.Vc
open Go.RowKit

end Go.Proofs.YtdedegbendjmbaaGreatDoor.Vc
/-
  What the tests of complexes need: plain parts, and short walks. Conditions: as each states them.
-/
namespace Go.Proofs.YtdedegbendjmbaaGreatDoor.Vc
open Go.RowKit

instance (l : List Int) : Decidable (SA l) := by unfold SA; exact inferInstance
instance (l : List (List Int)) : Decidable (SL l) := by unfold SL; exact inferInstance
instance (V : Int) (F : List (List Int)) : Decidable (Cplx V F) := decidable_of_iff ((0 ≤ V ∧ V ≤ 60) ∧ F.length ≤ 400 ∧ (∀ l ∈ F, (1 ≤ l.length ∧ l.length ≤ 6) ∧ SA l ∧ ∀ x ∈ l, 0 ≤ x ∧ x < V) ∧ SL F ∧ (∀ k, k < V.toNat → ∃ l ∈ F, (k : Int) ∈ l) ∧ ∀ l ∈ F, ∀ m ∈ F, Ins l m → m = l)
  ⟨fun ⟨a, b, c, d, e, f⟩ => ⟨a, b, c, d, fun x h0 h1 => by
    have := e x.toNat (by omega)
    rwa [Int.toNat_of_nonneg h0] at this, f⟩, fun h => ⟨h.v, h.f, h.row, h.ord, fun k hk => h.all k (by omega) (by omega), h.top⟩⟩

/-! marks at the elements of a list -/
def pnt (H : List Bool) (vs : List Int) : List Bool := vs.foldl (fun H v => H.set v.toNat true) H
theorem pnt_snoc (H : List Bool) (vs : List Int) (v : Int) : pnt H (vs ++ [v]) = (pnt H vs).set v.toNat true := by simp [pnt, List.foldl_append]
theorem pnt_len (H : List Bool) : ∀ vs, (pnt H vs).length = H.length := by
  intro vs
  unfold pnt
  induction vs generalizing H with
  | nil => rfl
  | cons a r ih => rw [List.foldl_cons, ih, List.length_set]
theorem pnt_gb (H : List Bool) (vs : List Int) (hv : ∀ v ∈ vs, 0 ≤ v ∧ v < H.length) (x : Int) (h0 : 0 ≤ x) : gb (pnt H vs) x = (gb H x || decide (x ∈ vs)) := by
  unfold pnt
  induction vs generalizing H with
  | nil => simp
  | cons a r ih =>
    have ha := hv a (by simp)
    rw [List.foldl_cons, ih _ (fun v h => by rw [List.length_set]; exact hv v (by simp [h])), gb_set ha.1 ha.2 h0]
    by_cases e : a = x
    · subst e; simp
    · have e' : ¬ x = a := fun h => e h.symm
      simp [e, e']
theorem gb_rep (n : Nat) (x : Int) : gb (List.replicate n false) x = false := by
  unfold gb
  rw [List.getD_eq_getElem?_getD, List.getElem?_replicate]
  split <;> rfl
theorem pnt_all {m : Nat} {F : List (List Int)} (h : ∀ l ∈ F, ∀ x ∈ l, 0 ≤ x ∧ x < (m : Int)) (x : Int) (h0 : 0 ≤ x) : gb (pnt (List.replicate m false) F.flatten) x = decide (∃ l ∈ F, x ∈ l) := by
  rw [pnt_gb _ _ (fun v hv => by
    obtain ⟨l, hl, hx⟩ := List.mem_flatten.1 hv
    rw [List.length_replicate]; exact h l hl v hx) x h0, gb_rep, Bool.false_or]
  exact decide_eq_decide.2 (by rw [List.mem_flatten])

/-! the first facets -/
structure PreC (V : Int) (F : List (List Int)) (k : Nat) : Prop where
  row : ∀ l ∈ F.take k, (1 ≤ l.length ∧ l.length ≤ 6) ∧ SA l ∧ ∀ x ∈ l, 0 ≤ x ∧ x < V
  ord : SL (F.take k)
theorem PreC.zero (V : Int) (F : List (List Int)) : PreC V F 0 := ⟨by simp, by simp [SL]⟩
theorem PreC.step {V : Int} {F : List (List Int)} {k : Nat} (h : PreC V F k) (hk : k < F.length) (h1 : (1 ≤ (gl F (k : Int)).length ∧ (gl F (k : Int)).length ≤ 6) ∧ SA (gl F (k : Int)) ∧ ∀ x ∈ gl F (k : Int), 0 ≤ x ∧ x < V) (h2 : k = 0 ∨ LT (gl F ((k : Int) - 1)) (gl F (k : Int))) : PreC V F (k + 1) := by
  refine ⟨?_, ?_⟩
  · rw [take_succ_gl hk]
    intro l hl
    rcases List.mem_append.1 hl with hl | hl
    · exact h.row l hl
    · obtain rfl : l = gl F (k : Int) := by simpa using hl
      exact h1
  · unfold SL
    rw [take_succ_gl hk, List.pairwise_append]
    refine ⟨h.ord, by simp, fun a ha b hb => ?_⟩
    obtain rfl : b = gl F (k : Int) := by simpa using hb
    rcases h2 with h2 | h2
    · subst h2; simp at ha
    · obtain ⟨j, hj, rfl⟩ := List.mem_iff_getElem.1 ha
      have hjk : j < k := by have := hj; simp at this; omega
      by_cases e : j = k - 1
      · subst e
        have e2 : (k : Int) - 1 = ((k - 1 : Nat) : Int) := by omega
        rw [e2, gl_mem (by omega)] at h2
        simpa using h2
      · have e2 : (k : Int) - 1 = ((k - 1 : Nat) : Int) := by omega
        rw [e2, gl_mem (by omega)] at h2
        have h3 := List.pairwise_iff_getElem.1 h.ord j (k - 1) hj (by simp; omega) (by omega)
        refine LT.trans h3 ?_
        simpa using h2
theorem Cplx.at_ {V : Int} {F : List (List Int)} (h : Cplx V F) {k : Nat} (hk : k < F.length) : (1 ≤ (gl F (k : Int)).length ∧ (gl F (k : Int)).length ≤ 6) ∧ SA (gl F (k : Int)) ∧ ∀ x ∈ gl F (k : Int), 0 ≤ x ∧ x < V := h.row _ (by rw [gl_mem hk]; exact List.getElem_mem _)
theorem Cplx.lt {V : Int} {F : List (List Int)} (h : Cplx V F) {k : Nat} (h0 : 0 < k) (hk : k < F.length) : LT (gl F ((k : Int) - 1)) (gl F (k : Int)) := by
  rw [show (k : Int) - 1 = ((k - 1 : Nat) : Int) by omega, gl_mem hk, gl_mem (by omega)]
  exact List.pairwise_iff_getElem.1 h.ord (k - 1) k (by omega) hk (by omega)
theorem PreC.all {V : Int} {F : List (List Int)} (h : PreC V F F.length) : (∀ l ∈ F, (1 ≤ l.length ∧ l.length ≤ 6) ∧ SA l ∧ ∀ x ∈ l, 0 ≤ x ∧ x < V) ∧ SL F := by
  have h1 := h.row
  have h2 := h.ord
  rw [List.take_length] at h1 h2
  exact ⟨h1, h2⟩
theorem SA.snoc {l : List Int} {k : Nat} (h : SA (l.take k)) (hk : k < l.length) (h2 : k = 0 ∨ gi l ((k : Int) - 1) < gi l (k : Int)) : SA (l.take (k + 1)) := by
  unfold SA
  rw [take_succ_gi hk, List.pairwise_append]
  refine ⟨h, by simp, fun a ha b hb => ?_⟩
  obtain rfl : b = gi l (k : Int) := by simpa using hb
  rcases h2 with h2 | h2
  · subst h2; simp at ha
  · obtain ⟨j, hj, rfl⟩ := List.mem_iff_getElem.1 ha
    have hjk : j < k := by have := hj; simp at this; omega
    rw [show (k : Int) - 1 = ((k - 1 : Nat) : Int) by omega] at h2
    by_cases e : j = k - 1
    · subst e
      rw [gi_mem (by omega)] at h2
      simpa using h2
    · have h3 := List.pairwise_iff_getElem.1 h j (k - 1) hj (by simp; omega) (by omega)
      rw [gi_mem (by omega)] at h2
      have h4 : (l.take k)[j] < l[k - 1] := by simpa using h3
      omega
theorem SA.step {l : List Int} (h : SA l) {k : Nat} (h0 : 0 < k) (hk : k < l.length) : gi l ((k : Int) - 1) < gi l (k : Int) := by
  rw [show (k : Int) - 1 = ((k - 1 : Nat) : Int) by omega]
  exact h.lt (by omega) hk

theorem IndexB_c (A : Option Addr) (n c : Nat) (xs : List Bool) (v : Bool) (w : World) (hR : RdB w A n xs) (hn : n ≤ 9223372036854775807) :
    Ret Tryz.prog 150 [.slice A n c, .bool v] w (fun r w' => (∃ i : Int, r = .int .i64 i ∧ (0 ≤ i ↔ v ∈ xs)) ∧ w' = w) := by
  have hxl := hR.1
  refine Ret.of_cd Tryz.func150 rfl Tryz.ntmps150 rfl (post1 rfl) ?_
  refine Cd.seq ?_
  refine Cd.region ?_
  refine Ops.mv_int rfl rfl rfl ?_
  refine Ops.nil ?_
  refine thenQ_n ?_
  refine Cd.seq ?_
  refine Cd.seq ?_
  refine Cd.region ?_
  refine Ops.mv_sl rfl rfl rfl ?_
  refine Ops.len rfl rfl ?_
  refine Ops.mv_int rfl rfl rfl ?_
  refine Ops.nil ?_
  refine thenQ_n ?_
  refine Cd.block ?_
  refine Cd.loop (α := Nat) (fun k => [(0, .slice A n c), (1, .bool v), (7, .int .i64 (n : Int)), (8, .int .i64 (k : Int))]) (fun k w' => w' = w ∧ k ≤ n ∧ ∀ j : Nat, j < k → gb xs (j : Int) ≠ v) (fun k => n - k) 0 ⟨rfl, rfl, rfl, rfl, trivial⟩ ⟨rfl, Nat.zero_le _, fun j hj => by omega⟩ ?_
  rintro k e w ⟨rfl, hk, hK⟩
  refine Cd.seq ?_
  refine Cd.region ?_
  refine Ops.lss rfl rfl rfl ?_
  refine Ops.nil ?_
  refine thenQ_n ?_
  refine Cd.seq ?_
  refine Cd.cond_p _ rfl (fun h3 => ?_) (fun h3 => ?_)
  · have hg : gb xs (k : Int) = xs[k]'(by omega) := by simp [gb, List.getD_eq_getElem?_getD, show k < xs.length by omega]
    refine Cd.skip ?_
    refine thenQ_n ?_
    refine Cd.seq ?_
    refine Cd.block ?_
    refine Cd.seq ?_
    refine Cd.region ?_
    refine Ops.mv_int rfl rfl rfl ?_
    refine Ops.mv_int rfl rfl rfl ?_
    refine Ops.nil ?_
    refine thenQ_n ?_
    refine Cd.seq ?_
    refine Cd.region ?_
    refine Ops.mv_bool rfl rfl rfl ?_
    refine Ops.mv_sl rfl rfl rfl ?_
    refine Ops.mv_int rfl rfl rfl ?_
    refine Ops.idx hR.2 rfl rfl rfl (by omega) (by omega) ?_
    refine Ops.ld_bool hR rfl (by omega) rfl rfl ?_
    refine Ops.eqlB rfl rfl rfl ?_
    refine Ops.nil ?_
    refine thenQ_n ?_
    refine Cd.cond rfl (fun h4 => ?_) (fun h4 => ?_)
    · refine Cd.seq ?_
      refine Cd.region ?_
      refine Ops.mv_int rfl rfl rfl ?_
      refine Ops.mv_int rfl rfl rfl ?_
      refine Ops.nil ?_
      refine thenQ_n ?_
      refine Cd.ret ?_
      refine blockQ_r ?_
      refine thenQ_r ?_
      refine thenQ_r ?_
      refine blockQ_r ?_
      refine thenQ_r ?_
      refine ret1_i rfl ?_
      have h4 : v = gb xs (k : Int) := by simpa using h4
      exact ⟨⟨(k : Int), rfl, ⟨fun _ => by rw [h4, hg]; exact List.getElem_mem _, fun _ => by omega⟩⟩, rfl⟩
    · refine Cd.skip ?_
      refine blockQ_n ?_
      refine thenQ_n ?_
      refine Cd.region ?_
      refine Ops.add rfl rfl rfl (by omega) ?_
      refine Ops.mv_int rfl rfl rfl ?_
      refine Ops.nil ?_
      refine thenQ_n ?_
      have h4 : ¬ v = gb xs (k : Int) := by simpa using h4
      refine ⟨k + 1, by show n - (k + 1) < n - k; omega, ⟨rfl, rfl, rfl, rfl, trivial⟩, rfl, by omega, fun j hj => ?_⟩
      by_cases ej : j = k
      · subst ej; exact fun h => h4 h.symm
      · exact hK j (by omega)
  · refine Cd.exit ?_
    refine thenQ_x ?_
    refine thenQ_x ?_
    refine blockQ_x ?_
    refine thenQ_n ?_
    refine Cd.seq ?_
    refine Cd.region ?_
    refine Ops.mv_int rfl rfl rfl ?_
    refine Ops.nil ?_
    refine thenQ_n ?_
    refine Cd.ret ?_
    refine ret1_i rfl ?_
    refine ⟨⟨-1, rfl, ⟨fun h => absurd h (by decide), fun h => ?_⟩⟩, rfl⟩
    obtain ⟨j, hj, hjv⟩ := List.mem_iff_getElem.1 h
    exact absurd (by simpa [gb, List.getD_eq_getElem?_getD, hj] using hjv) (hK j (by omega))
theorem ContainsB_c (A : Option Addr) (n c : Nat) (xs : List Bool) (v : Bool) (w : World) (hR : RdB w A n xs) (hn : n ≤ 9223372036854775807) :
    Ret Tryz.prog 118 [.slice A n c, .bool v] w (fun r w' => r = .bool (decide (v ∈ xs)) ∧ w' = w) := by
  refine Ret.of_cd Tryz.func118 rfl Tryz.ntmps118 rfl (post1 rfl) ?_
  refine Cd.seq ?_
  refine Cd.region ?_
  refine Ops.mv_bool rfl rfl rfl ?_
  refine Ops.nil ?_
  refine thenQ_n ?_
  refine Cd.seq ?_
  refine Cd.region ?_
  refine Ops.mv_sl rfl rfl rfl ?_
  refine Ops.mv_bool rfl rfl rfl ?_
  refine Ops.call (IndexB_c A n c xs v _ hR hn) rfl rfl rfl ?_
  rintro _ w ⟨⟨i, rfl, hi⟩, rfl⟩
  refine Ops.geq rfl rfl rfl ?_
  refine Ops.mv_bool rfl rfl rfl ?_
  refine Ops.nil ?_
  refine thenQ_n ?_
  refine Cd.ret ?_
  refine ret1_b rfl ?_
  exact ⟨congrArg Value.bool (decide_eq_decide.2 hi), rfl⟩

theorem l17Within_c (A : Option Addr) (n c : Nat) (a : List Int) (A' : Option Addr) (n' c' : Nat) (b : List Int) (w : World) (hA : RdI w A n a) (hB : RdI w A' n' b) (hn : n ≤ 9223372036854775807) (hn' : n' ≤ 9223372036854775807) :
    Ret Tryz.prog 113 [.slice A n c, .slice A' n' c'] w (fun v w' => v = .bool (decide (Ins a b)) ∧ w' = w) := by
  have hal := hA.1
  refine Ret.of_cd Tryz.func113 rfl Tryz.ntmps113 rfl (post1 rfl) ?_
  refine Cd.seq ?_
  refine Cd.region ?_
  refine Ops.mv_bool rfl rfl rfl ?_
  refine Ops.nil ?_
  refine thenQ_n ?_
  refine Cd.seq ?_
  refine Cd.seq ?_
  refine Cd.region ?_
  refine Ops.mv_int rfl rfl rfl ?_
  refine Ops.nil ?_
  refine thenQ_n ?_
  refine Cd.block ?_
  refine Cd.loop (α := Nat) (fun k => [(0, .slice A n c), (1, .slice A' n' c'), (5, .int .i64 (k : Int))]) (fun k w' => w' = w ∧ k ≤ n ∧ Ins (a.take k) b) (fun k => n - k) 0 ⟨rfl, rfl, rfl, trivial⟩ ⟨rfl, Nat.zero_le _, by simp [Ins]⟩ ?_
  rintro k e w ⟨rfl, hk, hP⟩
  refine Cd.seq ?_
  refine Cd.seq ?_
  refine Cd.region ?_
  refine Ops.mv_int rfl rfl rfl ?_
  refine Ops.mv_sl rfl rfl rfl ?_
  refine Ops.len rfl rfl ?_
  refine Ops.lss rfl rfl rfl ?_
  refine Ops.nil ?_
  refine thenQ_n ?_
  refine Cd.cond_p _ rfl (fun h1 => ?_) (fun h1 => ?_)
  · have hka : k < a.length := by omega
    have hin : gi a (k : Int) ∈ a := by rw [gi_mem hka]; exact List.getElem_mem _
    refine Cd.skip ?_
    refine thenQ_n ?_
    refine Cd.seq ?_
    refine Cd.block ?_
    refine Cd.seq ?_
    refine Cd.region ?_
    refine Ops.mv_sl rfl rfl rfl ?_
    refine Ops.mv_sl rfl rfl rfl ?_
    refine Ops.mv_int rfl rfl rfl ?_
    refine Ops.idx hA.2 rfl rfl rfl (by omega) (by omega) ?_
    refine Ops.ld_int hA rfl (by omega) rfl rfl ?_
    skip
    refine Ops.call (l01Has_c _ _ _ _ _ _ hB hn') rfl rfl rfl ?_
    rintro _ _ ⟨rfl, rfl⟩
    first | refine Ops.not_p rfl rfl ?_ | refine Ops.not rfl rfl ?_
    refine Ops.nil ?_
    refine thenQ_n ?_
    refine Cd.cond_p _ rfl (fun h2 => ?_) (fun h2 => ?_)
    · refine Cd.seq ?_
      refine Cd.region ?_
      refine Ops.mv_bool rfl rfl rfl ?_
      refine Ops.nil ?_
      refine thenQ_n ?_
      refine Cd.ret ?_
      refine blockQ_r ?_
      refine thenQ_r ?_
      refine thenQ_r ?_
      refine blockQ_r ?_
      refine thenQ_r ?_
      refine ret1_b rfl ?_
      exact ⟨by rw [decide_eq_false (fun h : Ins a b => h2 (h _ hin))], rfl⟩
    · refine Cd.skip ?_
      refine blockQ_n ?_
      refine thenQ_n ?_
      refine Cd.region ?_
      refine Ops.mv_int rfl rfl rfl ?_
      refine Ops.add rfl rfl rfl (by omega) ?_
      refine Ops.mv_int rfl rfl rfl ?_
      refine Ops.nil ?_
      refine thenQ_n ?_
      refine ⟨k + 1, by show n - (k + 1) < n - k; omega, ⟨rfl, rfl, rfl, trivial⟩, rfl, by omega, ?_⟩
      rw [take_succ_gi hka]
      intro x hx
      rcases List.mem_append.1 hx with hx | hx
      · exact hP x hx
      · obtain rfl : x = gi a (k : Int) := by simpa using hx
        exact Classical.not_not.1 h2
  · refine Cd.exit ?_
    refine thenQ_x ?_
    refine thenQ_x ?_
    refine blockQ_x ?_
    refine thenQ_n ?_
    refine Cd.seq ?_
    refine Cd.region ?_
    refine Ops.mv_bool rfl rfl rfl ?_
    refine Ops.nil ?_
    refine thenQ_n ?_
    refine Cd.ret ?_
    refine ret1_b rfl ?_
    rw [List.take_of_length_le (by omega)] at hP
    exact ⟨by rw [decide_eq_true hP], rfl⟩

def Rise (most : Int) (l : List Int) : Prop := SA l ∧ ∀ x ∈ l, 0 ≤ x ∧ x ≤ most
instance (most : Int) (l : List Int) : Decidable (Rise most l) := by unfold Rise; exact inferInstance
theorem l17Rises_c (A : Option Addr) (n c : Nat) (xs : List Int) (most : Int) (w : World) (hR : RdI w A n xs) (hn : n ≤ 9223372036854775807) :
    Ret Tryz.prog 111 [.slice A n c, .int .i64 most] w (fun v w' => v = .bool (decide (Rise most xs)) ∧ St w w' []) := by
  have hxl := hR.1
  refine Ret.of_cd Tryz.func111 rfl Tryz.ntmps111 rfl (post1 rfl) ?_
  refine Cd.seq ?_
  refine Cd.region ?_
  refine Ops.mv_bool rfl rfl rfl ?_
  refine Ops.nil ?_
  refine thenQ_n ?_
  refine Cd.seq ?_
  refine Cd.seq ?_
  refine Cd.region ?_
  refine Ops.mv_int rfl rfl rfl ?_
  refine Ops.nil ?_
  refine thenQ_n ?_
  refine Cd.block ?_
  refine Cd.loop (α := Nat) (fun k => [(0, .slice A n c), (1, .int .i64 most), (5, .int .i64 (k : Int))]) (fun k w' => St w w' [] ∧ k ≤ n ∧ Rise most (xs.take k)) (fun k => n - k) 0 ⟨rfl, rfl, rfl, trivial⟩ ⟨St.refl w, Nat.zero_le _, by simp [Rise, SA]⟩ ?_
  rintro k e w1 ⟨hS, hk, hP⟩
  have hR1 := hS.oldI hR
  refine Cd.seq ?_
  refine Cd.seq ?_
  refine Cd.region ?_
  refine Ops.mv_int rfl rfl rfl ?_
  refine Ops.mv_sl rfl rfl rfl ?_
  refine Ops.len rfl rfl ?_
  refine Ops.lss rfl rfl rfl ?_
  refine Ops.nil ?_
  refine thenQ_n ?_
  refine Cd.cond_p _ rfl (fun h1 => ?_) (fun h1 => ?_)
  · have hka : k < xs.length := by omega
    have hin : gi xs (k : Int) ∈ xs := by rw [gi_mem hka]; exact List.getElem_mem _
    have hnext : (0 ≤ gi xs (k : Int) ∧ gi xs (k : Int) ≤ most) → (k = 0 ∨ gi xs ((k : Int) - 1) < gi xs (k : Int)) → Rise most (xs.take (k + 1)) := fun h2 h3 => ⟨hP.1.snoc hka h3, fun x hx => by
      rw [take_succ_gi hka] at hx
      rcases List.mem_append.1 hx with hx | hx
      · exact hP.2 x hx
      · obtain rfl : x = gi xs (k : Int) := by simpa using hx
        exact h2⟩
    refine Cd.skip ?_
    refine thenQ_n ?_
    refine Cd.seq ?_
    refine Cd.block ?_
    refine Cd.seq ?_
    by_cases h2 : 0 ≤ gi xs (k : Int) ∧ gi xs (k : Int) ≤ most
    · by_cases h3 : 0 < (k : Int)
      · by_cases h4 : gi xs (k : Int) ≤ gi xs ((k : Int) - 1)
        · --dup 4
          refine Cd.draw [.ex (.slice (A) (n) (c)), .ex (.int .i64 ((k : Int))), .ex (.pointer (ptrAt (A) ((k : Int)).toNat)), .ex (.int .i64 (gi (xs) ((k : Int)))), .ex (.int .i64 (most)), .ex (.bool (decide (0 ≤ gi xs (k : Int) ∧ gi xs (k : Int) ≤ most))), .ex (.bool (decide (¬ (0 ≤ gi xs (k : Int) ∧ gi xs (k : Int) ≤ most)))), .ex (.bool (false)), .ex (.int .i64 ((k : Int))), .ex (.bool (decide (((0 : Int)) < ((k : Int))))), .ex (.bool (true)), .ex (.slice (A) (n) (c)), .ex (.int .i64 ((k : Int))), .ex (.pointer (ptrAt (A) ((k : Int)).toNat)), .ex (.int .i64 (gi (xs) ((k : Int)))), .ex (.slice (A) (n) (c)), .ex (.int .i64 ((k : Int))), .ex (.int .i64 (((k : Int)) - ((1 : Int)))), .ex (.pointer (ptrAt (A) (((k : Int)) - ((1 : Int))).toNat)), .ex (.int .i64 (gi (xs) (((k : Int)) - ((1 : Int))))), .ex (.bool (decide ((gi (xs) ((k : Int))) ≤ (gi (xs) (((k : Int)) - ((1 : Int))))))), .ex (.bool (decide ((gi (xs) ((k : Int))) ≤ (gi (xs) (((k : Int)) - ((1 : Int))))))), .ex (.bool (true))] (by kernel_rfl) (by kernel_rfl) rfl (List.forall_mem_cons.2 ⟨Yd.lasts_ex _, (List.forall_mem_cons.2 ⟨Yd.lasts_ex _, (List.forall_mem_cons.2 ⟨Yd.lasts_ex _, (List.forall_mem_cons.2 ⟨Yd.lasts_ex _, (List.forall_mem_cons.2 ⟨Yd.lasts_ex _, (List.forall_mem_cons.2 ⟨Yd.lasts_ex _, (List.forall_mem_cons.2 ⟨Yd.lasts_ex _, (List.forall_mem_cons.2 ⟨Yd.lasts_ex _, (List.forall_mem_cons.2 ⟨Yd.lasts_ex _, (List.forall_mem_cons.2 ⟨Yd.lasts_ex _, (List.forall_mem_cons.2 ⟨Yd.lasts_ex _, (List.forall_mem_cons.2 ⟨Yd.lasts_ex _, (List.forall_mem_cons.2 ⟨Yd.lasts_ex _, (List.forall_mem_cons.2 ⟨Yd.lasts_ex _, (List.forall_mem_cons.2 ⟨Yd.lasts_ex _, (List.forall_mem_cons.2 ⟨Yd.lasts_ex _, (List.forall_mem_cons.2 ⟨Yd.lasts_ex _, (List.forall_mem_cons.2 ⟨Yd.lasts_ex _, (List.forall_mem_cons.2 ⟨Yd.lasts_ex _, (List.forall_mem_cons.2 ⟨Yd.lasts_ex _, (List.forall_mem_cons.2 ⟨Yd.lasts_ex _, (List.forall_mem_cons.2 ⟨Yd.lasts_ex _, (List.forall_mem_cons.2 ⟨Yd.lasts_ex _, (fun _ h => by cases h)⟩)⟩)⟩)⟩)⟩)⟩)⟩)⟩)⟩)⟩)⟩)⟩)⟩)⟩)⟩)⟩)⟩)⟩)⟩)⟩)⟩)⟩)⟩) ⟨?_, ?_, ?_, ?_, ?_, ?_, ?_, ?_, ?_, ?_, ?_, ?_, ?_, ?_, ?_, ?_, ?_, ?_, ?_, ?_, ?_, ?_, ?_, trivial⟩ ?_
          · intro e1 w1 hb hp hun
            refine Ops.mv_sl rfl rfl rfl ?_
            refine Ops.nil ?_
            exact After.dn (Below.refl _ _) (by exact rfl)
          · intro e1 w1 hb hp hun
            refine Ops.mv_int rfl rfl rfl ?_
            refine Ops.nil ?_
            exact After.dn (Below.refl _ _) (by exact rfl)
          · intro e1 w1 hb hp hun
            refine Ops.idx (hR1.later hb).2 rfl rfl rfl (by omega) (by omega) ?_
            refine Ops.nil ?_
            exact After.dn (Below.refl _ _) (by exact rfl)
          · intro e1 w1 hb hp hun
            refine Ops.ld_int (hR1.later hb) rfl (by omega) rfl rfl ?_
            refine Ops.nil ?_
            exact After.dn (Below.refl _ _) (by exact rfl)
          · intro e1 w1 hb hp hun
            refine Ops.mv_int rfl rfl rfl ?_
            refine Ops.nil ?_
            exact After.dn (Below.refl _ _) (by exact rfl)
          · intro e1 w1 hb hp hun
            refine Ops.call (l01In_c _ _ _ _) rfl rfl rfl ?_
            rintro _ w2 ⟨rfl, hst⟩
            subst hst
            refine Ops.nil ?_
            exact After.dn (Below.refl _ _) (by exact rfl)
          · intro e1 w1 hb hp hun
            refine Ops.not_p rfl rfl ?_
            refine Ops.nil ?_
            exact After.dn (Below.refl _ _) (by exact rfl)
          · intro e1 w1 hb hp hun
            refine Ops.mv_bool rfl rfl rfl ?_
            refine Ops.nil ?_
            exact After.dn (Below.refl _ _) (by exact congrArg Value.bool (decide_eq_false (fun h => h h2)))
          · intro e1 w1 hb hp hun
            refine Ops.rung rfl rfl rfl ?_
            refine Ops.mv_int rfl rfl rfl ?_
            refine Ops.nil ?_
            exact After.dn (Below.refl _ _) (by exact rfl)
          · intro e1 w1 hb hp hun
            refine Ops.rung rfl rfl rfl ?_
            refine Ops.gtr rfl rfl rfl ?_
            refine Ops.nil ?_
            exact After.dn (Below.refl _ _) (by exact rfl)
          · intro e1 w1 hb hp hun
            refine Ops.rung rfl rfl rfl ?_
            refine Ops.mv_bool rfl rfl rfl ?_
            refine Ops.nil ?_
            exact After.dn (Below.refl _ _) (by exact congrArg Value.bool (decide_eq_true h3))
          · intro e1 w1 hb hp hun
            refine Ops.rung rfl rfl rfl ?_
            refine Ops.mv_sl rfl rfl rfl ?_
            refine Ops.nil ?_
            exact After.dn (Below.refl _ _) (by exact rfl)
          · intro e1 w1 hb hp hun
            refine Ops.rung rfl rfl rfl ?_
            refine Ops.mv_int rfl rfl rfl ?_
            refine Ops.nil ?_
            exact After.dn (Below.refl _ _) (by exact rfl)
          · intro e1 w1 hb hp hun
            refine Ops.rung rfl rfl rfl ?_
            refine Ops.idx (hR1.later hb).2 rfl rfl rfl (by omega) (by omega) ?_
            refine Ops.nil ?_
            exact After.dn (Below.refl _ _) (by exact rfl)
          · intro e1 w1 hb hp hun
            refine Ops.rung rfl rfl rfl ?_
            refine Ops.ld_int (hR1.later hb) rfl (by omega) rfl rfl ?_
            refine Ops.nil ?_
            exact After.dn (Below.refl _ _) (by exact rfl)
          · intro e1 w1 hb hp hun
            refine Ops.rung rfl rfl rfl ?_
            refine Ops.mv_sl rfl rfl rfl ?_
            refine Ops.nil ?_
            exact After.dn (Below.refl _ _) (by exact rfl)
          · intro e1 w1 hb hp hun
            refine Ops.rung rfl rfl rfl ?_
            refine Ops.mv_int rfl rfl rfl ?_
            refine Ops.nil ?_
            exact After.dn (Below.refl _ _) (by exact rfl)
          · intro e1 w1 hb hp hun
            refine Ops.rung rfl rfl rfl ?_
            refine Ops.sub rfl rfl rfl (by omega) ?_
            refine Ops.nil ?_
            exact After.dn (Below.refl _ _) (by exact rfl)
          · intro e1 w1 hb hp hun
            refine Ops.rung rfl rfl rfl ?_
            refine Ops.idx (hR1.later hb).2 rfl rfl rfl (by omega) (by omega) ?_
            refine Ops.nil ?_
            exact After.dn (Below.refl _ _) (by exact rfl)
          · intro e1 w1 hb hp hun
            refine Ops.rung rfl rfl rfl ?_
            refine Ops.ld_int (hR1.later hb) rfl (by omega) rfl rfl ?_
            refine Ops.nil ?_
            exact After.dn (Below.refl _ _) (by exact rfl)
          · intro e1 w1 hb hp hun
            refine Ops.rung rfl rfl rfl ?_
            refine Ops.leq rfl rfl rfl ?_
            refine Ops.nil ?_
            exact After.dn (Below.refl _ _) (by exact rfl)
          · intro e1 w1 hb hp hun
            refine Ops.rung rfl rfl rfl ?_
            refine Ops.pick_t rfl rfl rfl ?_
            refine Ops.nil ?_
            exact After.dn (Below.refl _ _) (by exact rfl)
          · intro e1 w1 hb hp hun
            refine Ops.pick_f rfl rfl rfl ?_
            refine Ops.nil ?_
            exact After.dn (Below.refl _ _) (by exact congrArg Value.bool (decide_eq_true h4))
          intro u w2 hb _
          refine thenQ_n ?_
          refine Cd.cond_t rfl ?_
          refine Cd.seq ?_
          refine Cd.region ?_
          refine Ops.mv_bool rfl rfl rfl ?_
          refine Ops.nil ?_
          refine thenQ_n ?_
          refine Cd.ret ?_
          refine blockQ_r ?_
          refine thenQ_r ?_
          refine thenQ_r ?_
          refine blockQ_r ?_
          refine thenQ_r ?_
          refine ret1_b rfl ?_
          exact ⟨by rw [decide_eq_false (fun h : Rise most xs => by have := h.1.step (by omega) hka; omega)], hS.later hb⟩
        · refine Cd.draw [.ex (.slice (A) (n) (c)), .ex (.int .i64 ((k : Int))), .ex (.pointer (ptrAt (A) ((k : Int)).toNat)), .ex (.int .i64 (gi (xs) ((k : Int)))), .ex (.int .i64 (most)), .ex (.bool (decide (0 ≤ gi xs (k : Int) ∧ gi xs (k : Int) ≤ most))), .ex (.bool (decide (¬ (0 ≤ gi xs (k : Int) ∧ gi xs (k : Int) ≤ most)))), .ex (.bool (false)), .ex (.int .i64 ((k : Int))), .ex (.bool (decide (((0 : Int)) < ((k : Int))))), .ex (.bool (true)), .ex (.slice (A) (n) (c)), .ex (.int .i64 ((k : Int))), .ex (.pointer (ptrAt (A) ((k : Int)).toNat)), .ex (.int .i64 (gi (xs) ((k : Int)))), .ex (.slice (A) (n) (c)), .ex (.int .i64 ((k : Int))), .ex (.int .i64 (((k : Int)) - ((1 : Int)))), .ex (.pointer (ptrAt (A) (((k : Int)) - ((1 : Int))).toNat)), .ex (.int .i64 (gi (xs) (((k : Int)) - ((1 : Int))))), .ex (.bool (decide ((gi (xs) ((k : Int))) ≤ (gi (xs) (((k : Int)) - ((1 : Int))))))), .ex (.bool (decide ((gi (xs) ((k : Int))) ≤ (gi (xs) (((k : Int)) - ((1 : Int))))))), .ex (.bool (false))] (by kernel_rfl) (by kernel_rfl) rfl (List.forall_mem_cons.2 ⟨Yd.lasts_ex _, (List.forall_mem_cons.2 ⟨Yd.lasts_ex _, (List.forall_mem_cons.2 ⟨Yd.lasts_ex _, (List.forall_mem_cons.2 ⟨Yd.lasts_ex _, (List.forall_mem_cons.2 ⟨Yd.lasts_ex _, (List.forall_mem_cons.2 ⟨Yd.lasts_ex _, (List.forall_mem_cons.2 ⟨Yd.lasts_ex _, (List.forall_mem_cons.2 ⟨Yd.lasts_ex _, (List.forall_mem_cons.2 ⟨Yd.lasts_ex _, (List.forall_mem_cons.2 ⟨Yd.lasts_ex _, (List.forall_mem_cons.2 ⟨Yd.lasts_ex _, (List.forall_mem_cons.2 ⟨Yd.lasts_ex _, (List.forall_mem_cons.2 ⟨Yd.lasts_ex _, (List.forall_mem_cons.2 ⟨Yd.lasts_ex _, (List.forall_mem_cons.2 ⟨Yd.lasts_ex _, (List.forall_mem_cons.2 ⟨Yd.lasts_ex _, (List.forall_mem_cons.2 ⟨Yd.lasts_ex _, (List.forall_mem_cons.2 ⟨Yd.lasts_ex _, (List.forall_mem_cons.2 ⟨Yd.lasts_ex _, (List.forall_mem_cons.2 ⟨Yd.lasts_ex _, (List.forall_mem_cons.2 ⟨Yd.lasts_ex _, (List.forall_mem_cons.2 ⟨Yd.lasts_ex _, (List.forall_mem_cons.2 ⟨Yd.lasts_ex _, (fun _ h => by cases h)⟩)⟩)⟩)⟩)⟩)⟩)⟩)⟩)⟩)⟩)⟩)⟩)⟩)⟩)⟩)⟩)⟩)⟩)⟩)⟩)⟩)⟩)⟩) ⟨?_, ?_, ?_, ?_, ?_, ?_, ?_, ?_, ?_, ?_, ?_, ?_, ?_, ?_, ?_, ?_, ?_, ?_, ?_, ?_, ?_, ?_, ?_, trivial⟩ ?_
          · intro e1 w1 hb hp hun
            refine Ops.mv_sl rfl rfl rfl ?_
            refine Ops.nil ?_
            exact After.dn (Below.refl _ _) (by exact rfl)
          · intro e1 w1 hb hp hun
            refine Ops.mv_int rfl rfl rfl ?_
            refine Ops.nil ?_
            exact After.dn (Below.refl _ _) (by exact rfl)
          · intro e1 w1 hb hp hun
            refine Ops.idx (hR1.later hb).2 rfl rfl rfl (by omega) (by omega) ?_
            refine Ops.nil ?_
            exact After.dn (Below.refl _ _) (by exact rfl)
          · intro e1 w1 hb hp hun
            refine Ops.ld_int (hR1.later hb) rfl (by omega) rfl rfl ?_
            refine Ops.nil ?_
            exact After.dn (Below.refl _ _) (by exact rfl)
          · intro e1 w1 hb hp hun
            refine Ops.mv_int rfl rfl rfl ?_
            refine Ops.nil ?_
            exact After.dn (Below.refl _ _) (by exact rfl)
          · intro e1 w1 hb hp hun
            refine Ops.call (l01In_c _ _ _ _) rfl rfl rfl ?_
            rintro _ w2 ⟨rfl, hst⟩
            subst hst
            refine Ops.nil ?_
            exact After.dn (Below.refl _ _) (by exact rfl)
          · intro e1 w1 hb hp hun
            refine Ops.not_p rfl rfl ?_
            refine Ops.nil ?_
            exact After.dn (Below.refl _ _) (by exact rfl)
          · intro e1 w1 hb hp hun
            refine Ops.mv_bool rfl rfl rfl ?_
            refine Ops.nil ?_
            exact After.dn (Below.refl _ _) (by exact congrArg Value.bool (decide_eq_false (fun h => h h2)))
          · intro e1 w1 hb hp hun
            refine Ops.rung rfl rfl rfl ?_
            refine Ops.mv_int rfl rfl rfl ?_
            refine Ops.nil ?_
            exact After.dn (Below.refl _ _) (by exact rfl)
          · intro e1 w1 hb hp hun
            refine Ops.rung rfl rfl rfl ?_
            refine Ops.gtr rfl rfl rfl ?_
            refine Ops.nil ?_
            exact After.dn (Below.refl _ _) (by exact rfl)
          · intro e1 w1 hb hp hun
            refine Ops.rung rfl rfl rfl ?_
            refine Ops.mv_bool rfl rfl rfl ?_
            refine Ops.nil ?_
            exact After.dn (Below.refl _ _) (by exact congrArg Value.bool (decide_eq_true h3))
          · intro e1 w1 hb hp hun
            refine Ops.rung rfl rfl rfl ?_
            refine Ops.mv_sl rfl rfl rfl ?_
            refine Ops.nil ?_
            exact After.dn (Below.refl _ _) (by exact rfl)
          · intro e1 w1 hb hp hun
            refine Ops.rung rfl rfl rfl ?_
            refine Ops.mv_int rfl rfl rfl ?_
            refine Ops.nil ?_
            exact After.dn (Below.refl _ _) (by exact rfl)
          · intro e1 w1 hb hp hun
            refine Ops.rung rfl rfl rfl ?_
            refine Ops.idx (hR1.later hb).2 rfl rfl rfl (by omega) (by omega) ?_
            refine Ops.nil ?_
            exact After.dn (Below.refl _ _) (by exact rfl)
          · intro e1 w1 hb hp hun
            refine Ops.rung rfl rfl rfl ?_
            refine Ops.ld_int (hR1.later hb) rfl (by omega) rfl rfl ?_
            refine Ops.nil ?_
            exact After.dn (Below.refl _ _) (by exact rfl)
          · intro e1 w1 hb hp hun
            refine Ops.rung rfl rfl rfl ?_
            refine Ops.mv_sl rfl rfl rfl ?_
            refine Ops.nil ?_
            exact After.dn (Below.refl _ _) (by exact rfl)
          · intro e1 w1 hb hp hun
            refine Ops.rung rfl rfl rfl ?_
            refine Ops.mv_int rfl rfl rfl ?_
            refine Ops.nil ?_
            exact After.dn (Below.refl _ _) (by exact rfl)
          · intro e1 w1 hb hp hun
            refine Ops.rung rfl rfl rfl ?_
            refine Ops.sub rfl rfl rfl (by omega) ?_
            refine Ops.nil ?_
            exact After.dn (Below.refl _ _) (by exact rfl)
          · intro e1 w1 hb hp hun
            refine Ops.rung rfl rfl rfl ?_
            refine Ops.idx (hR1.later hb).2 rfl rfl rfl (by omega) (by omega) ?_
            refine Ops.nil ?_
            exact After.dn (Below.refl _ _) (by exact rfl)
          · intro e1 w1 hb hp hun
            refine Ops.rung rfl rfl rfl ?_
            refine Ops.ld_int (hR1.later hb) rfl (by omega) rfl rfl ?_
            refine Ops.nil ?_
            exact After.dn (Below.refl _ _) (by exact rfl)
          · intro e1 w1 hb hp hun
            refine Ops.rung rfl rfl rfl ?_
            refine Ops.leq rfl rfl rfl ?_
            refine Ops.nil ?_
            exact After.dn (Below.refl _ _) (by exact rfl)
          · intro e1 w1 hb hp hun
            refine Ops.rung rfl rfl rfl ?_
            refine Ops.pick_t rfl rfl rfl ?_
            refine Ops.nil ?_
            exact After.dn (Below.refl _ _) (by exact rfl)
          · intro e1 w1 hb hp hun
            refine Ops.pick_f rfl rfl rfl ?_
            refine Ops.nil ?_
            exact After.dn (Below.refl _ _) (by exact congrArg Value.bool (decide_eq_false h4))
          intro u w2 hb _
          refine thenQ_n ?_
          refine Cd.cond_f rfl ?_
          refine Cd.skip ?_
          refine blockQ_n ?_
          refine thenQ_n ?_
          refine Cd.region ?_
          refine Ops.mv_int rfl rfl rfl ?_
          refine Ops.add rfl rfl rfl (by omega) ?_
          refine Ops.mv_int rfl rfl rfl ?_
          refine Ops.nil ?_
          refine thenQ_n ?_
          exact ⟨k + 1, by show n - (k + 1) < n - k; omega, ⟨rfl, rfl, rfl, trivial⟩, hS.later hb, by omega, hnext h2 (.inr (by omega))⟩
      · refine Cd.draw [.ex (.slice (A) (n) (c)), .ex (.int .i64 ((k : Int))), .ex (.pointer (ptrAt (A) ((k : Int)).toNat)), .ex (.int .i64 (gi (xs) ((k : Int)))), .ex (.int .i64 (most)), .ex (.bool (decide (0 ≤ gi xs (k : Int) ∧ gi xs (k : Int) ≤ most))), .ex (.bool (decide (¬ (0 ≤ gi xs (k : Int) ∧ gi xs (k : Int) ≤ most)))), .ex (.bool (false)), .ex (.int .i64 ((k : Int))), .ex (.bool (decide (((0 : Int)) < ((k : Int))))), .ex (.bool (false)), .ex (undef), .ex (undef), .ex (undef), .ex (undef), .ex (undef), .ex (undef), .ex (undef), .ex (undef), .ex (undef), .ex (undef), .ex (.bool (false)), .ex (.bool (false))] (by kernel_rfl) (by kernel_rfl) rfl (List.forall_mem_cons.2 ⟨Yd.lasts_ex _, (List.forall_mem_cons.2 ⟨Yd.lasts_ex _, (List.forall_mem_cons.2 ⟨Yd.lasts_ex _, (List.forall_mem_cons.2 ⟨Yd.lasts_ex _, (List.forall_mem_cons.2 ⟨Yd.lasts_ex _, (List.forall_mem_cons.2 ⟨Yd.lasts_ex _, (List.forall_mem_cons.2 ⟨Yd.lasts_ex _, (List.forall_mem_cons.2 ⟨Yd.lasts_ex _, (List.forall_mem_cons.2 ⟨Yd.lasts_ex _, (List.forall_mem_cons.2 ⟨Yd.lasts_ex _, (List.forall_mem_cons.2 ⟨Yd.lasts_ex _, (List.forall_mem_cons.2 ⟨Yd.lasts_ex _, (List.forall_mem_cons.2 ⟨Yd.lasts_ex _, (List.forall_mem_cons.2 ⟨Yd.lasts_ex _, (List.forall_mem_cons.2 ⟨Yd.lasts_ex _, (List.forall_mem_cons.2 ⟨Yd.lasts_ex _, (List.forall_mem_cons.2 ⟨Yd.lasts_ex _, (List.forall_mem_cons.2 ⟨Yd.lasts_ex _, (List.forall_mem_cons.2 ⟨Yd.lasts_ex _, (List.forall_mem_cons.2 ⟨Yd.lasts_ex _, (List.forall_mem_cons.2 ⟨Yd.lasts_ex _, (List.forall_mem_cons.2 ⟨Yd.lasts_ex _, (List.forall_mem_cons.2 ⟨Yd.lasts_ex _, (fun _ h => by cases h)⟩)⟩)⟩)⟩)⟩)⟩)⟩)⟩)⟩)⟩)⟩)⟩)⟩)⟩)⟩)⟩)⟩)⟩)⟩)⟩)⟩)⟩)⟩) ⟨?_, ?_, ?_, ?_, ?_, ?_, ?_, ?_, ?_, ?_, ?_, ?_, ?_, ?_, ?_, ?_, ?_, ?_, ?_, ?_, ?_, ?_, ?_, trivial⟩ ?_
        · intro e1 w1 hb hp hun
          refine Ops.mv_sl rfl rfl rfl ?_
          refine Ops.nil ?_
          exact After.dn (Below.refl _ _) (by exact rfl)
        · intro e1 w1 hb hp hun
          refine Ops.mv_int rfl rfl rfl ?_
          refine Ops.nil ?_
          exact After.dn (Below.refl _ _) (by exact rfl)
        · intro e1 w1 hb hp hun
          refine Ops.idx (hR1.later hb).2 rfl rfl rfl (by omega) (by omega) ?_
          refine Ops.nil ?_
          exact After.dn (Below.refl _ _) (by exact rfl)
        · intro e1 w1 hb hp hun
          refine Ops.ld_int (hR1.later hb) rfl (by omega) rfl rfl ?_
          refine Ops.nil ?_
          exact After.dn (Below.refl _ _) (by exact rfl)
        · intro e1 w1 hb hp hun
          refine Ops.mv_int rfl rfl rfl ?_
          refine Ops.nil ?_
          exact After.dn (Below.refl _ _) (by exact rfl)
        · intro e1 w1 hb hp hun
          refine Ops.call (l01In_c _ _ _ _) rfl rfl rfl ?_
          rintro _ w2 ⟨rfl, hst⟩
          subst hst
          refine Ops.nil ?_
          exact After.dn (Below.refl _ _) (by exact rfl)
        · intro e1 w1 hb hp hun
          refine Ops.not_p rfl rfl ?_
          refine Ops.nil ?_
          exact After.dn (Below.refl _ _) (by exact rfl)
        · intro e1 w1 hb hp hun
          refine Ops.mv_bool rfl rfl rfl ?_
          refine Ops.nil ?_
          exact After.dn (Below.refl _ _) (by exact congrArg Value.bool (decide_eq_false (fun h => h h2)))
        · intro e1 w1 hb hp hun
          refine Ops.rung rfl rfl rfl ?_
          refine Ops.mv_int rfl rfl rfl ?_
          refine Ops.nil ?_
          exact After.dn (Below.refl _ _) (by exact rfl)
        · intro e1 w1 hb hp hun
          refine Ops.rung rfl rfl rfl ?_
          refine Ops.gtr rfl rfl rfl ?_
          refine Ops.nil ?_
          exact After.dn (Below.refl _ _) (by exact rfl)
        · intro e1 w1 hb hp hun
          refine Ops.rung rfl rfl rfl ?_
          refine Ops.mv_bool rfl rfl rfl ?_
          refine Ops.nil ?_
          exact After.dn (Below.refl _ _) (by exact congrArg Value.bool (decide_eq_false h3))
        · intro e1 w1 hb hp hun
          refine Ops.skipg rfl rfl rfl rfl rfl ?_
          refine Ops.nil ?_
          exact After.dn (Below.refl _ _) (by exact rfl)
        · intro e1 w1 hb hp hun
          refine Ops.skipg rfl rfl rfl rfl rfl ?_
          refine Ops.nil ?_
          exact After.dn (Below.refl _ _) (by exact rfl)
        · intro e1 w1 hb hp hun
          refine Ops.skipg rfl rfl rfl rfl rfl ?_
          refine Ops.nil ?_
          exact After.dn (Below.refl _ _) (by exact rfl)
        · intro e1 w1 hb hp hun
          refine Ops.skipg rfl rfl rfl rfl rfl ?_
          refine Ops.nil ?_
          exact After.dn (Below.refl _ _) (by exact rfl)
        · intro e1 w1 hb hp hun
          refine Ops.skipg rfl rfl rfl rfl rfl ?_
          refine Ops.nil ?_
          exact After.dn (Below.refl _ _) (by exact rfl)
        · intro e1 w1 hb hp hun
          refine Ops.skipg rfl rfl rfl rfl rfl ?_
          refine Ops.nil ?_
          exact After.dn (Below.refl _ _) (by exact rfl)
        · intro e1 w1 hb hp hun
          refine Ops.skipg rfl rfl rfl rfl rfl ?_
          refine Ops.nil ?_
          exact After.dn (Below.refl _ _) (by exact rfl)
        · intro e1 w1 hb hp hun
          refine Ops.skipg rfl rfl rfl rfl rfl ?_
          refine Ops.nil ?_
          exact After.dn (Below.refl _ _) (by exact rfl)
        · intro e1 w1 hb hp hun
          refine Ops.skipg rfl rfl rfl rfl rfl ?_
          refine Ops.nil ?_
          exact After.dn (Below.refl _ _) (by exact rfl)
        · intro e1 w1 hb hp hun
          refine Ops.skipg rfl rfl rfl rfl rfl ?_
          refine Ops.nil ?_
          exact After.dn (Below.refl _ _) (by exact rfl)
        · intro e1 w1 hb hp hun
          refine Ops.rung rfl rfl rfl ?_
          refine Ops.pick_f rfl rfl rfl ?_
          refine Ops.nil ?_
          exact After.dn (Below.refl _ _) (by exact rfl)
        · intro e1 w1 hb hp hun
          refine Ops.pick_f rfl rfl rfl ?_
          refine Ops.nil ?_
          exact After.dn (Below.refl _ _) (by exact rfl)
        intro u w2 hb _
        refine thenQ_n ?_
        refine Cd.cond_f rfl ?_
        refine Cd.skip ?_
        refine blockQ_n ?_
        refine thenQ_n ?_
        refine Cd.region ?_
        refine Ops.mv_int rfl rfl rfl ?_
        refine Ops.add rfl rfl rfl (by omega) ?_
        refine Ops.mv_int rfl rfl rfl ?_
        refine Ops.nil ?_
        refine thenQ_n ?_
        exact ⟨k + 1, by show n - (k + 1) < n - k; omega, ⟨rfl, rfl, rfl, trivial⟩, hS.later hb, by omega, hnext h2 (.inl (by omega))⟩
    · refine Cd.draw [.ex (.slice (A) (n) (c)), .ex (.int .i64 ((k : Int))), .ex (.pointer (ptrAt (A) ((k : Int)).toNat)), .ex (.int .i64 (gi (xs) ((k : Int)))), .ex (.int .i64 (most)), .ex (.bool (decide (0 ≤ gi xs (k : Int) ∧ gi xs (k : Int) ≤ most))), .ex (.bool (decide (¬ (0 ≤ gi xs (k : Int) ∧ gi xs (k : Int) ≤ most)))), .ex (.bool (true)), .ex (undef), .ex (undef), .ex (undef), .ex (undef), .ex (undef), .ex (undef), .ex (undef), .ex (undef), .ex (undef), .ex (undef), .ex (undef), .ex (undef), .ex (undef), .ex (undef), .ex (.bool (true))] (by kernel_rfl) (by kernel_rfl) rfl (List.forall_mem_cons.2 ⟨Yd.lasts_ex _, (List.forall_mem_cons.2 ⟨Yd.lasts_ex _, (List.forall_mem_cons.2 ⟨Yd.lasts_ex _, (List.forall_mem_cons.2 ⟨Yd.lasts_ex _, (List.forall_mem_cons.2 ⟨Yd.lasts_ex _, (List.forall_mem_cons.2 ⟨Yd.lasts_ex _, (List.forall_mem_cons.2 ⟨Yd.lasts_ex _, (List.forall_mem_cons.2 ⟨Yd.lasts_ex _, (List.forall_mem_cons.2 ⟨Yd.lasts_ex _, (List.forall_mem_cons.2 ⟨Yd.lasts_ex _, (List.forall_mem_cons.2 ⟨Yd.lasts_ex _, (List.forall_mem_cons.2 ⟨Yd.lasts_ex _, (List.forall_mem_cons.2 ⟨Yd.lasts_ex _, (List.forall_mem_cons.2 ⟨Yd.lasts_ex _, (List.forall_mem_cons.2 ⟨Yd.lasts_ex _, (List.forall_mem_cons.2 ⟨Yd.lasts_ex _, (List.forall_mem_cons.2 ⟨Yd.lasts_ex _, (List.forall_mem_cons.2 ⟨Yd.lasts_ex _, (List.forall_mem_cons.2 ⟨Yd.lasts_ex _, (List.forall_mem_cons.2 ⟨Yd.lasts_ex _, (List.forall_mem_cons.2 ⟨Yd.lasts_ex _, (List.forall_mem_cons.2 ⟨Yd.lasts_ex _, (List.forall_mem_cons.2 ⟨Yd.lasts_ex _, (fun _ h => by cases h)⟩)⟩)⟩)⟩)⟩)⟩)⟩)⟩)⟩)⟩)⟩)⟩)⟩)⟩)⟩)⟩)⟩)⟩)⟩)⟩)⟩)⟩)⟩) ⟨?_, ?_, ?_, ?_, ?_, ?_, ?_, ?_, ?_, ?_, ?_, ?_, ?_, ?_, ?_, ?_, ?_, ?_, ?_, ?_, ?_, ?_, ?_, trivial⟩ ?_
      · intro e1 w1 hb hp hun
        refine Ops.mv_sl rfl rfl rfl ?_
        refine Ops.nil ?_
        exact After.dn (Below.refl _ _) (by exact rfl)
      · intro e1 w1 hb hp hun
        refine Ops.mv_int rfl rfl rfl ?_
        refine Ops.nil ?_
        exact After.dn (Below.refl _ _) (by exact rfl)
      · intro e1 w1 hb hp hun
        refine Ops.idx (hR1.later hb).2 rfl rfl rfl (by omega) (by omega) ?_
        refine Ops.nil ?_
        exact After.dn (Below.refl _ _) (by exact rfl)
      · intro e1 w1 hb hp hun
        refine Ops.ld_int (hR1.later hb) rfl (by omega) rfl rfl ?_
        refine Ops.nil ?_
        exact After.dn (Below.refl _ _) (by exact rfl)
      · intro e1 w1 hb hp hun
        refine Ops.mv_int rfl rfl rfl ?_
        refine Ops.nil ?_
        exact After.dn (Below.refl _ _) (by exact rfl)
      · intro e1 w1 hb hp hun
        refine Ops.call (l01In_c _ _ _ _) rfl rfl rfl ?_
        rintro _ w2 ⟨rfl, hst⟩
        subst hst
        refine Ops.nil ?_
        exact After.dn (Below.refl _ _) (by exact rfl)
      · intro e1 w1 hb hp hun
        refine Ops.not_p rfl rfl ?_
        refine Ops.nil ?_
        exact After.dn (Below.refl _ _) (by exact rfl)
      · intro e1 w1 hb hp hun
        refine Ops.mv_bool rfl rfl rfl ?_
        refine Ops.nil ?_
        exact After.dn (Below.refl _ _) (by exact congrArg Value.bool (decide_eq_true h2))
      · intro e1 w1 hb hp hun
        refine Ops.skipg rfl rfl rfl rfl rfl ?_
        refine Ops.nil ?_
        exact After.dn (Below.refl _ _) (by exact rfl)
      · intro e1 w1 hb hp hun
        refine Ops.skipg rfl rfl rfl rfl rfl ?_
        refine Ops.nil ?_
        exact After.dn (Below.refl _ _) (by exact rfl)
      · intro e1 w1 hb hp hun
        refine Ops.skipg rfl rfl rfl rfl rfl ?_
        refine Ops.nil ?_
        exact After.dn (Below.refl _ _) (by exact rfl)
      · intro e1 w1 hb hp hun
        refine Ops.skipu rfl rfl rfl rfl ?_
        refine Ops.nil ?_
        exact After.dn (Below.refl _ _) (by exact rfl)
      · intro e1 w1 hb hp hun
        refine Ops.skipu rfl rfl rfl rfl ?_
        refine Ops.nil ?_
        exact After.dn (Below.refl _ _) (by exact rfl)
      · intro e1 w1 hb hp hun
        refine Ops.skipu rfl rfl rfl rfl ?_
        refine Ops.nil ?_
        exact After.dn (Below.refl _ _) (by exact rfl)
      · intro e1 w1 hb hp hun
        refine Ops.skipu rfl rfl rfl rfl ?_
        refine Ops.nil ?_
        exact After.dn (Below.refl _ _) (by exact rfl)
      · intro e1 w1 hb hp hun
        refine Ops.skipu rfl rfl rfl rfl ?_
        refine Ops.nil ?_
        exact After.dn (Below.refl _ _) (by exact rfl)
      · intro e1 w1 hb hp hun
        refine Ops.skipu rfl rfl rfl rfl ?_
        refine Ops.nil ?_
        exact After.dn (Below.refl _ _) (by exact rfl)
      · intro e1 w1 hb hp hun
        refine Ops.skipu rfl rfl rfl rfl ?_
        refine Ops.nil ?_
        exact After.dn (Below.refl _ _) (by exact rfl)
      · intro e1 w1 hb hp hun
        refine Ops.skipu rfl rfl rfl rfl ?_
        refine Ops.nil ?_
        exact After.dn (Below.refl _ _) (by exact rfl)
      · intro e1 w1 hb hp hun
        refine Ops.skipu rfl rfl rfl rfl ?_
        refine Ops.nil ?_
        exact After.dn (Below.refl _ _) (by exact rfl)
      · intro e1 w1 hb hp hun
        refine Ops.skipu rfl rfl rfl rfl ?_
        refine Ops.nil ?_
        exact After.dn (Below.refl _ _) (by exact rfl)
      · intro e1 w1 hb hp hun
        refine Ops.skipg rfl rfl rfl rfl rfl ?_
        refine Ops.nil ?_
        exact After.dn (Below.refl _ _) (by exact rfl)
      · intro e1 w1 hb hp hun
        refine Ops.pick_t rfl rfl rfl ?_
        refine Ops.nil ?_
        exact After.dn (Below.refl _ _) (by exact rfl)
      intro u w2 hb _
      refine thenQ_n ?_
      refine Cd.cond_t rfl ?_
      refine Cd.seq ?_
      refine Cd.region ?_
      refine Ops.mv_bool rfl rfl rfl ?_
      refine Ops.nil ?_
      refine thenQ_n ?_
      refine Cd.ret ?_
      refine blockQ_r ?_
      refine thenQ_r ?_
      refine thenQ_r ?_
      refine blockQ_r ?_
      refine thenQ_r ?_
      refine ret1_b rfl ?_
      exact ⟨by rw [decide_eq_false (fun h : Rise most xs => h2 (h.2 _ hin))], hS.later hb⟩
  · refine Cd.exit ?_
    refine thenQ_x ?_
    refine thenQ_x ?_
    refine blockQ_x ?_
    refine thenQ_n ?_
    refine Cd.seq ?_
    refine Cd.region ?_
    refine Ops.mv_bool rfl rfl rfl ?_
    refine Ops.nil ?_
    refine thenQ_n ?_
    refine Cd.ret ?_
    refine ret1_b rfl ?_
    rw [List.take_of_length_le (by omega)] at hP
    exact ⟨by rw [decide_eq_true hP], hS⟩
end Go.Proofs.YtdedegbendjmbaaGreatDoor.Vc
