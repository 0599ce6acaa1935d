/-
  The texts Key, Gi1, E9, Gi2, Open, Opm in one. Conditions: as each part states them.
-/
import Derived.Test.YtgobjpcankaicaaGreatDoorInst
import Derived.Test.YtgobjpcankaicaaGreatDoorZg
import Derived.Test.YtgobjpcankaicaaGreatDoorZb
import Derived.Lib.ItoaLen
import Derived.Test.YtgobjpcankaicaaGreatDoorLayd
import Derived.Shelf.Strconv.AppendIntPublic10
import Derived.Test.YtgobjpcankaicaaGreatDoorZd
import Derived.Test.YtgobjpcankaicaaGreatDoorZa
import Derived.Deep.Matrix
import Derived.Carry
import Derived.Below
import Derived.ChangeSame
import Derived.ProofKit
import Derived.OpenShut
import Derived.Handed
import Derived.Lib.SmallJoins
/-
  The text of a list of numbers, which is alike for equal lists alone. Conditions: the library's table of powers of ten holds what the program's text lays there.
-/
namespace Go.Proofs.YtgobjpcankaicaaGreatDoor.Vc
open Go.RowKit

/-! the text, plainly -/
def keyL (xs : List Int) : List UInt8 := xs.flatMap fun x => Lib.itoa x ++ [32]
def keyB (xs : List Int) : ByteArray := ⟨(keyL xs).toArray⟩
def valD (l : List UInt8) : Nat := l.foldl (fun a b => 10 * a + (b.toNat - 48)) 0
theorem u8_digit {d : Nat} (h : d < 10) : (UInt8.ofNat (48 + d)).toNat = 48 + d := by
  rw [UInt8.toNat_ofNat']
  omega
theorem dec_val : ∀ u : Nat, valD (Lib.decDigits u) = u ∧ ∀ b ∈ Lib.decDigits u, 48 ≤ b.toNat ∧ b.toNat ≤ 57 := by
  intro u
  induction u using Nat.strongRecOn with
  | ind u ih =>
    rw [Lib.decDigits]
    split
    · rename_i h
      refine ⟨?_, fun b hb => ?_⟩
      · simp only [valD, List.foldl_cons, List.foldl_nil, u8_digit h]; omega
      · simp only [List.mem_singleton] at hb
        subst hb
        rw [u8_digit h]; omega
    · rename_i h
      obtain ⟨h1, h2⟩ := ih (u / 10) (by omega)
      refine ⟨?_, fun b hb => ?_⟩
      · unfold valD at h1 ⊢
        rw [List.foldl_append, h1]
        simp only [List.foldl_cons, List.foldl_nil, u8_digit (show u % 10 < 10 by omega)]
        omega
      · rcases List.mem_append.1 hb with hb | hb
        · exact h2 b hb
        · simp only [List.mem_singleton] at hb
          subst hb
          rw [u8_digit (by omega)]; omega
theorem dec_inj {u v : Nat} (h : Lib.decDigits u = Lib.decDigits v) : u = v := by rw [← (dec_val u).1, h, (dec_val v).1]
theorem dec_ne (u : Nat) : Lib.decDigits u ≠ [] := by
  rw [Lib.decDigits]
  split <;> simp
theorem itoa_bytes {x : Int} : ∀ b ∈ Lib.itoa x, b ≠ 32 := by
  intro b hb e
  subst e
  unfold Lib.itoa at hb
  split at hb
  · rcases List.mem_cons.1 hb with h | h
    · exact absurd h (by decide)
    · have := (dec_val _).2 _ h
      exact absurd this (by decide)
  · have := (dec_val _).2 _ hb
    exact absurd this (by decide)
theorem itoa_inj {x y : Int} (h : Lib.itoa x = Lib.itoa y) : x = y := by
  have no45 : ∀ (u v : Nat), 45 :: Lib.decDigits u ≠ Lib.decDigits v := fun u v e => by
    have := (dec_val v).2 45 (by rw [← e]; simp)
    exact absurd this (by decide)
  unfold Lib.itoa at h
  split at h <;> split at h
  · simp only [List.cons.injEq, true_and] at h
    have := dec_inj h
    omega
  · exact absurd h (no45 _ _)
  · exact absurd h.symm (no45 _ _)
  · have := dec_inj h
    omega
theorem split_at : ∀ {a b r s : List UInt8}, (∀ x ∈ a, x ≠ 32) → (∀ x ∈ b, x ≠ 32) → a ++ 32 :: r = b ++ 32 :: s → a = b ∧ r = s
  | [], [], _, _, _, _, h => by simpa using h
  | [], y :: b, _, _, _, hb, h => by
    simp only [List.nil_append, List.cons_append, List.cons.injEq] at h
    exact absurd h.1.symm (hb y (by simp))
  | x :: a, [], _, _, ha, _, h => by
    simp only [List.nil_append, List.cons_append, List.cons.injEq] at h
    exact absurd h.1 (ha x (by simp))
  | x :: a, y :: b, _, _, ha, hb, h => by
    simp only [List.cons_append, List.cons.injEq] at h
    obtain ⟨h1, h2⟩ := split_at (fun z hz => ha z (by simp [hz])) (fun z hz => hb z (by simp [hz])) h.2
    exact ⟨by rw [h.1, h1], h2⟩
theorem keyL_cons (x : Int) (xs : List Int) : keyL (x :: xs) = Lib.itoa x ++ 32 :: keyL xs := by simp [keyL]
theorem keyL_snoc (xs : List Int) (x : Int) : keyL (xs ++ [x]) = (keyL xs ++ Lib.itoa x) ++ [32] := by simp [keyL]
theorem keyL_inj : ∀ {xs ys : List Int}, keyL xs = keyL ys → xs = ys
  | [], [], _ => rfl
  | [], y :: ys, h => by rw [keyL_cons] at h; simp [keyL] at h
  | x :: xs, [], h => by rw [keyL_cons] at h; simp [keyL] at h
  | x :: xs, y :: ys, h => by
    rw [keyL_cons, keyL_cons] at h
    obtain ⟨h1, h2⟩ := split_at itoa_bytes itoa_bytes h
    rw [itoa_inj h1, keyL_inj h2]
theorem keyB_inj {xs ys : List Int} (h : keyB xs = keyB ys) : xs = ys := by
  have h1 : (keyL xs).toArray = (keyL ys).toArray := congrArg ByteArray.data h
  exact keyL_inj (by simpa using h1)
theorem fold_push : ∀ (l : List UInt8) (s : ByteArray), (l.map fun b => ((b.toNat : Nat) : Int)).foldl (fun r n => r.push (UInt8.ofNat n.toNat)) s = ⟨s.data ++ l.toArray⟩
  | [], s => by simp
  | b :: l, s => by
    simp only [List.map_cons, List.foldl_cons]
    rw [fold_push l]
    have e : UInt8.ofNat ((b.toNat : Nat) : Int).toNat = b := by simp
    rw [e]
    have e2 : (s.push b).data = s.data.push b := rfl
    rw [e2]
    congr 1
    apply Array.ext'
    simp

/-! the library's table -/
def Tab (w : World) : Prop := Lib.TabIs Tryz.prog w "internal/strconv.uint64pow10" .u64 Lib.pow10Tab
theorem Tab.later {w w' : World} (h : Tab w) (hb : Below w.heap.size w w') : Tab w' := Lib.tabBelow_of_tabIs h w' hb.toBelow

/-- a row of bytes of the call's own -/
def OwB (B : Nat) (w : World) (A : Option Addr) (m c : Nat) (l : List UInt8) : Prop := w.ownsRow B 5 1 (.slice A m c) m (Lib.byteCells l)
theorem owns_slice {B m : Nat} {w : World} {v : Value} {xs : List Value} (h : w.ownsRow B 5 1 v m xs) : ∃ A c, v = .slice A m c := by
  rcases h.2 with ⟨rfl, rfl⟩ | ⟨g, cap, cur, rfl, _⟩
  · exact ⟨_, _, rfl⟩
  · exact ⟨_, _, rfl⟩
theorem OwB.later {B : Nat} {w w' : World} {A : Option Addr} {m c : Nat} {l : List UInt8} (h : OwB B w A m c l) (hb : Below w.heap.size w w') : OwB B w' A m c l := by
  refine ⟨h.1, ?_⟩
  rcases h.2 with h1 | ⟨g, cap, cur, h1, h2, h3, r⟩
  · exact .inl h1
  · exact .inr ⟨g, cap, cur, h1, h2, by rw [hb.block g (Array.getElem?_eq_some_iff.1 h3).1]; exact h3, r⟩
section
variable {N : Nat} {ops : Array Oper} {K : Env → World → Prop} {rest : List Oper} {e : Env} {w0 w w' : World} {ks : List Ck} {d : Nat} {ty : TypeId} {pos : String} {af : Array Edge}
/-- one byte more -/
theorem Ops.appW {B m c : Nat} {A : Option Addr} {l : List UInt8} {A1 : Option Addr} {b : UInt8} {x y : Operand} (hO : OwB B w A m c l) (hB : B ≤ w.heap.size) (hR : Rd w A1 1 (fun _ => .int .u8 (b.toNat : Nat))) (hx : ev e x = .slice A m c) (hy : ev e y = .slice A1 1 1) (hm : m ≤ 1000000000) (hb : Nat.blt d N = true)
    (hK : ∀ A2 c2 w', Go.RowKit.Below B w w' → OwB B w' A2 (m + 1) c2 (l ++ [b]) → Ops Tryz.prog N ops K rest (upd e d (.slice A2 (m + 1) c2)) w') :
    Ops Tryz.prog N ops K (⟨some d, .call ⟨.builtin .append, #[x, y], #[66, 66]⟩, ty, pos, af, none⟩ :: rest) e w := by
  obtain ⟨inf, hi, hz0, hs, hby⟩ := Inf.get Tryz.prog 5
  obtain ⟨p, hp, hc⟩ := hR 0 (by omega)
  obtain ⟨a, rfl⟩ : ∃ a, A1 = some a := by cases A1 with | none => simp [ptrAt] at hp | some q => exact ⟨q, rfl⟩
  simp only [ptrAt, Option.map_some, Option.some.injEq] at hp
  obtain ⟨v', w', hr, hO', hg, _⟩ := run_append_own (P := Tryz.prog) (w := w) B 66 ty 5 inf (.int .u8 0) 1 1 Tryz.underlying66 hi hz0 hs hby rfl (by decide) (.slice A m c) m (Lib.byteCells l) hO a 1 1 [.int .u8 (b.toNat : Nat)] rfl
    (fun j u hj => by
      match j, hj with
      | 0, hj => simp at hj; subst hj; rw [hp]; exact hc) (fun u hu => by simp at hu; subst hu; rfl) (by simp only [maxLen]; omega) (by omega) hB
  obtain ⟨A2, c2, rfl⟩ := owns_slice hO'
  refine .val (w' := w') ?_ hb (hK A2 c2 w' ?_ ?_)
  · simp [execOp, resolve, invoke, builtin, hx, hy, hr]
  · exact (Go.RowKit.Below.refl B w).grown hg hB (fun k hk => (hO.lt k hk).1)
  · show w'.ownsRow B 5 1 (.slice A2 (m + 1) c2) (m + 1) (Lib.byteCells (l ++ [b]))
    rw [show Lib.byteCells (l ++ [b]) = Lib.byteCells l ++ [.int .u8 (b.toNat : Nat)] by simp [Lib.byteCells]]
    exact hO'
/-- bytes as a text -/
theorem Ops.convS {B m c : Nat} {A : Option Addr} {l : List UInt8} {x : Operand} (hO : OwB B w A m c l) (hx : ev e x = .slice A m c) (hb : Nat.blt d N = true) (hK : Ops Tryz.prog N ops K rest (upd e d (.string ⟨l.toArray⟩)) w) :
    Ops Tryz.prog N ops K (⟨some d, .convert 66 9 x, ty, pos, af, none⟩ :: rest) e w := by
  have hr : (Conv.bytesToString (.slice A m c)).run Tryz.prog w = .ok (.string ⟨l.toArray⟩) w := by
    have hl : (Lib.byteCells l).length = m * 1 := hO.1
    rcases hO.2 with ⟨h1, h2⟩ | ⟨g, cap, cur, h1, _⟩
    · simp only [Value.slice.injEq] at h1
      obtain ⟨rfl, rfl, rfl⟩ := h1
      have : l = [] := List.eq_nil_of_length_eq_zero (by rw [Lib.byteCells_length] at hl; omega)
      subst this
      rfl
    · simp only [Value.slice.injEq] at h1
      obtain ⟨rfl, _, rfl⟩ := h1
      have h2 := hO.cells (g := g) rfl
      have h3 := run_loadCells_list (P := Tryz.prog) (w := w) (⟨g, 0, none⟩ : Addr) (Lib.byteCells l) h2
      rw [hl, Nat.mul_one] at h3
      have e1 : Lib.byteCells l = (l.map fun b => ((b.toNat : Nat) : Int)).map (Value.int .u8) := by simp [Lib.byteCells]
      rw [e1] at h3
      rw [run_bytesToString w _ m c _ h3, fold_push]
      simp
  refine .val (w' := w) ?_ hb hK
  simp [execOp, hx, convert, run_underlying Tryz.underlying66, run_underlying Tryz.underlying9, run_underlying Tryz.underlying5, hr]
end
theorem AppendInt_c {B m c : Nat} {A : Option Addr} {l : List UInt8} (x : Int) (w : World) (hx : -9223372036854775808 ≤ x ∧ x ≤ 9223372036854775807) (hO : OwB B w A m c l) (hB : B ≤ w.heap.size) (hm : m ≤ 1000000000) (hT : Lib.TabBelow Tryz.prog B w "internal/strconv.uint64pow10" .u64 Lib.pow10Tab) :
    Ret Tryz.prog 54 [.slice A m c, .int .i64 x, .int .i64 10] w (fun v w' => ∃ A' c', v = .slice A' (m + (Lib.itoa x).length) c' ∧ OwB B w' A' (m + (Lib.itoa x).length) c' (l ++ Lib.itoa x) ∧ Go.RowKit.Below B w w') := by
  have key := Any.strconv_AppendInt_10 lai B m x hx.1 hx.2 (.slice A m c) (Lib.byteCells l) w hO hB (by omega) hT
  refine Calls.mono key fun y w' ⟨v', hy, hO', hb, _⟩ => ⟨_, hy, ?_⟩
  obtain ⟨A2, c2, rfl⟩ := owns_slice hO'
  refine ⟨A2, c2, rfl, ?_, hb⟩
  show w'.ownsRow B 5 1 (.slice A2 _ c2) _ (Lib.byteCells (l ++ Lib.itoa x))
  rw [Lib.byteCells_append]
  exact hO'
theorem itoa_len (x : Int) (hx : -9223372036854775808 ≤ x ∧ x ≤ 9223372036854775807) : (Lib.itoa x).length ≤ 21 := Lib.itoa_length_le x hx.1 hx.2
theorem keyL_len : ∀ (xs : List Int), (∀ x ∈ xs, -9223372036854775808 ≤ x ∧ x ≤ 9223372036854775807) → (keyL xs).length ≤ 22 * xs.length
  | [], _ => by simp [keyL]
  | x :: xs, h => by
    have h1 := itoa_len x (h x (by simp))
    have h2 := keyL_len xs fun y hy => h y (by simp [hy])
    rw [keyL_cons]
    simp only [List.length_append, List.length_cons]
    omega

theorem keyOf_c (A : Option Addr) (n c : Nat) (xs : List Int) (w : World) (hT : Tab w) (hR : RdI w A n xs) (hx : ∀ x ∈ xs, -9223372036854775808 ≤ x ∧ x ≤ 9223372036854775807) (hn : n ≤ 1000000) :
    Ret Tryz.prog 34 [.slice A n c] w (fun v w' => v = .string (keyB xs) ∧ St w w' []) := by
  have hxl := hR.1
  refine Ret.of_cd Tryz.func34 rfl Tryz.ntmps34 rfl (post1 rfl) ?_
  refine Cd.seq ?_
  refine Cd.region ?_
  refine Ops.mv_str rfl rfl rfl ?_
  refine Ops.nil ?_
  refine thenQ_n ?_
  refine Cd.seq ?_
  refine Cd.region ?_
  refine Ops.mv_sl rfl rfl rfl ?_
  refine Ops.nil ?_
  refine thenQ_n ?_
  refine Cd.seq ?_
  refine Cd.seq ?_
  refine Cd.region ?_
  refine Ops.mv_sl rfl rfl rfl ?_
  refine Ops.len rfl rfl ?_
  refine Ops.mv_int rfl rfl rfl ?_
  refine Ops.nil ?_
  refine thenQ_n ?_
  refine Cd.block ?_
  -- stop: loop
  refine Cd.loop (α := Nat × Option Addr × Nat) (fun s => [(3, .slice s.2.1 (keyL (xs.take s.1)).length s.2.2), (6, .slice A n c), (7, .int .i64 (n : Int)), (8, .int .i64 (s.1 : Int))]) (fun s w' => OwB w.heap.size w' s.2.1 (keyL (xs.take s.1)).length s.2.2 (keyL (xs.take s.1)) ∧ Go.RowKit.Below w.heap.size w w' ∧ s.1 ≤ n) (fun s => n - s.1) (0, none, 0) ⟨rfl, rfl, rfl, rfl, trivial⟩ ⟨World.ownsRow_nil w _ _ _, Go.RowKit.Below.refl _ _, Nat.zero_le _⟩ ?_
  rintro ⟨i, A3, c3⟩ e w1 ⟨hO, hb1, hi⟩
  dsimp only at hO hb1 hi ⊢
  refine Cd.seq ?_
  refine Cd.region ?_
  refine Ops.lss rfl rfl rfl ?_
  refine Ops.nil ?_
  refine thenQ_n ?_
  refine Cd.seq ?_
  -- stop: cond
  refine Cd.cond_p _ rfl (fun h1 => ?_) (fun h1 => ?_)
  · have hi' : i < xs.length := by omega
    have hR1 : RdI w1 A n xs := hR.later ⟨hb1, fun s => s.elim⟩
    have hT1 : Lib.TabBelow Tryz.prog w.heap.size w1 "internal/strconv.uint64pow10" .u64 Lib.pow10Tab := (Lib.tabBelow_of_tabIs hT).on hb1
    have hxi := hx _ (gi_in hi')
    have hll := keyL_len (xs.take i) fun x hm => hx x (List.mem_of_mem_take hm)
    have hil := itoa_len _ hxi
    rw [List.length_take] at hll
    have hsz := hb1.size
    have htk : keyL (xs.take (i + 1)) = (keyL (xs.take i) ++ Lib.itoa (gi xs (i : Int))) ++ [32] := by rw [take_succ_gi hi', keyL_snoc]
    refine Cd.skip ?_
    refine thenQ_n ?_
    refine Cd.seq ?_
    refine Cd.block ?_
    refine Cd.seq ?_
    refine Cd.region ?_
    -- stop: INDEXADDR 35 t6 t8 -> 10
    refine Ops.idx hR1.2 rfl rfl rfl (by omega) (by omega) ?_
    refine Ops.ld_int hR1 rfl (by omega) rfl rfl ?_
    refine Ops.mv_int rfl rfl rfl ?_
    refine Ops.nil ?_
    refine thenQ_n ?_
    refine Cd.seq ?_
    refine Cd.region ?_
    refine Ops.mv_sl rfl rfl rfl ?_
    refine Ops.mv_int rfl rfl rfl ?_
    -- stop: CALL strconv.AppendInt(t12, t13, 10) -> 14
    refine Ops.call (AppendInt_c (gi xs (i : Int)) _ hxi hO hsz (by omega) hT1) rfl rfl rfl ?_
    rintro _ w2 ⟨A4, c4, rfl, hO2, hb2⟩
    have hsz2 := hb2.size
    refine Ops.mv_sl rfl rfl rfl ?_
    refine Ops.nil ?_
    refine thenQ_n ?_
    refine Cd.region ?_
    refine Ops.mv_sl rfl rfl rfl ?_
    -- stop: BUILDSLICE 66 1 [('pair', [0, ('app', 'Go.Operand.const', [('app', 'Go.Value.int', ['Go.IntKind.u8', 32])])])] -> 16
    refine Ops.bs1 (St.refl w2) rfl rfl rfl rfl ?_
    intro A5 w3 hS3
    have hO3 := hO2.later hS3.below
    have hb3 : Go.RowKit.Below w.heap.size w2 w3 := hS3.below.toBelow.mono (by omega)
    have hsz3 := hb3.size
    refine Ops.appW (b := 32) hO3 (by omega) (hS3.rd 0 rfl |>.congr fun j hj => by obtain rfl : j = 0 := by { have : j < 1 := hj; omega }; rfl) rfl rfl (by omega) rfl ?_
    intro A6 c6 w4 hb4 hO4
    refine Ops.mv_sl rfl rfl rfl ?_
    refine Ops.nil ?_
    refine blockQ_n ?_
    refine thenQ_n ?_
    refine Cd.region ?_
    refine Ops.add rfl rfl rfl (by omega) ?_
    refine Ops.mv_int rfl rfl rfl ?_
    refine Ops.nil ?_
    refine thenQ_n ?_
    -- stop: round
    refine ⟨(i + 1, A6, c6), by show n - (i + 1) < n - i; omega, ⟨?_, rfl, rfl, rfl, trivial⟩, ?_, ((hb1.trans hb2).trans hb3).trans hb4, by show i + 1 ≤ n; omega⟩
    · show Value.slice _ _ _ = .slice _ _ _
      rw [htk]
      simp [Nat.add_assoc]
    · show OwB _ w4 A6 (keyL (xs.take (i + 1))).length c6 (keyL (xs.take (i + 1)))
      rw [htk]
      have e1 : ((keyL (xs.take i) ++ Lib.itoa (gi xs (i : Int))) ++ [32]).length = (keyL (xs.take i)).length + (Lib.itoa (gi xs (i : Int))).length + 1 := by simp; omega
      rw [e1]
      exact hO4
  · have hin : i = xs.length := by omega
    subst hin
    rw [List.take_length] at hO
    refine Cd.exit ?_
    refine thenQ_x ?_
    refine thenQ_x ?_
    refine blockQ_x ?_
    refine thenQ_n ?_
    refine Cd.seq ?_
    refine Cd.region ?_
    refine Ops.mv_sl rfl rfl rfl ?_
    -- stop: CONVERT 66 9 t19 -> 20
    refine Ops.convS hO (by show Value.slice _ _ _ = .slice _ _ _; rw [List.take_length]) rfl ?_
    refine Ops.mv_str rfl rfl rfl ?_
    refine Ops.nil ?_
    refine thenQ_n ?_
    refine Cd.ret ?_
    refine ret1_v rfl ?_
    -- stop: end
    exact ⟨rfl, ⟨⟨hb1, fun s => s.elim⟩, fun k hk => (by cases hk), List.nodup_nil⟩⟩
end Go.Proofs.YtgobjpcankaicaaGreatDoor.Vc
/-
  The girth on both sides. Conditions: the library's table of powers of ten holds what the program's text lays there.
-/
namespace Go.Proofs.YtgobjpcankaicaaGreatDoor.Vc
open Go.RowKit

/-- rows that can be read, wherever they are named -/
structure RowsW (w : World) (n : Nat) (rs : List SlV) (xss : List (List Int)) : Prop where
  rl : rs.length = n
  len : xss.length = n
  row : ∀ i, i < n → RdI w (rs.getD i slNil).a (rs.getD i slNil).n (xss.getD i [])
  cap : ∀ i, i < n → (rs.getD i slNil).n ≤ (rs.getD i slNil).c ∧ (rs.getD i slNil).c ≤ maxLen
theorem RowsI.W {w : World} {A : Option Addr} {n : Nat} {rs : List SlV} {xss : List (List Int)} (h : RowsI w A n rs xss) : RowsW w n rs xss := ⟨h.top.1, h.len, h.row, h.cap⟩
theorem RowsW.I {w : World} {A : Option Addr} {n : Nat} {rs : List SlV} {xss : List (List Int)} (h : RowsW w n rs xss) (ht : RdR w A n rs) : RowsI w A n rs xss := ⟨ht, h.len, h.row, h.cap⟩
theorem RowsW.put {w : World} {n : Nat} {rs : List SlV} {xss : List (List Int)} (h : RowsW w n rs xss) (i : Nat) {s : SlV} {ys : List Int} (hs : RdI w s.a s.n ys) (hc : s.n ≤ s.c ∧ s.c ≤ maxLen) : RowsW w n (rs.set i s) (xss.set i ys) := by
  have hrl := h.rl
  have hxl := h.len
  have get : ∀ j, j < n → (rs.set i s).getD j slNil = (if i = j then s else rs.getD j slNil) ∧ (xss.set i ys).getD j [] = if i = j then ys else xss.getD j [] := fun j hj => by
    simp only [List.getD_eq_getElem?_getD, List.getElem?_set]
    by_cases e : i = j
    · subst e
      have h1 : i < rs.length := by omega
      have h2 : i < xss.length := by omega
      simp [h1, h2]
    · simp [e]
  refine ⟨by rw [List.length_set]; exact hrl, by rw [List.length_set]; exact hxl, fun j hj => ?_, fun j hj => ?_⟩
  · rw [(get j hj).1, (get j hj).2]
    by_cases e : i = j
    · rw [if_pos e, if_pos e]; exact hs
    · rw [if_neg e, if_neg e]; exact h.row j hj
  · rw [(get j hj).1]
    by_cases e : i = j
    · rw [if_pos e]; exact hc
    · rw [if_neg e]; exact h.cap j hj
theorem RowsW.later {w w' : World} {n : Nat} {rs : List SlV} {xss : List (List Int)} (h : RowsW w n rs xss) (hb : Below w.heap.size w w') : RowsW w' n rs xss := ⟨h.rl, h.len, fun i hi => (h.row i hi).later hb, h.cap⟩
theorem St.rowsW {w0 w : World} {pre post : List Ck} {t2 : TypeId} {n : Nat} {rs : List SlV} {xss : List (List Int)} (h : St w0 w (pre ++ (rowsCk t2 rs xss ++ post))) (hr : rs.length = n) (hl : xss.length = n) : RowsW w n rs xss := by
  have get : ∀ i, i < n → (pre ++ (rowsCk t2 rs xss ++ post))[pre.length + i]? = some (CkI t2 (rs.getD i slNil).a (rs.getD i slNil).n (rs.getD i slNil).c (xss.getD i [])) := by
    intro i hi
    rw [List.getElem?_append_right (by omega), Nat.add_sub_cancel_left, List.getElem?_append_left (by rw [rowsCk_length (by omega)]; omega)]
    exact rowsCk_get (by omega) (by omega)
  exact ⟨hr, hl, fun i hi => h.rdI _ (get i hi), fun i hi => h.cap _ (get i hi)⟩

/-! what has been seen -/
def seenA (ls : List (List Int)) : List (ByteArray × Bool) := ls.foldl (fun L l => putA L (keyB l) true) []
theorem seenA_snoc (ls : List (List Int)) (l : List Int) : seenA (ls ++ [l]) = putA (seenA ls) (keyB l) true := by simp [seenA, List.foldl_append]
theorem seenA_get (ls : List (List Int)) (l : List Int) : (getA (seenA ls) (keyB l)).getD false = decide (l ∈ ls) := by
  have key : ∀ r : List (List Int), (getA (seenA r.reverse) (keyB l)).getD false = decide (l ∈ r.reverse) := fun r => by
    induction r with
    | nil => rfl
    | cons x r ih =>
      rw [List.reverse_cons, seenA_snoc, getA_put]
      by_cases e : x = l
      · subst e
        rw [if_pos rfl]; simp
      · rw [if_neg (fun h => e (keyB_inj h)), ih]
        have : l ≠ x := fun h => e h.symm
        simp [this]
  have := key ls.reverse
  rwa [List.reverse_reverse] at this
instance (l : List (List Int)) : Decidable l.Nodup := by unfold List.Nodup; infer_instance
theorem nodup_take {En : List (List Int)} {k : Nat} (hk : k < En.length) : (En.take (k + 1)).Nodup ↔ (En.take k).Nodup ∧ gl En (k : Int) ∉ En.take k := by
  have e : gl En (k : Int) = En[k] := by simp [gl, List.getD_eq_getElem?_getD, hk]
  rw [List.take_succ_eq_append_getElem hk, e, List.nodup_append]
  simp only [List.mem_singleton, forall_eq]
  constructor
  · rintro ⟨a, _, b⟩
    exact ⟨a, fun h => b _ h rfl⟩
  · rintro ⟨a, b⟩
    exact ⟨a, by simp, fun x hx e => b (e ▸ hx)⟩

theorem girthOf_c (A : Option Addr) (m c : Nat) (rs : List SlV) (xss : List (List Int)) (A' : Option Addr) (c' : Nat) (rs' : List SlV) (w : World) (hT : Tab w) (hG : Grph xss) (hE : RowsI w A (edgesN xss) rs (endsL xss)) (hN : RowsI w A' (vertsN xss) rs' (nbL xss)) (hm : m = edgesN xss) :
    Ret Tryz.prog 19 [.slice A m c, .slice A' (vertsN xss) c'] w (fun v w' => v = .int .i64 (girN xss) ∧ St w w' []) := by
  subst hm
  have hM := hG.1
  have hg := nb_gr hM
  have hsm := nb_small hM
  have hel := endsL_len xss
  have hep := ends_pos hM
  have hmem : ∀ e : Nat, ∀ x ∈ gl (endsL xss) (e : Int), 0 ≤ x ∧ x < (vertsN xss : Int) := fun e => endsL_mem hM e (by omega)
  refine Ret.of_cd Tryz.func19 rfl Tryz.ntmps19 rfl (post1 rfl) ?_
  refine Cd.seq ?_
  refine Cd.region ?_
  refine Ops.mv_int rfl rfl rfl ?_
  refine Ops.nil ?_
  refine thenQ_n ?_
  refine Cd.seq ?_
  refine Cd.region ?_
  -- stop: MAKEMAP 52 none -> 15
  refine Ops.mkmap (St.refl w) rfl ?_
  intro g w1 hS1
  refine Ops.mv_map rfl rfl rfl ?_
  refine Ops.nil ?_
  refine thenQ_n ?_
  refine Cd.seq ?_
  refine Cd.region ?_
  refine Ops.mv_bool rfl rfl rfl ?_
  refine Ops.nil ?_
  refine thenQ_n ?_
  refine Cd.seq ?_
  refine Cd.seq ?_
  refine Cd.region ?_
  refine Ops.mv_sl rfl rfl rfl ?_
  refine Ops.len rfl rfl ?_
  refine Ops.mv_int rfl rfl rfl ?_
  refine Ops.nil ?_
  refine thenQ_n ?_
  refine Cd.block ?_
  -- stop: loop
  refine Cd.loop (α := Nat) (fun k => [(0, .slice A (edgesN xss) c), (1, .slice A' (vertsN xss) c'), (5, .map (some g)), (6, .bool (decide (¬ ((endsL xss).take k).Nodup))), (16, .slice A (edgesN xss) c), (17, .int .i64 (edgesN xss : Int)), (18, .int .i64 (k : Int))]) (fun k w' => St w w' [CkM 52 g (prV Value.string Value.bool (seenA ((endsL xss).take k)))] ∧ k ≤ edgesN xss ∧ ∀ j, j < k → (gl (endsL xss) (j : Int)).length ≠ 1) (fun k => edgesN xss - k) 0 ⟨rfl, rfl, rfl, rfl, rfl, rfl, rfl, trivial⟩ ⟨hS1, Nat.zero_le _, fun j hj => absurd hj (Nat.not_lt_zero j)⟩ ?_
  rintro k e w2 ⟨hS2, hk, hno⟩
  refine Cd.seq ?_
  refine Cd.region ?_
  refine Ops.lss rfl rfl rfl ?_
  refine Ops.nil ?_
  refine thenQ_n ?_
  refine Cd.seq ?_
  -- stop: cond
  refine Cd.cond_p _ rfl (fun h1 => ?_) (fun h1 => ?_)
  · have hk' : k < edgesN xss := by omega
    have hE2 := hS2.oldRows hE
    have hrow := hE2.at_ (i := (k : Int)) (by omega) (by omega)
    have hcap := hE2.cap_ (i := (k : Int)) (by omega) (by omega)
    have hrn : (gl (endsL xss) (k : Int)).length = (rg rs (k : Int)).n := hrow.1
    have hl2 := ends_le2 hG k hk'
    have hxr : ∀ x ∈ gl (endsL xss) (k : Int), -9223372036854775808 ≤ x ∧ x ≤ 9223372036854775807 := fun x hx => by have := hmem k x hx; omega
    have htk : (endsL xss).take (k + 1) = (endsL xss).take k ++ [gl (endsL xss) (k : Int)] := by
      rw [List.take_succ_eq_append_getElem (by omega)]
      simp [gl, List.getD_eq_getElem?_getD, hel, hk']
    have hnt := nodup_take (En := endsL xss) (k := k) (by omega)
    have hsg := seenA_get ((endsL xss).take k) (gl (endsL xss) (k : Int))
    refine Cd.skip ?_
    refine thenQ_n ?_
    refine Cd.seq ?_
    refine Cd.block ?_
    refine Cd.seq ?_
    refine Cd.region ?_
    -- stop: INDEXADDR 22 t16 t18 -> 20
    refine Ops.idx hE2.top.2 rfl rfl rfl (by omega) (by omega) ?_
    refine Ops.ld_sl hE2.top rfl (by omega) rfl rfl ?_
    refine Ops.mv_sl rfl rfl rfl ?_
    refine Ops.nil ?_
    refine thenQ_n ?_
    refine Cd.seq ?_
    refine Cd.seq ?_
    refine Cd.region ?_
    refine Ops.mv_sl rfl rfl rfl ?_
    refine Ops.len rfl rfl ?_
    refine Ops.eql rfl rfl rfl ?_
    refine Ops.nil ?_
    refine thenQ_n ?_
    -- stop: cond
    refine Cd.cond_p _ rfl (fun h2 => ?_) (fun h2 => ?_)
    · refine Cd.seq ?_
      refine Cd.region ?_
      refine Ops.mv_int rfl rfl rfl ?_
      refine Ops.nil ?_
      refine thenQ_n ?_
      refine Cd.ret ?_
      refine thenQ_r ?_
      refine blockQ_r ?_
      refine thenQ_r ?_
      refine thenQ_r ?_
      refine blockQ_r ?_
      refine thenQ_r ?_
      refine ret1_i rfl ?_
      -- stop: end
      exact ⟨by rw [girN_loop ⟨k, hk', by omega⟩], hS2.none⟩
    · have hno' : ∀ j, j < k + 1 → (gl (endsL xss) (j : Int)).length ≠ 1 := fun j hj => by
        by_cases ej : j = k
        · subst ej; omega
        · exact hno j (by omega)
      refine Cd.skip ?_
      refine thenQ_n ?_
      refine Cd.seq ?_
      refine Cd.region ?_
      refine Ops.mv_bool rfl rfl rfl ?_
      refine Ops.mv_bool rfl rfl rfl ?_
      -- stop: guard 26
      refine Ops.split_p 26 rfl (fun h3 => ?_) (fun h3 => ?_)
      · refine Ops.skipg rfl rfl rfl rfl rfl ?_
        refine Ops.skipg rfl rfl rfl rfl rfl ?_
        refine Ops.skipg rfl rfl rfl rfl rfl ?_
        refine Ops.skipg rfl rfl rfl rfl rfl ?_
        refine Ops.pick_t rfl rfl rfl ?_
        refine Ops.mv_bool rfl rfl rfl ?_
        refine Ops.nil ?_
        refine thenQ_n ?_
        refine Cd.region ?_
        refine Ops.mv_map rfl rfl rfl ?_
        refine Ops.mv_sl rfl rfl rfl ?_
        -- stop: CALL impl.keyOf(t33) -> 34
        refine Ops.call (keyOf_c _ _ _ _ _ (hT.later hS2.below) hrow hxr (by omega)) rfl rfl rfl ?_
        rintro _ w3 ⟨rfl, hst3⟩
        have hS3 := hS2.later hst3.below
        refine Ops.upm rfl keyS 0 (u := true) hS3 rfl rfl rfl rfl ?_
        intro w4 hS4
        refine Ops.nil ?_
        refine blockQ_n ?_
        refine thenQ_n ?_
        refine Cd.region ?_
        refine Ops.add rfl rfl rfl (by omega) ?_
        refine Ops.mv_int rfl rfl rfl ?_
        refine Ops.nil ?_
        refine thenQ_n ?_
        -- stop: round
        refine ⟨k + 1, by omega, ⟨rfl, rfl, rfl, ?_, rfl, rfl, rfl, trivial⟩, ?_, hk', hno'⟩
        · show Value.bool true = .bool _
          rw [decide_eq_true (show ¬ ((endsL xss).take (k + 1)).Nodup from fun h => h3 (hnt.1 h).1)]
        · rw [htk, seenA_snoc]
          exact hS4
      · have h3 : ((endsL xss).take k).Nodup := Classical.not_not.1 h3
        refine Ops.rung rfl rfl rfl ?_
        refine Ops.mv_map rfl rfl rfl ?_
        refine Ops.rung rfl rfl rfl ?_
        refine Ops.mv_sl rfl rfl rfl ?_
        refine Ops.rung rfl rfl rfl ?_
        -- stop: CALL impl.keyOf(t28) -> 29
        refine Ops.call (keyOf_c _ _ _ _ _ (hT.later hS2.below) hrow hxr (by omega)) rfl rfl rfl ?_
        rintro _ w3 ⟨rfl, hst3⟩
        have hS3 := hS2.later hst3.below
        refine Ops.rung rfl rfl rfl ?_
        -- stop: LOOKUP 52 t27 t29 false -> 30
        refine Ops.lookB keyS (keyB (gl (endsL xss) (k : Int))) (hS3.rdM 0 rfl) rfl rfl rfl ?_
        rw [hsg]
        refine Ops.pick_f rfl rfl rfl ?_
        refine Ops.mv_bool rfl rfl rfl ?_
        refine Ops.nil ?_
        refine thenQ_n ?_
        refine Cd.region ?_
        refine Ops.mv_map rfl rfl rfl ?_
        refine Ops.mv_sl rfl rfl rfl ?_
        -- stop: CALL impl.keyOf(t33) -> 34
        refine Ops.call (keyOf_c _ _ _ _ _ (hT.later hS3.below) (hrow.later hst3.below) hxr (by omega)) rfl rfl rfl ?_
        rintro _ w4 ⟨rfl, hst4⟩
        have hS4 := hS3.later hst4.below
        refine Ops.upm rfl keyS 0 (u := true) hS4 rfl rfl rfl rfl ?_
        intro w5 hS5
        refine Ops.nil ?_
        refine blockQ_n ?_
        refine thenQ_n ?_
        refine Cd.region ?_
        refine Ops.add rfl rfl rfl (by omega) ?_
        refine Ops.mv_int rfl rfl rfl ?_
        refine Ops.nil ?_
        refine thenQ_n ?_
        -- stop: round
        refine ⟨k + 1, by omega, ⟨rfl, rfl, rfl, ?_, rfl, rfl, rfl, trivial⟩, ?_, hk', hno'⟩
        · show Value.bool (decide _) = .bool (decide _)
          congr 1
          rw [decide_eq_decide, hnt]
          constructor
          · exact fun h h' => h'.2 h
          · intro h
            exact Classical.byContradiction fun h' => h ⟨h3, h'⟩
        · rw [htk, seenA_snoc]
          exact hS5
  · have hke : k = edgesN xss := by omega
    subst hke
    have hnl : ¬ Loop1 xss := fun ⟨e, he, h⟩ => hno e he h
    rw [show (endsL xss).take (edgesN xss) = endsL xss from List.take_of_length_le (by omega)]
    refine Cd.exit ?_
    refine thenQ_x ?_
    refine thenQ_x ?_
    refine blockQ_x ?_
    refine thenQ_n ?_
    refine Cd.seq ?_
    refine Cd.seq ?_
    refine Cd.region ?_
    refine Ops.mv_bool rfl rfl rfl ?_
    refine Ops.nil ?_
    refine thenQ_n ?_
    -- stop: cond
    refine Cd.cond_p _ rfl (fun h2 => ?_) (fun h2 => ?_)
    · refine Cd.seq ?_
      refine Cd.region ?_
      refine Ops.mv_int rfl rfl rfl ?_
      refine Ops.nil ?_
      refine thenQ_n ?_
      refine Cd.ret ?_
      refine thenQ_r ?_
      refine ret1_i rfl ?_
      -- stop: end
      exact ⟨by rw [girN_double hnl h2], hS2.none⟩
    · have h2 : (endsL xss).Nodup := Classical.not_not.1 h2
      have hfin := girN_impl hG hnl h2
      have hb0 : ∀ (i : Nat), i ≤ vertsN xss → ∀ x ∈ implW i (nbL xss), x ≤ (vertsN xss : Int) := fun i hi x hx => by
        unfold implW at hx
        obtain ⟨v, hv, hx⟩ := List.mem_flatMap.1 hx
        obtain ⟨y, hy, rfl⟩ := List.mem_map.1 hx
        have hv := List.mem_range.1 hv
        have hyr := (hg.row (v : Int) (by omega)).1 y hy
        have := way_small hg (u := (v : Int)) (v := y) (by omega) (by omega) hyr.1 hyr.2
        omega
      have hS2' := hS2.none
      generalize hEn : endsL xss = En at *
      generalize hNe : nbL xss = next at *
      generalize hv : vertsN xss = N at *
      refine Cd.skip ?_
      refine thenQ_n ?_
      refine Cd.seq ?_
      refine Cd.region ?_
      refine Ops.mv_int rfl rfl rfl ?_
      refine Ops.nil ?_
      refine thenQ_n ?_
      refine Cd.seq ?_
      refine Cd.seq ?_
      refine Cd.region ?_
      refine Ops.mv_sl rfl rfl rfl ?_
      -- stop: CALL impl.size[[]int64](t37) -> 38
      refine Ops.call (sizeR_c _ _ _ _) rfl rfl rfl ?_
      rintro _ w2 ⟨rfl, rfl⟩
      refine Ops.mv_int rfl rfl rfl ?_
      refine Ops.nil ?_
      refine thenQ_n ?_
      refine Cd.block ?_
      -- stop: loop
      refine Cd.loop (α := Nat) (fun i => [(1, .slice A' N c'), (9, .int .i64 (mnG (implW i next))), (38, .int .i64 (N : Int)), (39, .int .i64 (i : Int))]) (fun i w' => St w w' [] ∧ i ≤ N) (fun i => N - i) 0 ⟨rfl, rfl, rfl, rfl, trivial⟩ ⟨hS2', Nat.zero_le _⟩ ?_
      rintro i e w3 ⟨hS3, hi⟩
      refine Cd.seq ?_
      refine Cd.region ?_
      refine Ops.lss rfl rfl rfl ?_
      refine Ops.nil ?_
      refine thenQ_n ?_
      refine Cd.seq ?_
      -- stop: cond
      refine Cd.cond_p _ rfl (fun h4 => ?_) (fun h4 => ?_)
      · have hi' : i < N := by omega
        have hN3 := hS3.oldRows hN
        have hrow3 := hN3.at_ (i := (i : Int)) (by omega) (by omega)
        have hrn : (gl next (i : Int)).length = (rg rs' (i : Int)).n := hrow3.1
        have hrr := hg.row (i : Int) (by omega)
        have himp : implW (i + 1) next = implW i next ++ (gl next (i : Int)).map (wayL next (i : Int)) := by
          unfold implW
          rw [List.range_succ, List.flatMap_append, List.flatMap_cons, List.flatMap_nil, List.append_nil]
        refine Cd.skip ?_
        refine thenQ_n ?_
        refine Cd.seq ?_
        refine Cd.block ?_
        refine Cd.seq ?_
        refine Cd.region ?_
        refine Ops.mv_int rfl rfl rfl ?_
        refine Ops.mv_int rfl rfl rfl ?_
        refine Ops.nil ?_
        refine thenQ_n ?_
        refine Cd.seq ?_
        refine Cd.region ?_
        refine Ops.mv_sl rfl rfl rfl ?_
        refine Ops.mv_int rfl rfl rfl ?_
        -- stop: INDEXADDR 22 t42 t43 -> 44
        refine Ops.idx hN3.top.2 rfl rfl rfl (by omega) (by omega) ?_
        refine Ops.ld_sl hN3.top rfl (by omega) rfl rfl ?_
        refine Ops.len rfl rfl ?_
        refine Ops.mv_int rfl rfl rfl ?_
        refine Ops.nil ?_
        refine thenQ_n ?_
        refine Cd.block ?_
        -- stop: loop
        refine Cd.loop (α := Nat) (fun k => [(1, .slice A' N c'), (9, .int .i64 (mnG (implW i next ++ ((gl next (i : Int)).take k).map (wayL next (i : Int))))), (10, .int .i64 (i : Int)), (38, .int .i64 (N : Int)), (39, .int .i64 (i : Int)), (45, .slice (rg rs' (i : Int)).a (rg rs' (i : Int)).n (rg rs' (i : Int)).c), (46, .int .i64 ((rg rs' (i : Int)).n : Int)), (47, .int .i64 (k : Int))]) (fun k w' => St w w' [] ∧ k ≤ (gl next (i : Int)).length) (fun k => (gl next (i : Int)).length - k) 0 ⟨rfl, by show Value.int .i64 _ = .int .i64 _; rw [List.take_zero, List.map_nil, List.append_nil], rfl, rfl, rfl, rfl, rfl, rfl, trivial⟩ ⟨hS3, Nat.zero_le _⟩ ?_
        rintro k e w4 ⟨hS4, hk⟩
        have hbm : 0 ≤ mnG (implW i next ++ ((gl next (i : Int)).take k).map (wayL next (i : Int))) ∧ mnG (implW i next ++ ((gl next (i : Int)).take k).map (wayL next (i : Int))) ≤ (N : Int) + 1 := mnG_bd (fun x hx => by
          rcases List.mem_append.1 hx with hx | hx
          · exact hb0 i hi x hx
          · exact hb0 (i + 1) hi' x (by rw [himp]; exact List.mem_append_right _ (List.map_subset _ (List.take_subset _ _) hx))) (by omega)
        refine Cd.seq ?_
        refine Cd.region ?_
        refine Ops.lss rfl rfl rfl ?_
        refine Ops.nil ?_
        refine thenQ_n ?_
        refine Cd.seq ?_
        -- stop: cond
        refine Cd.cond_p _ rfl (fun h5 => ?_) (fun h5 => ?_)
        · have hk' : k < (gl next (i : Int)).length := by omega
          have hN4 := hS4.oldRows hN
          have hrow4 := hN4.at_ (i := (i : Int)) (by omega) (by omega)
          have hxm : gi (gl next (i : Int)) (k : Int) ∈ gl next (i : Int) := gi_in hk'
          have hxr := hrr.1 _ hxm
          have hstep : mnG (implW i next ++ ((gl next (i : Int)).take (k + 1)).map (wayL next (i : Int))) = gstep (mnG (implW i next ++ ((gl next (i : Int)).take k).map (wayL next (i : Int)))) (wayL next (i : Int) (gi (gl next (i : Int)) (k : Int))) := by
            rw [take_succ_gi hk', List.map_append, ← List.append_assoc, List.map_cons, List.map_nil, mnG_snoc]
          refine Cd.skip ?_
          refine thenQ_n ?_
          refine Cd.seq ?_
          refine Cd.block ?_
          refine Cd.seq ?_
          refine Cd.region ?_
          -- stop: INDEXADDR 35 t45 t47 -> 49
          refine Ops.idx hrow4.2 rfl rfl rfl (by omega) (by omega) ?_
          refine Ops.ld_int hrow4 rfl (by omega) rfl rfl ?_
          generalize hx : gi (gl next (i : Int)) (k : Int) = x at *
          generalize hgm : mnG (implW i next ++ ((gl next (i : Int)).take k).map (wayL next (i : Int))) = gm at *
          have hrx := hg.row x hxr.1
          have hway := way_small hg (u := (i : Int)) (v := x) (by omega) (by omega) hxr.1 hxr.2
          refine Ops.mv_int rfl rfl rfl ?_
          refine Ops.nil ?_
          refine thenQ_n ?_
          refine Cd.seq ?_
          refine Cd.region ?_
          refine Ops.mv_sl rfl rfl rfl ?_
          -- stop: CALL slices.Clone[[][]int64,[]int64](t51) -> 52
          refine Ops.call (CloneR_c A' N c' rs' _ hN4.top (by omega) (by omega)) rfl rfl rfl ?_
          rintro _ w5 ⟨A13, c13, rfl, hst5⟩
          have hS5 := hS4.call hst5
          have hN5 := hS5.oldRows hN
          refine Ops.mv_sl rfl rfl rfl ?_
          refine Ops.nil ?_
          refine thenQ_n ?_
          refine Cd.seq ?_
          refine Cd.region ?_
          refine Ops.mv_sl rfl rfl rfl ?_
          refine Ops.mv_int rfl rfl rfl ?_
          refine Ops.mv_sl rfl rfl rfl ?_
          refine Ops.mv_int rfl rfl rfl ?_
          -- stop: INDEXADDR 22 t55 t56 -> 57
          refine Ops.idx hN5.top.2 rfl rfl rfl (by omega) (by omega) ?_
          refine Ops.ld_sl hN5.top rfl (by omega) rfl rfl ?_
          refine Ops.mv_int rfl rfl rfl ?_
          -- stop: BUILDSLICE 35 1 [('pair', [0, ('app', 'Go.Operand.tmp', [59])])] -> 60
          refine Ops.bs1I hS5 rfl rfl rfl ?_
          intro A60 w6 hS6
          have hra := (hS6.oldRows hN).at_ (i := (i : Int)) (by omega) (by omega)
          refine Ops.call (lessOf_c _ _ _ (gl next (i : Int)) A60 1 1 [x] _ hra (hS6.rdI 0 rfl) (by omega) (by omega)) rfl rfl rfl ?_
          rintro _ w7 ⟨A61, c61, rfl, hst7⟩
          have hS7 := hS6.call hst7
          have hS7 : St w w7 [CkI 2 A61 (lessL (gl next (i : Int)) [x]).length c61 (lessL (gl next (i : Int)) [x]), CkI 2 A60 1 1 [x], CkR 35 A13 N c13 rs'] := hS7
          refine Ops.idx (hS7.rdR 2 rfl).2 rfl rfl rfl (by omega) (by omega) ?_
          refine Ops.st_sl 2 hS7 rfl rfl rfl (by omega) ?_
          intro w8 hS8
          have hS8 : St w w8 [CkI 2 A61 (lessL (gl next (i : Int)) [x]).length c61 (lessL (gl next (i : Int)) [x]), CkI 2 A60 1 1 [x], CkR 35 A13 N c13 (rs'.set (i : Int).toNat ⟨A61, (lessL (gl next (i : Int)) [x]).length, c61⟩)] := hS8
          have hN8 := hS8.oldRows hN
          refine Ops.nil ?_
          refine thenQ_n ?_
          refine Cd.seq ?_
          refine Cd.region ?_
          refine Ops.mv_sl rfl rfl rfl ?_
          refine Ops.mv_int rfl rfl rfl ?_
          refine Ops.mv_sl rfl rfl rfl ?_
          refine Ops.mv_int rfl rfl rfl ?_
          -- stop: INDEXADDR 22 t65 t66 -> 67
          refine Ops.idx hN8.top.2 rfl rfl rfl hxr.1 hxr.2 ?_
          refine Ops.ld_sl hN8.top rfl (by omega) rfl rfl ?_
          refine Ops.mv_int rfl rfl rfl ?_
          -- stop: BUILDSLICE 35 1 [('pair', [0, ('app', 'Go.Operand.tmp', [69])])] -> 70
          refine Ops.bs1I hS8 rfl rfl rfl ?_
          intro A70 w9 hS9
          have hrb := (hS9.oldRows hN).at_ (i := x) hxr.1 hxr.2
          have hrbn : (gl next x).length = (rg rs' x).n := hrb.1
          refine Ops.call (lessOf_c _ _ _ (gl next x) A70 1 1 [(i : Int)] _ hrb (hS9.rdI 0 rfl) (by omega) (by omega)) rfl rfl rfl ?_
          rintro _ w10 ⟨A71, c71, rfl, hst10⟩
          have hS10 := hS9.call hst10
          have hS10 : St w w10 [CkI 2 A71 (lessL (gl next x) [(i : Int)]).length c71 (lessL (gl next x) [(i : Int)]), CkI 2 A70 1 1 [(i : Int)], CkI 2 A61 (lessL (gl next (i : Int)) [x]).length c61 (lessL (gl next (i : Int)) [x]), CkI 2 A60 1 1 [x], CkR 35 A13 N c13 (rs'.set (i : Int).toNat ⟨A61, (lessL (gl next (i : Int)) [x]).length, c61⟩)] := hS10
          refine Ops.idx (hS10.rdR 4 rfl).2 rfl rfl rfl hxr.1 hxr.2 ?_
          refine Ops.st_sl 4 hS10 rfl rfl rfl (by omega) ?_
          intro w11 hS11
          have hS11 : St w w11 [CkI 2 A71 (lessL (gl next x) [(i : Int)]).length c71 (lessL (gl next x) [(i : Int)]), CkI 2 A70 1 1 [(i : Int)], CkI 2 A61 (lessL (gl next (i : Int)) [x]).length c61 (lessL (gl next (i : Int)) [x]), CkI 2 A60 1 1 [x], CkR 35 A13 N c13 ((rs'.set (i : Int).toNat ⟨A61, (lessL (gl next (i : Int)) [x]).length, c61⟩).set x.toNat ⟨A71, (lessL (gl next x) [(i : Int)]).length, c71⟩)] := hS11
          have hW := ((hS11.oldRows hN).W.put (i : Int).toNat (s := ⟨A61, (lessL (gl next (i : Int)) [x]).length, c61⟩) (hS11.rdI 2 rfl) (hS11.cap 2 rfl)).put x.toNat (s := ⟨A71, (lessL (gl next x) [(i : Int)]).length, c71⟩) (hS11.rdI 0 rfl) (hS11.cap 0 rfl)
          have hI := hW.I (hS11.rdR 4 rfl)
          have hI : RowsI w11 A13 N _ (restL next (i : Int) x) := hI
          have hgr := rest_gr hg (u := (i : Int)) (v := x) (by omega) (by omega) hxr.1 hxr.2
          refine Ops.nil ?_
          refine thenQ_n ?_
          refine Cd.seq ?_
          refine Cd.region ?_
          refine Ops.mv_sl rfl rfl rfl ?_
          refine Ops.mv_int rfl rfl rfl ?_
          -- stop: CALL impl.graphDistances(t73, t74) -> 75
          refine Ops.call (graphDistances_c A13 N c13 _ (restL next (i : Int) x) (i : Int) _ hI hgr (by omega) (by omega)) rfl rfl rfl ?_
          rintro _ w12 ⟨A75, rfl, hst12⟩
          have hS12 := (hS11.later hst12.below).none
          have hD := hst12.rdI 0 rfl
          refine Ops.mv_int rfl rfl rfl ?_
          -- stop: INDEXADDR 35 t75 t76 -> 77
          refine Ops.idx hD.2 rfl rfl rfl hxr.1 hxr.2 ?_
          refine Ops.ld_int hD rfl (by omega) rfl rfl ?_
          rw [show gi (distP (restL next (i : Int) x) (-1) (i : Int)).1 x = wayL next (i : Int) x from rfl]
          generalize wayL next (i : Int) x = wy at *
          refine Ops.mv_int rfl rfl rfl ?_
          refine Ops.nil ?_
          refine thenQ_n ?_
          refine Cd.seq ?_
          refine Cd.region ?_
          refine Ops.mv_int rfl rfl rfl ?_
          refine Ops.gtr rfl rfl rfl ?_
          refine Ops.mv_bool rfl rfl rfl ?_
          -- stop: guard 81
          refine Ops.split_p 81 rfl (fun h6 => ?_) (fun h6 => ?_)
          · refine Ops.rung rfl rfl rfl ?_
            refine Ops.mv_int rfl rfl rfl ?_
            refine Ops.rung rfl rfl rfl ?_
            refine Ops.eql rfl rfl rfl ?_
            refine Ops.rung rfl rfl rfl ?_
            refine Ops.mv_bool rfl rfl rfl ?_
            -- stop: guard 84
            refine Ops.split_p 84 rfl (fun h7 => ?_) (fun h7 => ?_)
            · have hgs : gstep gm wy = wy + 1 := by unfold gstep; rw [if_pos ⟨h6, .inl h7⟩]
              refine Ops.skipg rfl rfl rfl rfl rfl ?_
              refine Ops.skipg rfl rfl rfl rfl rfl ?_
              refine Ops.skipg rfl rfl rfl rfl rfl ?_
              refine Ops.skipg rfl rfl rfl rfl rfl ?_
              refine Ops.rung rfl rfl rfl ?_
              refine Ops.pick_t rfl rfl rfl ?_
              refine Ops.pick_t rfl rfl rfl ?_
              refine Ops.nil ?_
              refine thenQ_n ?_
              -- stop: cond
              refine Cd.cond_t rfl ?_
              refine Cd.region ?_
              refine Ops.mv_int rfl rfl rfl ?_
              refine Ops.add rfl rfl rfl (by omega) ?_
              refine Ops.mv_int rfl rfl rfl ?_
              refine Ops.nil ?_
              refine blockQ_n ?_
              refine thenQ_n ?_
              refine Cd.region ?_
              refine Ops.add rfl rfl rfl (by omega) ?_
              refine Ops.mv_int rfl rfl rfl ?_
              refine Ops.nil ?_
              refine thenQ_n ?_
              -- stop: round
              exact ⟨k + 1, by omega, ⟨rfl, by show Value.int .i64 _ = .int .i64 _; rw [hstep, hgs], rfl, rfl, rfl, rfl, rfl, rfl, trivial⟩, hS12, hk'⟩
            · refine Ops.rung rfl rfl rfl ?_
              refine Ops.mv_int rfl rfl rfl ?_
              refine Ops.rung rfl rfl rfl ?_
              refine Ops.add rfl rfl rfl (by omega) ?_
              refine Ops.rung rfl rfl rfl ?_
              refine Ops.mv_int rfl rfl rfl ?_
              refine Ops.rung rfl rfl rfl ?_
              refine Ops.lss rfl rfl rfl ?_
              refine Ops.rung rfl rfl rfl ?_
              refine Ops.pick_f rfl rfl rfl ?_
              refine Ops.pick_t rfl rfl rfl ?_
              refine Ops.nil ?_
              refine thenQ_n ?_
              -- stop: cond
              refine Cd.cond_p _ rfl (fun h8 => ?_) (fun h8 => ?_)
              · have hgs : gstep gm wy = wy + 1 := by unfold gstep; rw [if_pos ⟨h6, .inr h8⟩]
                refine Cd.region ?_
                refine Ops.mv_int rfl rfl rfl ?_
                refine Ops.add rfl rfl rfl (by omega) ?_
                refine Ops.mv_int rfl rfl rfl ?_
                refine Ops.nil ?_
                refine blockQ_n ?_
                refine thenQ_n ?_
                refine Cd.region ?_
                refine Ops.add rfl rfl rfl (by omega) ?_
                refine Ops.mv_int rfl rfl rfl ?_
                refine Ops.nil ?_
                refine thenQ_n ?_
                -- stop: round
                exact ⟨k + 1, by omega, ⟨rfl, by show Value.int .i64 _ = .int .i64 _; rw [hstep, hgs], rfl, rfl, rfl, rfl, rfl, rfl, trivial⟩, hS12, hk'⟩
              · have hgs : gstep gm wy = gm := by unfold gstep; rw [if_neg (fun h => h.2.elim h7 h8)]
                refine Cd.skip ?_
                refine blockQ_n ?_
                refine thenQ_n ?_
                refine Cd.region ?_
                refine Ops.add rfl rfl rfl (by omega) ?_
                refine Ops.mv_int rfl rfl rfl ?_
                refine Ops.nil ?_
                refine thenQ_n ?_
                -- stop: round
                exact ⟨k + 1, by omega, ⟨rfl, by show Value.int .i64 _ = .int .i64 _; rw [hstep, hgs], rfl, rfl, rfl, rfl, rfl, rfl, trivial⟩, hS12, hk'⟩
          · have hgs : gstep gm wy = gm := by unfold gstep; rw [if_neg (fun h => h6 h.1)]
            refine Ops.skipg rfl rfl rfl rfl rfl ?_
            refine Ops.skipg rfl rfl rfl rfl rfl ?_
            refine Ops.skipg rfl rfl rfl rfl rfl ?_
            refine Ops.skipu rfl rfl rfl rfl ?_
            refine Ops.skipu rfl rfl rfl rfl ?_
            refine Ops.skipu rfl rfl rfl rfl ?_
            refine Ops.skipu rfl rfl rfl rfl ?_
            refine Ops.skipg rfl rfl rfl rfl rfl ?_
            refine Ops.pick_f rfl rfl rfl ?_
            refine Ops.nil ?_
            refine thenQ_n ?_
            -- stop: cond
            refine Cd.cond_f rfl ?_
            refine Cd.skip ?_
            refine blockQ_n ?_
            refine thenQ_n ?_
            refine Cd.region ?_
            refine Ops.add rfl rfl rfl (by omega) ?_
            refine Ops.mv_int rfl rfl rfl ?_
            refine Ops.nil ?_
            refine thenQ_n ?_
            -- stop: round
            exact ⟨k + 1, by omega, ⟨rfl, by show Value.int .i64 _ = .int .i64 _; rw [hstep, hgs], rfl, rfl, rfl, rfl, rfl, rfl, trivial⟩, hS12, hk'⟩
        · have hke : k = (gl next (i : Int)).length := by omega
          subst hke
          refine Cd.exit ?_
          refine thenQ_x ?_
          refine thenQ_x ?_
          refine blockQ_x ?_
          refine blockQ_n ?_
          refine thenQ_n ?_
          refine Cd.region ?_
          refine Ops.add rfl rfl rfl (by omega) ?_
          refine Ops.mv_int rfl rfl rfl ?_
          refine Ops.nil ?_
          refine thenQ_n ?_
          -- stop: round
          exact ⟨i + 1, by omega, ⟨rfl, by show Value.int .i64 _ = .int .i64 _; rw [List.take_length, himp], rfl, rfl, trivial⟩, hS4, hi'⟩
      · have hie : i = N := by omega
        subst hie
        refine Cd.exit ?_
        refine thenQ_x ?_
        refine thenQ_x ?_
        refine blockQ_x ?_
        refine thenQ_n ?_
        refine Cd.seq ?_
        refine Cd.region ?_
        refine Ops.mv_int rfl rfl rfl ?_
        refine Ops.mv_int rfl rfl rfl ?_
        refine Ops.nil ?_
        refine thenQ_n ?_
        refine Cd.ret ?_
        refine ret1_i rfl ?_
        -- stop: end
        exact ⟨by rw [hfin], hS3⟩
end Go.Proofs.YtgobjpcankaicaaGreatDoor.Vc
/-
  The walk of the law FnExactPartsOf: it returns true. Conditions: as it states them.
-/
namespace Go.Proofs.YtgobjpcankaicaaGreatDoor.Vc
open Go.RowKit

end Go.Proofs.YtgobjpcankaicaaGreatDoor.Vc
/-
  GirthOf on both sides, and the walk of its law. Conditions: the library's table of powers of ten holds what the program's text lays there.
-/
namespace Go.Proofs.YtgobjpcankaicaaGreatDoor.Vc
open Go.RowKit

theorem l17Without_c (A : Option Addr) (n c : Nat) (a : List Int) (A' : Option Addr) (n' c' : Nat) (b : List Int) (w : World) (hA : RdI w A n a) (hB : RdI w A' n' b) (hn : n ≤ 1000000000) (hn' : n' ≤ 9223372036854775807) :
    Ret Tryz.prog 15 [.slice A n c, .slice A' n' c'] w (fun v w' => ∃ A2 c2, v = .slice A2 (lessL a b).length c2 ∧ St w w' [CkI 2 A2 (lessL a b).length c2 (lessL a b)]) := by
  have hal := hA.1
  refine Ret.of_cd Tryz.func15 rfl Tryz.ntmps15 rfl (post1 rfl) ?_
  refine Cd.seq ?_
  refine Cd.region ?_
  refine Ops.mv_sl rfl rfl rfl ?_
  refine Ops.nil ?_
  refine thenQ_n ?_
  refine Cd.seq ?_
  refine Cd.region ?_
  -- stop: BUILDSLICE 35 0 [] -> 7
  refine Ops.bs0 (St.refl w) rfl ?_
  intro A7 w1 hS1
  have hS1 : St w w1 [CkI 2 A7 (lessL (a.take 0) b).length 0 (lessL (a.take 0) b)] := hS1
  refine Ops.mv_sl rfl rfl rfl ?_
  refine Ops.nil ?_
  refine thenQ_n ?_
  refine Cd.seq ?_
  refine Cd.seq ?_
  refine Cd.region ?_
  refine Ops.mv_int rfl rfl rfl ?_
  refine Ops.nil ?_
  refine thenQ_n ?_
  refine Cd.block ?_
  -- stop: loop
  refine Cd.loop (α := Nat × Option Addr × Nat) (fun s => [(0, .slice A n c), (1, .slice A' n' c'), (5, .slice s.2.1 (lessL (a.take s.1) b).length s.2.2), (6, .int .i64 (s.1 : Int))]) (fun s w' => St w w' [CkI 2 s.2.1 (lessL (a.take s.1) b).length s.2.2 (lessL (a.take s.1) b)] ∧ s.1 ≤ n) (fun s => n - s.1) (0, A7, 0) ⟨rfl, rfl, rfl, rfl, trivial⟩ ⟨hS1, Nat.zero_le _⟩ ?_
  rintro ⟨i, A3, c3⟩ e w2 ⟨hS2, hi⟩
  dsimp only at hS2 hi ⊢
  refine Cd.seq ?_
  refine Cd.seq ?_
  refine Cd.region ?_
  refine Ops.mv_int rfl rfl rfl ?_
  refine Ops.mv_sl rfl rfl rfl ?_
  refine Ops.len rfl rfl ?_
  refine Ops.lss rfl rfl rfl ?_
  refine Ops.nil ?_
  refine thenQ_n ?_
  -- stop: cond
  refine Cd.cond_p _ rfl (fun h1 => ?_) (fun h1 => ?_)
  · have hi' : i < a.length := by omega
    have hR2 := hS2.oldI hA
    have hll : (lessL (a.take i) b).length ≤ i := by
      have := List.length_filter_le (fun x => !decide (x ∈ b)) (a.take i)
      rw [List.length_take] at this
      unfold lessL
      omega
    have htk : lessL (a.take (i + 1)) b = lessL (a.take i) b ++ (if gi a (i : Int) ∈ b then [] else [gi a (i : Int)]) := by
      unfold lessL
      rw [take_succ_gi hi', List.filter_append]
      congr 1
      by_cases h : gi a (i : Int) ∈ b <;> simp [h]
    refine Cd.skip ?_
    refine thenQ_n ?_
    refine Cd.seq ?_
    refine Cd.block ?_
    refine Cd.seq ?_
    refine Cd.region ?_
    refine Ops.mv_sl rfl rfl rfl ?_
    refine Ops.mv_sl rfl rfl rfl ?_
    refine Ops.mv_int rfl rfl rfl ?_
    -- stop: INDEXADDR 35 t15 t16 -> 17
    refine Ops.idx hR2.2 rfl rfl rfl (by omega) (by omega) ?_
    refine Ops.ld_int hR2 rfl (by omega) rfl rfl ?_
    refine Ops.call (l01Has_c A' n' c' b _ _ (hS2.oldI hB) hn') rfl rfl rfl ?_
    rintro _ w2 ⟨rfl, rfl⟩
    first | refine Ops.not_p rfl rfl ?_ | refine Ops.not rfl rfl ?_
    refine Ops.nil ?_
    refine thenQ_n ?_
    -- stop: cond
    refine Cd.cond_p _ rfl (fun h2 => ?_) (fun h2 => ?_)
    · refine Cd.region ?_
      refine Ops.mv_sl rfl rfl rfl ?_
      refine Ops.mv_sl rfl rfl rfl ?_
      refine Ops.mv_int rfl rfl rfl ?_
      -- stop: INDEXADDR 35 t22 t23 -> 24
      refine Ops.idx hR2.2 rfl rfl rfl (by omega) (by omega) ?_
      refine Ops.ld_int hR2 rfl (by omega) rfl rfl ?_
      refine Ops.bs1I hS2 rfl rfl rfl ?_
      intro A8 w3 hS3
      refine Ops.appI 1 hS3 rfl (hS3.rdI 0 rfl) rfl rfl rfl (by omega) (by omega) rfl ?_
      intro A9 c9 w4 hS4
      rw [if_neg h2] at htk
      have e1 : (lessL (a.take i) b ++ [gi a (i : Int)]).length = (lessL (a.take i) b).length + 1 := by simp
      refine Ops.mv_sl rfl rfl rfl ?_
      refine Ops.nil ?_
      refine blockQ_n ?_
      refine thenQ_n ?_
      refine Cd.region ?_
      refine Ops.mv_int rfl rfl rfl ?_
      refine Ops.add rfl rfl rfl (by omega) ?_
      refine Ops.mv_int rfl rfl rfl ?_
      refine Ops.nil ?_
      refine thenQ_n ?_
      -- stop: round
      refine ⟨(i + 1, A9, c9), by show n - (i + 1) < n - i; omega, ⟨rfl, rfl, by show Value.slice _ _ _ = .slice _ _ _; rw [htk, e1], rfl, trivial⟩, ?_, by show i + 1 ≤ n; omega⟩
      show St w w4 [CkI _ A9 (lessL (a.take (i + 1)) b).length c9 (lessL (a.take (i + 1)) b)]
      rw [htk, e1]
      exact hS4.tail
    · rw [if_pos (Classical.not_not.1 h2), List.append_nil] at htk
      refine Cd.skip ?_
      refine blockQ_n ?_
      refine thenQ_n ?_
      refine Cd.region ?_
      refine Ops.mv_int rfl rfl rfl ?_
      refine Ops.add rfl rfl rfl (by omega) ?_
      refine Ops.mv_int rfl rfl rfl ?_
      refine Ops.nil ?_
      refine thenQ_n ?_
      -- stop: round
      refine ⟨(i + 1, A3, c3), by show n - (i + 1) < n - i; omega, ⟨rfl, rfl, by show Value.slice _ _ _ = .slice _ _ _; rw [htk], rfl, trivial⟩, ?_, by show i + 1 ≤ n; omega⟩
      show St w w2 [CkI _ A3 (lessL (a.take (i + 1)) b).length c3 (lessL (a.take (i + 1)) b)]
      rw [htk]
      exact hS2
  · have hie : a.take i = a := List.take_of_length_le (by omega)
    rw [hie] at hS2
    refine Cd.exit ?_
    refine thenQ_x ?_
    refine thenQ_x ?_
    refine blockQ_x ?_
    refine thenQ_n ?_
    refine Cd.seq ?_
    refine Cd.region ?_
    refine Ops.mv_sl rfl rfl rfl ?_
    refine Ops.mv_sl rfl rfl rfl ?_
    refine Ops.nil ?_
    refine thenQ_n ?_
    refine Cd.ret ?_
    refine ret1_s rfl ?_
    -- stop: end
    rw [hie]
    exact ⟨A3, c3, rfl, hS2⟩

def encS (g : Int) : Int := if g = 0 then -1 else g
theorem encS_step {g w : Int} (hg : 0 ≤ g) : (if 0 < w ∧ (encS g < 0 ∨ w + 1 < encS g) then w + 1 else encS g) = encS (gstep g w) := by
  unfold encS gstep
  (repeat' split) <;> omega

theorem specGirthOf_c (A : Option Addr) (n c : Nat) (rs : List SlV) (xss : List (List Int)) (w : World) (hR : RowsI w A n rs xss) (hn : n ≤ 9223372036854775807) :
    Ret Tryz.prog 5 [.agg #[.slice A n c]] w (fun v w' => v = .tuple #[.int .i64 (girV xss), .int .i64 (girK xss)] ∧ St w w' []) := by
  refine Ret.of_cd Tryz.func5 rfl Tryz.ntmps5 rfl (post2 rfl) ?_
  refine Cd.seq ?_
  refine Cd.region ?_
  -- stop: BOX 28 t0=app -> 1
  refine Ops.box1 (St.refl w) rfl rfl ?_
  intro Ab w1 hS1
  refine Ops.mv_int rfl rfl rfl ?_
  refine Ops.mv_int rfl rfl rfl ?_
  refine Ops.nil ?_
  refine thenQ_n ?_
  refine Cd.seq ?_
  refine Cd.seq ?_
  refine Cd.region ?_
  -- stop: LOAD 28 t1=toArray -> 15
  refine Ops.ld_agg 0 (hS1.rd 0 rfl) rfl rfl rfl ?_
  refine Ops.call (l18Is_c A n c rs xss _ (hS1.oldRows hR) hn) rfl rfl rfl ?_
  rintro _ w2 ⟨rfl, hst⟩
  have hS2 := hS1.later hst.below
  first | refine Ops.not_p rfl rfl ?_ | refine Ops.not rfl rfl ?_
  refine Ops.nil ?_
  refine thenQ_n ?_
  -- stop: cond
  refine Cd.cond_p _ rfl (fun h => ?_) (fun h => ?_)
  · refine Cd.seq ?_
    refine Cd.region ?_
    refine Ops.mv_int rfl rfl rfl ?_
    refine Ops.mv_int rfl rfl rfl ?_
    refine Ops.nil ?_
    refine thenQ_n ?_
    refine Cd.ret ?_
    refine thenQ_r ?_
    refine ret2_ii rfl rfl ?_
    -- stop: end
    exact ⟨by rw [girV, girK, if_neg h, if_pos h], hS2.none⟩
  have hG : Grph xss := Classical.not_not.1 h
  have hM := hG.1
  have hg := nb_gr hM
  have hsm := nb_small hM
  have hel := endsL_len xss
  have hep := ends_pos hM
  have hmem : ∀ e : Nat, ∀ x ∈ gl (endsL xss) (e : Int), 0 ≤ x ∧ x < (vertsN xss : Int) := fun e => endsL_mem hM e (by omega)
  have hVf : girV xss = girN xss := by unfold girV; rw [if_pos hG]
  have hKf : girK xss = if girN xss = 0 then 4 else 0 := by unfold girK; rw [if_neg (fun h => h hG)]
  refine Cd.skip ?_
  refine thenQ_n ?_
  refine Cd.seq ?_
  refine Cd.region ?_
  -- stop: LOAD 28 t1=toArray -> 18
  refine Ops.ld_agg 0 (hS2.rd 0 rfl) rfl rfl rfl ?_
  refine Ops.call (l18Ends_c A n c rs xss _ (hS2.oldRows hR) hG) rfl rfl rfl ?_
  rintro _ w3 ⟨A4, rs4, rfl, hrl4, hst3⟩
  have hE := hst3.rowsI (endsL_len xss)
  have hS3 := hS2.later hst3.below
  refine Ops.mv_sl rfl rfl rfl ?_
  refine Ops.nil ?_
  refine thenQ_n ?_
  refine Cd.seq ?_
  refine Cd.seq ?_
  refine Cd.region ?_
  refine Ops.mv_int rfl rfl rfl ?_
  refine Ops.nil ?_
  refine thenQ_n ?_
  refine Cd.block ?_
  -- stop: loop
  refine Cd.loop (α := Nat) (fun e => [(1, .pointer Ab), (4, .slice A4 (edgesN xss) (edgesN xss)), (5, .int .i64 (e : Int))]) (fun e w' => w' = w3 ∧ e ≤ edgesN xss ∧ ∀ j, j < e → (gl (endsL xss) (j : Int)).length ≠ 1) (fun e => edgesN xss - e) 0 ⟨rfl, rfl, rfl, trivial⟩ ⟨rfl, Nat.zero_le _, fun j hj => absurd hj (Nat.not_lt_zero j)⟩ ?_
  rintro k e w3 ⟨rfl, hk, hno⟩
  refine Cd.seq ?_
  refine Cd.seq ?_
  refine Cd.region ?_
  refine Ops.mv_int rfl rfl rfl ?_
  refine Ops.mv_sl rfl rfl rfl ?_
  refine Ops.len rfl rfl ?_
  refine Ops.lss rfl rfl rfl ?_
  refine Ops.nil ?_
  refine thenQ_n ?_
  -- stop: cond
  refine Cd.cond_p _ rfl (fun h1 => ?_) (fun h1 => ?_)
  · have hk' : k < edgesN xss := by omega
    have hrow := hE.at_ (i := (k : Int)) (by omega) (by omega)
    have hrn : (gl (endsL xss) (k : Int)).length = (rg rs4 (k : Int)).n := hrow.1
    refine Cd.skip ?_
    refine thenQ_n ?_
    refine Cd.seq ?_
    refine Cd.block ?_
    refine Cd.seq ?_
    refine Cd.region ?_
    refine Ops.mv_sl rfl rfl rfl ?_
    refine Ops.mv_int rfl rfl rfl ?_
    -- stop: INDEXADDR 22 t26 t27 -> 28
    refine Ops.idx hE.top.2 rfl rfl rfl (by omega) (by omega) ?_
    refine Ops.ld_sl hE.top rfl (by omega) rfl rfl ?_
    refine Ops.len rfl rfl ?_
    refine Ops.eql rfl rfl rfl ?_
    refine Ops.nil ?_
    refine thenQ_n ?_
    -- stop: cond
    refine Cd.cond_p _ rfl (fun h2 => ?_) (fun h2 => ?_)
    · refine Cd.seq ?_
      refine Cd.region ?_
      refine Ops.mv_int rfl rfl rfl ?_
      refine Ops.mv_int rfl rfl rfl ?_
      refine Ops.nil ?_
      refine thenQ_n ?_
      refine Cd.ret ?_
      refine blockQ_r ?_
      refine thenQ_r ?_
      refine thenQ_r ?_
      refine blockQ_r ?_
      refine thenQ_r ?_
      refine ret2_ii rfl rfl ?_
      -- stop: end
      have hgn := girN_loop (xss := xss) ⟨k, hk', by omega⟩
      exact ⟨by rw [hVf, hKf, hgn]; rfl, hS3.none⟩
    · refine Cd.skip ?_
      refine blockQ_n ?_
      refine thenQ_n ?_
      refine Cd.region ?_
      refine Ops.mv_int rfl rfl rfl ?_
      refine Ops.add rfl rfl rfl (by omega) ?_
      refine Ops.mv_int rfl rfl rfl ?_
      refine Ops.nil ?_
      refine thenQ_n ?_
      -- stop: round
      refine ⟨k + 1, by omega, ⟨rfl, rfl, rfl, trivial⟩, rfl, hk', fun j hj => ?_⟩
      by_cases ej : j = k
      · subst ej; omega
      · exact hno j (by omega)
  have hke : k = edgesN xss := by omega
  subst hke
  have hnl : ¬ Loop1 xss := fun ⟨e, he, h⟩ => hno e he h
  have hall := all_two hG hnl
  refine Cd.exit ?_
  refine thenQ_x ?_
  refine thenQ_x ?_
  refine blockQ_x ?_
  refine thenQ_n ?_
  refine Cd.seq ?_
  refine Cd.seq ?_
  refine Cd.region ?_
  refine Ops.mv_int rfl rfl rfl ?_
  refine Ops.nil ?_
  refine thenQ_n ?_
  refine Cd.block ?_
  -- stop: loop
  refine Cd.loop (α := Nat) (fun e => [(1, .pointer Ab), (4, .slice A4 (edgesN xss) (edgesN xss)), (6, .int .i64 (e : Int))]) (fun e w' => St w3 w' [] ∧ e ≤ edgesN xss ∧ ((endsL xss).take e).Nodup) (fun e => edgesN xss - e) 0 ⟨rfl, rfl, rfl, trivial⟩ ⟨St.refl _, Nat.zero_le _, List.nodup_nil⟩ ?_
  rintro k e w4 ⟨hS4, hk, hnd⟩
  refine Cd.seq ?_
  refine Cd.seq ?_
  refine Cd.region ?_
  refine Ops.mv_int rfl rfl rfl ?_
  refine Ops.mv_sl rfl rfl rfl ?_
  refine Ops.len rfl rfl ?_
  refine Ops.lss rfl rfl rfl ?_
  refine Ops.nil ?_
  refine thenQ_n ?_
  -- stop: cond
  refine Cd.cond_p _ rfl (fun h2 => ?_) (fun h2 => ?_)
  · have hk' : k < edgesN xss := by omega
    have hnt := nodup_take (En := endsL xss) (k := k) (by omega)
    refine Cd.skip ?_
    refine thenQ_n ?_
    refine Cd.seq ?_
    refine Cd.block ?_
    refine Cd.seq ?_
    refine Cd.region ?_
    refine Ops.mv_int rfl rfl rfl ?_
    refine Ops.nil ?_
    refine thenQ_n ?_
    refine Cd.block ?_
    -- stop: loop
    refine Cd.loop (α := Nat) (fun j => [(1, .pointer Ab), (4, .slice A4 (edgesN xss) (edgesN xss)), (6, .int .i64 (k : Int)), (7, .int .i64 (j : Int))]) (fun j w' => St w3 w' [] ∧ j ≤ k ∧ ∀ i, i < j → gl (endsL xss) (k : Int) ≠ gl (endsL xss) (i : Int)) (fun j => k - j) 0 ⟨rfl, rfl, rfl, rfl, trivial⟩ ⟨hS4, Nat.zero_le _, fun i hi => absurd hi (Nat.not_lt_zero i)⟩ ?_
    rintro j e w5 ⟨hS5, hj, hne⟩
    refine Cd.seq ?_
    refine Cd.seq ?_
    refine Cd.region ?_
    refine Ops.mv_int rfl rfl rfl ?_
    refine Ops.mv_int rfl rfl rfl ?_
    refine Ops.lss rfl rfl rfl ?_
    refine Ops.nil ?_
    refine thenQ_n ?_
    -- stop: cond
    refine Cd.cond_p _ rfl (fun h3 => ?_) (fun h3 => ?_)
    · have hj' : j < k := by omega
      have hE5 := hS5.oldRows hE
      have hrk := hE5.at_ (i := (k : Int)) (by omega) (by omega)
      have hrj := hE5.at_ (i := (j : Int)) (by omega) (by omega)
      have hck := hE5.cap_ (i := (k : Int)) (by omega) (by omega)
      refine Cd.skip ?_
      refine thenQ_n ?_
      refine Cd.seq ?_
      refine Cd.block ?_
      refine Cd.seq ?_
      -- stop: draw
      refine Cd.draw [.ex (.slice (A4) (edgesN xss) (edgesN xss)), .ex (.int .i64 ((k : Int))), .ex (.pointer (ptrAt (A4) ((k : Int)).toNat)), .ex (.slice ((rg (rs4) ((k : Int))).a) ((rg (rs4) ((k : Int))).n) ((rg (rs4) ((k : Int))).c)), .ex (.slice (A4) (edgesN xss) (edgesN xss)), .ex (.int .i64 ((j : Int))), .ex (.pointer (ptrAt (A4) ((j : Int)).toNat)), .ex (.slice ((rg (rs4) ((j : Int))).a) ((rg (rs4) ((j : Int))).n) ((rg (rs4) ((j : Int))).c)), .ex (.bool (decide (gl (endsL xss) (k : Int) = gl (endsL xss) (j : Int))))] (by kernel_rfl) (by kernel_rfl) rfl (List.forall_mem_cons.2 ⟨Yd.lasts_ex _, (List.forall_mem_cons.2 ⟨Yd.lasts_ex _, (List.forall_mem_cons.2 ⟨Yd.lasts_ex _, (List.forall_mem_cons.2 ⟨Yd.lasts_ex _, (List.forall_mem_cons.2 ⟨Yd.lasts_ex _, (List.forall_mem_cons.2 ⟨Yd.lasts_ex _, (List.forall_mem_cons.2 ⟨Yd.lasts_ex _, (List.forall_mem_cons.2 ⟨Yd.lasts_ex _, (List.forall_mem_cons.2 ⟨Yd.lasts_ex _, (fun _ h => by cases h)⟩)⟩)⟩)⟩)⟩)⟩)⟩)⟩)⟩) ⟨?_, ?_, ?_, ?_, ?_, ?_, ?_, ?_, ?_, trivial⟩ ?_
      · intro e1 w1 hb hp hun
        refine Ops.mv_sl rfl rfl rfl ?_
        refine Ops.nil ?_
        exact After.dn (Below.refl _ _) (by exact rfl)
      · intro e1 w1 hb hp hun
        refine Ops.mv_int rfl rfl rfl ?_
        refine Ops.nil ?_
        exact After.dn (Below.refl _ _) (by exact rfl)
      · intro e1 w1 hb hp hun
        refine Ops.idx (hE5.top.later hb).2 rfl rfl rfl (by omega) (by omega) ?_
        refine Ops.nil ?_
        exact After.dn (Below.refl _ _) (by exact rfl)
      · intro e1 w1 hb hp hun
        refine Ops.ld_sl (hE5.top.later hb) rfl (by omega) rfl rfl ?_
        refine Ops.nil ?_
        exact After.dn (Below.refl _ _) (by exact rfl)
      · intro e1 w1 hb hp hun
        refine Ops.mv_sl rfl rfl rfl ?_
        refine Ops.nil ?_
        exact After.dn (Below.refl _ _) (by exact rfl)
      · intro e1 w1 hb hp hun
        refine Ops.mv_int rfl rfl rfl ?_
        refine Ops.nil ?_
        exact After.dn (Below.refl _ _) (by exact rfl)
      · intro e1 w1 hb hp hun
        refine Ops.idx (hE5.top.later hb).2 rfl rfl rfl (by omega) (by omega) ?_
        refine Ops.nil ?_
        exact After.dn (Below.refl _ _) (by exact rfl)
      · intro e1 w1 hb hp hun
        refine Ops.ld_sl (hE5.top.later hb) rfl (by omega) rfl rfl ?_
        refine Ops.nil ?_
        exact After.dn (Below.refl _ _) (by exact rfl)
      · intro e1 w1 hb hp hun
        refine Ops.call (l01Same_c _ _ _ _ _ _ _ _ _ (hrk.later hb) (hrj.later hb) (by omega)) rfl rfl rfl ?_
        rintro _ w2 ⟨rfl, hst⟩
        refine Ops.nil ?_
        exact After.dn hst.below (by exact rfl)
      intro u w6 hb6 _
      have hS6 := hS5.later hb6
      refine thenQ_n ?_
      -- stop: cond
      refine Cd.cond_p _ rfl (fun h4 => ?_) (fun h4 => ?_)
      · refine Cd.seq ?_
        refine Cd.region ?_
        refine Ops.mv_int rfl rfl rfl ?_
        refine Ops.mv_int rfl rfl rfl ?_
        refine Ops.nil ?_
        refine thenQ_n ?_
        refine Cd.ret ?_
        refine blockQ_r ?_
        refine thenQ_r ?_
        refine thenQ_r ?_
        refine blockQ_r ?_
        refine blockQ_r ?_
        refine thenQ_r ?_
        refine thenQ_r ?_
        refine blockQ_r ?_
        refine thenQ_r ?_
        refine ret2_ii rfl rfl ?_
        -- stop: end
        have hgj : gl (endsL xss) (j : Int) ∈ (endsL xss).take k := by
          have e : gl (endsL xss) (j : Int) = (endsL xss)[j]'(by omega) := by simp [gl, List.getD_eq_getElem?_getD, show j < (endsL xss).length by omega]
          rw [e]
          exact List.mem_take_iff_getElem.2 ⟨j, by omega, rfl⟩
        have hgn := girN_double hnl (fun hN : (endsL xss).Nodup => (hnt.1 (hN.sublist (List.take_sublist _ _))).2 (by rw [h4]; exact hgj))
        exact ⟨by rw [hVf, hKf, hgn]; rfl, (hS3.later hS6.below).none⟩
      · refine Cd.skip ?_
        refine blockQ_n ?_
        refine thenQ_n ?_
        refine Cd.region ?_
        refine Ops.mv_int rfl rfl rfl ?_
        refine Ops.add rfl rfl rfl (by omega) ?_
        refine Ops.mv_int rfl rfl rfl ?_
        refine Ops.nil ?_
        refine thenQ_n ?_
        -- stop: round
        refine ⟨j + 1, by omega, ⟨rfl, rfl, rfl, rfl, trivial⟩, hS6, hj', fun i hi => ?_⟩
        by_cases ei : i = j
        · subst ei; exact h4
        · exact hne i (by omega)
    · have hje : j = k := by omega
      subst hje
      refine Cd.exit ?_
      refine thenQ_x ?_
      refine thenQ_x ?_
      refine blockQ_x ?_
      refine blockQ_n ?_
      refine thenQ_n ?_
      refine Cd.region ?_
      refine Ops.mv_int rfl rfl rfl ?_
      refine Ops.add rfl rfl rfl (by omega) ?_
      refine Ops.mv_int rfl rfl rfl ?_
      refine Ops.nil ?_
      refine thenQ_n ?_
      -- stop: round
      refine ⟨j + 1, by omega, ⟨rfl, rfl, rfl, trivial⟩, hS5, hk', hnt.2 ⟨hnd, fun hm => ?_⟩⟩
      obtain ⟨i, hi, e⟩ := List.mem_take_iff_getElem.1 hm
      have e2 : gl (endsL xss) (i : Int) = (endsL xss)[i] := by simp [gl, List.getD_eq_getElem?_getD, show i < (endsL xss).length by omega]
      exact hne i (by omega) (by rw [← e, e2])
  have hke : k = edgesN xss := by omega
  subst hke
  rw [show (endsL xss).take (edgesN xss) = endsL xss from List.take_of_length_le (by omega)] at hnd
  have hfin := girN_spec hnl hnd
  have hS4' := hS3.later hS4.below
  have hE4 := hS4.oldRows hE
  refine Cd.exit ?_
  refine thenQ_x ?_
  refine thenQ_x ?_
  refine blockQ_x ?_
  refine thenQ_n ?_
  refine Cd.seq ?_
  refine Cd.region ?_
  -- stop: LOAD 28 t1=toArray -> 52
  refine Ops.ld_agg 0 (hS4'.rd 0 rfl) rfl rfl rfl ?_
  refine Ops.call (l18Neighbours_c A n c rs xss _ (hS4'.oldRows hR) hG) rfl rfl rfl ?_
  rintro _ w5 ⟨A8, rs8, rfl, hrl8, hst5⟩
  have hN := hst5.rowsI (nbL_len xss)
  have hE5 := hE4.later hst5.below
  have hS5 := (hS4'.later hst5.below).none
  have hsp : ∀ (e : Nat), e ≤ edgesN xss → ∀ x ∈ (specW (endsL xss) (nbL xss)).take e, x ≤ (vertsN xss : Int) := fun e he x hx => by
    have hx := List.mem_of_mem_take hx
    unfold specW at hx
    obtain ⟨l, hl, rfl⟩ := List.mem_map.1 hx
    obtain ⟨j, hj, rfl⟩ := List.mem_iff_getElem.1 hl
    have e1 : (endsL xss)[j] = gl (endsL xss) (j : Int) := by simp [gl, List.getD_eq_getElem?_getD, hj]
    rw [e1]
    have hr := ends_rng hM j (hall j (by omega))
    have := way_small hg hr.1.1 hr.1.2 hr.2.1 hr.2.2
    omega
  have hspl : (specW (endsL xss) (nbL xss)).length = edgesN xss := by unfold specW; rw [List.length_map, hel]
  refine Ops.mv_sl rfl rfl rfl ?_
  refine Ops.mv_int rfl rfl rfl ?_
  refine Ops.nil ?_
  refine thenQ_n ?_
  refine Cd.seq ?_
  refine Cd.seq ?_
  refine Cd.region ?_
  refine Ops.mv_int rfl rfl rfl ?_
  refine Ops.nil ?_
  refine thenQ_n ?_
  refine Cd.block ?_
  -- stop: loop
  refine Cd.loop (α := Nat) (fun e => [(4, .slice A4 (edgesN xss) (edgesN xss)), (8, .slice A8 (vertsN xss) (vertsN xss)), (9, .int .i64 (encS (mnG ((specW (endsL xss) (nbL xss)).take e)))), (10, .int .i64 (e : Int))]) (fun e w' => St w5 w' [] ∧ e ≤ edgesN xss) (fun e => edgesN xss - e) 0 ⟨rfl, rfl, rfl, rfl, trivial⟩ ⟨St.refl _, Nat.zero_le _⟩ ?_
  rintro k e w6 ⟨hS6, hk⟩
  have hbm := mnG_bd (hsp k hk) (by omega)
  have hbe : -1 ≤ encS (mnG ((specW (endsL xss) (nbL xss)).take k)) ∧ encS (mnG ((specW (endsL xss) (nbL xss)).take k)) ≤ (vertsN xss : Int) + 1 := by unfold encS; split <;> omega
  refine Cd.seq ?_
  refine Cd.seq ?_
  refine Cd.region ?_
  refine Ops.mv_int rfl rfl rfl ?_
  refine Ops.mv_sl rfl rfl rfl ?_
  refine Ops.len rfl rfl ?_
  refine Ops.lss rfl rfl rfl ?_
  refine Ops.nil ?_
  refine thenQ_n ?_
  -- stop: cond
  refine Cd.cond_p _ rfl (fun h5 => ?_) (fun h5 => ?_)
  · have hk' : k < edgesN xss := by omega
    have h2k := hall k hk'
    have hE6 := hS6.oldRows hE5
    have hrow := hE6.at_ (i := (k : Int)) (by omega) (by omega)
    have hrn : (gl (endsL xss) (k : Int)).length = (rg rs4 (k : Int)).n := hrow.1
    have hr := ends_rng hM k h2k
    have hlt := ends_lt k h2k
    have hspk : gi (specW (endsL xss) (nbL xss)) (k : Int) = wayL (nbL xss) (gi (gl (endsL xss) (k : Int)) 0) (gi (gl (endsL xss) (k : Int)) 1) := by
      have e1 : (endsL xss)[k]'(by omega) = gl (endsL xss) (k : Int) := by simp [gl, List.getD_eq_getElem?_getD, hel, hk']
      rw [gi_mem (by omega)]
      unfold specW
      rw [List.getElem_map, e1]
    have hstep : mnG ((specW (endsL xss) (nbL xss)).take (k + 1)) = gstep (mnG ((specW (endsL xss) (nbL xss)).take k)) (wayL (nbL xss) (gi (gl (endsL xss) (k : Int)) 0) (gi (gl (endsL xss) (k : Int)) 1)) := by
      rw [take_succ_gi (by omega), mnG_snoc, hspk]
    refine Cd.skip ?_
    refine thenQ_n ?_
    refine Cd.seq ?_
    refine Cd.block ?_
    refine Cd.seq ?_
    -- stop: draw
    refine Cd.draw [.ex (.slice (A4) (edgesN xss) (edgesN xss)), .ex (.int .i64 ((k : Int))), .ex (.pointer (ptrAt (A4) ((k : Int)).toNat)), .ex (.slice ((rg (rs4) ((k : Int))).a) ((rg (rs4) ((k : Int))).n) ((rg (rs4) ((k : Int))).c)), .ex (.pointer (ptrAt ((rg (rs4) ((k : Int))).a) ((0 : Int)).toNat)), .ex (.int .i64 (gi (gl (endsL xss) (k : Int)) ((0 : Int)))), .ex (.slice (A4) (edgesN xss) (edgesN xss)), .ex (.int .i64 ((k : Int))), .ex (.pointer (ptrAt (A4) ((k : Int)).toNat)), .ex (.slice ((rg (rs4) ((k : Int))).a) ((rg (rs4) ((k : Int))).n) ((rg (rs4) ((k : Int))).c)), .ex (.pointer (ptrAt ((rg (rs4) ((k : Int))).a) ((1 : Int)).toNat)), .ex (.int .i64 (gi (gl (endsL xss) (k : Int)) ((1 : Int)))), .ex (.int .i64 (gi (gl (endsL xss) (k : Int)) ((0 : Int)))), .ex (.int .i64 (gi (gl (endsL xss) (k : Int)) ((1 : Int))))] (by kernel_rfl) (by kernel_rfl) rfl (List.forall_mem_cons.2 ⟨Yd.lasts_ex _, (List.forall_mem_cons.2 ⟨Yd.lasts_ex _, (List.forall_mem_cons.2 ⟨Yd.lasts_ex _, (List.forall_mem_cons.2 ⟨Yd.lasts_ex _, (List.forall_mem_cons.2 ⟨Yd.lasts_ex _, (List.forall_mem_cons.2 ⟨Yd.lasts_ex _, (List.forall_mem_cons.2 ⟨Yd.lasts_ex _, (List.forall_mem_cons.2 ⟨Yd.lasts_ex _, (List.forall_mem_cons.2 ⟨Yd.lasts_ex _, (List.forall_mem_cons.2 ⟨Yd.lasts_ex _, (List.forall_mem_cons.2 ⟨Yd.lasts_ex _, (List.forall_mem_cons.2 ⟨Yd.lasts_ex _, (List.forall_mem_cons.2 ⟨Yd.lasts_ex _, (List.forall_mem_cons.2 ⟨Yd.lasts_ex _, (fun _ h => by cases h)⟩)⟩)⟩)⟩)⟩)⟩)⟩)⟩)⟩)⟩)⟩)⟩)⟩)⟩) ⟨?_, ?_, ?_, ?_, ?_, ?_, ?_, ?_, ?_, ?_, ?_, ?_, ?_, ?_, trivial⟩ ?_
    · intro e1 w1 hb hp hun
      refine Ops.mv_sl rfl rfl rfl ?_
      refine Ops.nil ?_
      exact After.dn (Below.refl _ _) (by exact rfl)
    · intro e1 w1 hb hp hun
      refine Ops.mv_int rfl rfl rfl ?_
      refine Ops.nil ?_
      exact After.dn (Below.refl _ _) (by exact rfl)
    · intro e1 w1 hb hp hun
      refine Ops.idx (hE6.top.later hb).2 rfl rfl rfl (by omega) (by omega) ?_
      refine Ops.nil ?_
      exact After.dn (Below.refl _ _) (by exact rfl)
    · intro e1 w1 hb hp hun
      refine Ops.ld_sl (hE6.top.later hb) rfl (by omega) rfl rfl ?_
      refine Ops.nil ?_
      exact After.dn (Below.refl _ _) (by exact rfl)
    · intro e1 w1 hb hp hun
      refine Ops.idx (hrow.later hb).2 rfl rfl rfl (by omega) (by omega) ?_
      refine Ops.nil ?_
      exact After.dn (Below.refl _ _) (by exact rfl)
    · intro e1 w1 hb hp hun
      refine Ops.ld_int (hrow.later hb) rfl (by omega) rfl rfl ?_
      refine Ops.nil ?_
      exact After.dn (Below.refl _ _) (by exact rfl)
    · intro e1 w1 hb hp hun
      refine Ops.mv_sl rfl rfl rfl ?_
      refine Ops.nil ?_
      exact After.dn (Below.refl _ _) (by exact rfl)
    · intro e1 w1 hb hp hun
      refine Ops.mv_int rfl rfl rfl ?_
      refine Ops.nil ?_
      exact After.dn (Below.refl _ _) (by exact rfl)
    · intro e1 w1 hb hp hun
      refine Ops.idx (hE6.top.later hb).2 rfl rfl rfl (by omega) (by omega) ?_
      refine Ops.nil ?_
      exact After.dn (Below.refl _ _) (by exact rfl)
    · intro e1 w1 hb hp hun
      refine Ops.ld_sl (hE6.top.later hb) rfl (by omega) rfl rfl ?_
      refine Ops.nil ?_
      exact After.dn (Below.refl _ _) (by exact rfl)
    · intro e1 w1 hb hp hun
      refine Ops.idx (hrow.later hb).2 rfl rfl rfl (by omega) (by omega) ?_
      refine Ops.nil ?_
      exact After.dn (Below.refl _ _) (by exact rfl)
    · intro e1 w1 hb hp hun
      refine Ops.ld_int (hrow.later hb) rfl (by omega) rfl rfl ?_
      refine Ops.nil ?_
      exact After.dn (Below.refl _ _) (by exact rfl)
    · intro e1 w1 hb hp hun
      refine Ops.mv_int rfl rfl rfl ?_
      refine Ops.nil ?_
      exact After.dn (Below.refl _ _) (by exact rfl)
    · intro e1 w1 hb hp hun
      refine Ops.mv_int rfl rfl rfl ?_
      refine Ops.nil ?_
      exact After.dn (Below.refl _ _) (by exact rfl)
    intro u2 w7 hb7 _
    have hS7 := hS6.later hb7
    generalize hu : gi (gl (endsL xss) (k : Int)) 0 = u at *
    generalize hv : gi (gl (endsL xss) (k : Int)) 1 = v at *
    have hN7 := hS7.oldRows hN
    have hway := way_small hg hr.1.1 hr.1.2 hr.2.1 hr.2.2
    have hrrl : ∀ i, i < vertsN xss → (rs8.getD i slNil).n ≤ 1000000000 := fun i hi => by
      have h1 := (hN7.row i hi).1
      have h2 := (hg.row (i : Int) (by omega)).2
      simp only [gl, Int.toNat_natCast] at h2
      omega
    refine thenQ_n ?_
    refine Cd.seq ?_
    refine Cd.region ?_
    refine Ops.mv_sl rfl rfl rfl ?_
    -- stop: CALL spec.l01Own2(t72) -> 73
    refine Ops.call (l01Own2_c A8 (vertsN xss) (vertsN xss) rs8 (nbL xss) _ hN7 (by omega) hrrl) rfl rfl rfl ?_
    rintro _ w8 ⟨A13, c13, rs13, rfl, hrl13, hst8⟩
    have hS8 := hS7.call hst8
    rw [List.append_nil] at hS8
    have hN8 := hS8.oldRows hN
    have hru := hg.row u hr.1.1
    have hrv := hg.row v hr.2.1
    refine Ops.mv_sl rfl rfl rfl ?_
    refine Ops.nil ?_
    refine thenQ_n ?_
    refine Cd.seq ?_
    refine Cd.region ?_
    refine Ops.mv_sl rfl rfl rfl ?_
    refine Ops.mv_int rfl rfl rfl ?_
    refine Ops.mv_sl rfl rfl rfl ?_
    refine Ops.mv_int rfl rfl rfl ?_
    -- stop: INDEXADDR 22 t76 t77 -> 78
    refine Ops.idx hN8.top.2 rfl rfl rfl hr.1.1 hr.1.2 ?_
    refine Ops.ld_sl hN8.top rfl (by omega) rfl rfl ?_
    refine Ops.mv_int rfl rfl rfl ?_
    -- stop: BUILDSLICE 35 1 [('pair', [0, ('app', 'Go.Operand.tmp', [80])])] -> 81
    refine Ops.bs1I hS8 rfl rfl rfl ?_
    intro A81 w9 hS9
    have hra := (hS9.oldRows hN).at_ (i := u) hr.1.1 hr.1.2
    have hran : (gl (nbL xss) u).length = (rg rs8 u).n := hra.1
    refine Ops.call (l17Without_c _ _ _ (gl (nbL xss) u) A81 1 1 [v] _ hra (hS9.rdI 0 rfl) (by omega) (by omega)) rfl rfl rfl ?_
    rintro _ w10 ⟨A82, c82, rfl, hst10⟩
    have hS10 := hS9.call hst10
    have hS10 : St w5 w10 (CkI 2 A82 (lessL (gl (nbL xss) u) [v]).length c82 (lessL (gl (nbL xss) u) [v]) :: CkI 2 A81 1 1 [v] :: CkR 35 A13 (vertsN xss) c13 rs13 :: rowsCk 2 rs13 (nbL xss)) := hS10
    refine Ops.idx (hS10.rdR 2 rfl).2 rfl rfl rfl hr.1.1 hr.1.2 ?_
    refine Ops.st_sl 2 hS10 rfl rfl rfl (by omega) ?_
    intro w11 hS11
    have hS11 : St w5 w11 (CkI 2 A82 (lessL (gl (nbL xss) u) [v]).length c82 (lessL (gl (nbL xss) u) [v]) :: CkI 2 A81 1 1 [v] :: CkR 35 A13 (vertsN xss) c13 (rs13.set u.toNat ⟨A82, (lessL (gl (nbL xss) u) [v]).length, c82⟩) :: rowsCk 2 rs13 (nbL xss)) := hS11
    have hN11 := hS11.oldRows hN
    refine Ops.nil ?_
    refine thenQ_n ?_
    refine Cd.seq ?_
    refine Cd.region ?_
    refine Ops.mv_sl rfl rfl rfl ?_
    refine Ops.mv_int rfl rfl rfl ?_
    refine Ops.mv_sl rfl rfl rfl ?_
    refine Ops.mv_int rfl rfl rfl ?_
    -- stop: INDEXADDR 22 t86 t87 -> 88
    refine Ops.idx hN11.top.2 rfl rfl rfl hr.2.1 hr.2.2 ?_
    refine Ops.ld_sl hN11.top rfl (by omega) rfl rfl ?_
    refine Ops.mv_int rfl rfl rfl ?_
    -- stop: BUILDSLICE 35 1 [('pair', [0, ('app', 'Go.Operand.tmp', [90])])] -> 91
    refine Ops.bs1I hS11 rfl rfl rfl ?_
    intro A91 w12 hS12
    have hrb := (hS12.oldRows hN).at_ (i := v) hr.2.1 hr.2.2
    have hrbn : (gl (nbL xss) v).length = (rg rs8 v).n := hrb.1
    refine Ops.call (l17Without_c _ _ _ (gl (nbL xss) v) A91 1 1 [u] _ hrb (hS12.rdI 0 rfl) (by omega) (by omega)) rfl rfl rfl ?_
    rintro _ w13 ⟨A92, c92, rfl, hst13⟩
    have hS13 := hS12.call hst13
    have hS13 : St w5 w13 (CkI 2 A92 (lessL (gl (nbL xss) v) [u]).length c92 (lessL (gl (nbL xss) v) [u]) :: CkI 2 A91 1 1 [u] :: CkI 2 A82 (lessL (gl (nbL xss) u) [v]).length c82 (lessL (gl (nbL xss) u) [v]) :: CkI 2 A81 1 1 [v] :: CkR 35 A13 (vertsN xss) c13 (rs13.set u.toNat ⟨A82, (lessL (gl (nbL xss) u) [v]).length, c82⟩) :: rowsCk 2 rs13 (nbL xss)) := hS13
    refine Ops.idx (hS13.rdR 4 rfl).2 rfl rfl rfl hr.2.1 hr.2.2 ?_
    refine Ops.st_sl 4 hS13 rfl rfl rfl (by omega) ?_
    intro w14 hS14
    have hS14 : St w5 w14 ([CkI 2 A92 (lessL (gl (nbL xss) v) [u]).length c92 (lessL (gl (nbL xss) v) [u]), CkI 2 A91 1 1 [u], CkI 2 A82 (lessL (gl (nbL xss) u) [v]).length c82 (lessL (gl (nbL xss) u) [v]), CkI 2 A81 1 1 [v], CkR 35 A13 (vertsN xss) c13 ((rs13.set u.toNat ⟨A82, (lessL (gl (nbL xss) u) [v]).length, c82⟩).set v.toNat ⟨A92, (lessL (gl (nbL xss) v) [u]).length, c92⟩)] ++ (rowsCk 2 rs13 (nbL xss) ++ [])) := by
      rw [List.append_nil]; exact hS14
    have hW := ((hS14.rowsW hrl13 (nbL_len xss)).put u.toNat (s := ⟨A82, (lessL (gl (nbL xss) u) [v]).length, c82⟩) (hS14.rdI 2 rfl) (hS14.cap 2 rfl)).put v.toNat (s := ⟨A92, (lessL (gl (nbL xss) v) [u]).length, c92⟩) (hS14.rdI 0 rfl) (hS14.cap 0 rfl)
    have hI := hW.I (hS14.rdR 4 rfl)
    have hI : RowsI w14 A13 (vertsN xss) _ (restL (nbL xss) u v) := hI
    have hgr := rest_gr hg hr.1.1 hr.1.2 hr.2.1 hr.2.2
    refine Ops.nil ?_
    refine thenQ_n ?_
    refine Cd.seq ?_
    refine Cd.region ?_
    refine Ops.mv_sl rfl rfl rfl ?_
    refine Ops.mv_int rfl rfl rfl ?_
    -- stop: CALL spec.l18Distances(t94, t95, -1) -> 96
    refine Ops.call (l18Distances_c A13 (vertsN xss) c13 _ (restL (nbL xss) u v) u (-1) _ hI hgr hr.1.1 hr.1.2) rfl rfl rfl ?_
    rintro _ w15 ⟨A96, rfl, hst15⟩
    have hS15 := (hS14.later hst15.below).none
    have hD := hst15.rdI 0 rfl
    refine Ops.mv_int rfl rfl rfl ?_
    -- stop: INDEXADDR 35 t96 t97 -> 98
    refine Ops.idx hD.2 rfl rfl rfl hr.2.1 hr.2.2 ?_
    refine Ops.ld_int hD rfl (by omega) rfl rfl ?_
    rw [show gi (distP (restL (nbL xss) u v) (-1) u).1 v = wayL (nbL xss) u v from rfl]
    generalize wayL (nbL xss) u v = wy at *
    have hes := encS_step (g := mnG ((specW (endsL xss) (nbL xss)).take k)) (w := wy) hbm.1
    rw [← hstep] at hes
    generalize encS (mnG ((specW (endsL xss) (nbL xss)).take k)) = b at *
    refine Ops.mv_int rfl rfl rfl ?_
    refine Ops.nil ?_
    refine thenQ_n ?_
    refine Cd.seq ?_
    refine Cd.region ?_
    refine Ops.mv_int rfl rfl rfl ?_
    refine Ops.gtr rfl rfl rfl ?_
    refine Ops.mv_bool rfl rfl rfl ?_
    -- stop: guard 102
    refine Ops.split_p 102 rfl (fun h6 => ?_) (fun h6 => ?_)
    · refine Ops.rung rfl rfl rfl ?_
      refine Ops.mv_int rfl rfl rfl ?_
      refine Ops.rung rfl rfl rfl ?_
      refine Ops.lss rfl rfl rfl ?_
      refine Ops.rung rfl rfl rfl ?_
      refine Ops.mv_bool rfl rfl rfl ?_
      -- stop: guard 105
      refine Ops.split_p 105 rfl (fun h7 => ?_) (fun h7 => ?_)
      · rw [if_pos ⟨h6, .inl h7⟩] at hes
        refine Ops.skipg rfl rfl rfl rfl rfl ?_
        refine Ops.skipg rfl rfl rfl rfl rfl ?_
        refine Ops.skipg rfl rfl rfl rfl rfl ?_
        refine Ops.skipg rfl rfl rfl rfl rfl ?_
        refine Ops.rung rfl rfl rfl ?_
        refine Ops.pick_t rfl rfl rfl ?_
        refine Ops.pick_t rfl rfl rfl ?_
        refine Ops.nil ?_
        refine thenQ_n ?_
        -- stop: cond
        refine Cd.cond_t rfl ?_
        refine Cd.region ?_
        refine Ops.mv_int rfl rfl rfl ?_
        refine Ops.add rfl rfl rfl (by omega) ?_
        refine Ops.mv_int rfl rfl rfl ?_
        refine Ops.nil ?_
        refine blockQ_n ?_
        refine thenQ_n ?_
        refine Cd.region ?_
        refine Ops.mv_int rfl rfl rfl ?_
        refine Ops.add rfl rfl rfl (by omega) ?_
        refine Ops.mv_int rfl rfl rfl ?_
        refine Ops.nil ?_
        refine thenQ_n ?_
        -- stop: round
        exact ⟨k + 1, by omega, ⟨rfl, rfl, by show Value.int .i64 _ = .int .i64 _; rw [hes], rfl, trivial⟩, hS15, hk'⟩
      · refine Ops.rung rfl rfl rfl ?_
        refine Ops.mv_int rfl rfl rfl ?_
        refine Ops.rung rfl rfl rfl ?_
        refine Ops.add rfl rfl rfl (by omega) ?_
        refine Ops.rung rfl rfl rfl ?_
        refine Ops.mv_int rfl rfl rfl ?_
        refine Ops.rung rfl rfl rfl ?_
        refine Ops.lss rfl rfl rfl ?_
        refine Ops.rung rfl rfl rfl ?_
        refine Ops.pick_f rfl rfl rfl ?_
        refine Ops.pick_t rfl rfl rfl ?_
        refine Ops.nil ?_
        refine thenQ_n ?_
        -- stop: cond
        refine Cd.cond_p _ rfl (fun h8 => ?_) (fun h8 => ?_)
        · rw [if_pos ⟨h6, .inr h8⟩] at hes
          refine Cd.region ?_
          refine Ops.mv_int rfl rfl rfl ?_
          refine Ops.add rfl rfl rfl (by omega) ?_
          refine Ops.mv_int rfl rfl rfl ?_
          refine Ops.nil ?_
          refine blockQ_n ?_
          refine thenQ_n ?_
          refine Cd.region ?_
          refine Ops.mv_int rfl rfl rfl ?_
          refine Ops.add rfl rfl rfl (by omega) ?_
          refine Ops.mv_int rfl rfl rfl ?_
          refine Ops.nil ?_
          refine thenQ_n ?_
          -- stop: round
          exact ⟨k + 1, by omega, ⟨rfl, rfl, by show Value.int .i64 _ = .int .i64 _; rw [hes], rfl, trivial⟩, hS15, hk'⟩
        · rw [if_neg (fun h => h.2.elim h7 h8)] at hes
          refine Cd.skip ?_
          refine blockQ_n ?_
          refine thenQ_n ?_
          refine Cd.region ?_
          refine Ops.mv_int rfl rfl rfl ?_
          refine Ops.add rfl rfl rfl (by omega) ?_
          refine Ops.mv_int rfl rfl rfl ?_
          refine Ops.nil ?_
          refine thenQ_n ?_
          -- stop: round
          exact ⟨k + 1, by omega, ⟨rfl, rfl, by show Value.int .i64 _ = .int .i64 _; rw [hes], rfl, trivial⟩, hS15, hk'⟩
    · rw [if_neg (fun h => h6 h.1)] at hes
      refine Ops.skipg rfl rfl rfl rfl rfl ?_
      refine Ops.skipg rfl rfl rfl rfl rfl ?_
      refine Ops.skipg rfl rfl rfl rfl rfl ?_
      refine Ops.skipu rfl rfl rfl rfl ?_
      refine Ops.skipu rfl rfl rfl rfl ?_
      refine Ops.skipu rfl rfl rfl rfl ?_
      refine Ops.skipu rfl rfl rfl rfl ?_
      refine Ops.skipg rfl rfl rfl rfl rfl ?_
      refine Ops.pick_f rfl rfl rfl ?_
      refine Ops.nil ?_
      refine thenQ_n ?_
      -- stop: cond
      refine Cd.cond_f rfl ?_
      refine Cd.skip ?_
      refine blockQ_n ?_
      refine thenQ_n ?_
      refine Cd.region ?_
      refine Ops.mv_int rfl rfl rfl ?_
      refine Ops.add rfl rfl rfl (by omega) ?_
      refine Ops.mv_int rfl rfl rfl ?_
      refine Ops.nil ?_
      refine thenQ_n ?_
      -- stop: round
      exact ⟨k + 1, by omega, ⟨rfl, rfl, by show Value.int .i64 _ = .int .i64 _; rw [hes], rfl, trivial⟩, hS15, hk'⟩
  · have hke : k = edgesN xss := by omega
    subst hke
    rw [show (specW (endsL xss) (nbL xss)).take (edgesN xss) = specW (endsL xss) (nbL xss) from List.take_of_length_le (by omega), ← hfin] at hbm ⊢
    rw [hVf, hKf]
    refine Cd.exit ?_
    refine thenQ_x ?_
    refine thenQ_x ?_
    refine blockQ_x ?_
    refine thenQ_n ?_
    refine Cd.seq ?_
    refine Cd.seq ?_
    refine Cd.region ?_
    refine Ops.mv_int rfl rfl rfl ?_
    refine Ops.lss rfl rfl rfl ?_
    refine Ops.nil ?_
    refine thenQ_n ?_
    -- stop: cond
    refine Cd.cond_p _ rfl (fun h6 => ?_) (fun h6 => ?_)
    · have h0 : girN xss = 0 := by
        unfold encS at h6
        split at h6
        · assumption
        · omega
      refine Cd.seq ?_
      refine Cd.region ?_
      refine Ops.mv_int rfl rfl rfl ?_
      refine Ops.mv_int rfl rfl rfl ?_
      refine Ops.nil ?_
      refine thenQ_n ?_
      refine Cd.ret ?_
      refine thenQ_r ?_
      refine ret2_ii rfl rfl ?_
      -- stop: end
      exact ⟨by rw [h0]; rfl, hS5.later hS6.below⟩
    · have h0 : girN xss ≠ 0 := fun h => h6 (by rw [h]; decide)
      refine Cd.skip ?_
      refine thenQ_n ?_
      refine Cd.seq ?_
      refine Cd.region ?_
      refine Ops.mv_int rfl rfl rfl ?_
      refine Ops.mv_int rfl rfl rfl ?_
      refine Ops.mv_int rfl rfl rfl ?_
      refine Ops.nil ?_
      refine thenQ_n ?_
      refine Cd.ret ?_
      refine ret2_ii rfl rfl ?_
      -- stop: end
      exact ⟨by rw [if_neg h0]; unfold encS; rw [if_neg h0], hS5.later hS6.below⟩

theorem implGirthOf_c (A : Option Addr) (n c : Nat) (rs : List SlV) (xss : List (List Int)) (w : World) (hT : Tab w) (hR : RowsI w A n rs xss) (hn : n ≤ c) (hc : c ≤ 9223372036854775807) :
    Ret Tryz.prog 7 [.agg #[.slice A n c]] w (fun v w' => v = .tuple #[.int .i64 (girV xss), .int .i64 (girK xss)] ∧ St w w' []) := by
  refine Ret.of_cd Tryz.func7 rfl Tryz.ntmps7 rfl (post2 rfl) ?_
  refine Cd.seq ?_
  refine Cd.region ?_
  -- stop: BOX 28 t0=m -> 1
  refine Ops.box1 (St.refl w) rfl rfl ?_
  intro Ab w1 hS1
  refine Ops.mv_int rfl rfl rfl ?_
  refine Ops.mv_int rfl rfl rfl ?_
  refine Ops.nil ?_
  refine thenQ_n ?_
  refine Cd.seq ?_
  refine Cd.region ?_
  -- stop: LOAD 28 t1=m -> 8
  refine Ops.ld_agg 0 (hS1.rd 0 rfl) rfl rfl rfl ?_
  refine Ops.call (graphOf_c A n c rs xss none 0 0 [] _ (hS1.oldRows hR) hn hc RdI.nil (by omega)) rfl rfl rfl ?_
  rintro _ w3 ⟨A3, c3, rs3, rfl, hrl, hst3⟩
  have hS3 := hS1.later hst3.below
  rw [goK_nil] at *
  refine Ops.mv_tup rfl rfl rfl ?_
  refine Ops.extract rfl rfl rfl ?_
  refine Ops.extract rfl rfl rfl ?_
  refine Ops.mv_sl rfl rfl rfl ?_
  refine Ops.mv_int rfl rfl rfl ?_
  refine Ops.nil ?_
  refine thenQ_n ?_
  refine Cd.seq ?_
  refine Cd.seq ?_
  refine Cd.region ?_
  refine Ops.mv_int rfl rfl rfl ?_
  refine Ops.neq rfl rfl rfl ?_
  refine Ops.nil ?_
  refine thenQ_n ?_
  -- stop: cond
  refine Cd.cond_p _ rfl (fun h => ?_) (fun h => ?_)
  · have hnG : ¬ Grph xss := fun hG => h (by rw [petrieK, if_pos hG])
    refine Cd.seq ?_
    refine Cd.region ?_
    refine Ops.mv_int rfl rfl rfl ?_
    refine Ops.mv_int rfl rfl rfl ?_
    refine Ops.mv_int rfl rfl rfl ?_
    refine Ops.nil ?_
    refine thenQ_n ?_
    refine Cd.ret ?_
    refine thenQ_r ?_
    refine ret2_ii rfl rfl ?_
    -- stop: end
    refine ⟨?_, hS3.none⟩
    rw [petrieK, if_neg hnG, girV, girK, if_neg hnG, if_pos hnG]
  · have hG : Grph xss := by
      apply Classical.byContradiction
      intro hG
      exact h (by rw [petrieK, if_neg hG]; decide)
    have hVf : girV xss = girN xss := by unfold girV; rw [if_pos hG]
    have hKf : girK xss = if girN xss = 0 then 4 else 0 := by unfold girK; rw [if_neg (fun h => h hG)]
    rw [goL_nil hG, nbL_len] at *
    have hN3 := hst3.rowsI (nbL_len xss)
    refine Cd.skip ?_
    refine thenQ_n ?_
    refine Cd.seq ?_
    refine Cd.region ?_
    -- stop: LOAD 28 t1=m -> 15
    refine Ops.ld_agg 0 (hS3.rd 0 rfl) rfl rfl rfl ?_
    refine Ops.call (endsOf_c A n c rs xss _ (hS3.oldRows hR) hG) rfl rfl rfl ?_
    rintro _ w4 ⟨A4, rs4, rfl, hrl4, hst4⟩
    have hE4 := hst4.rowsI (endsL_len xss)
    have hS4 := hS3.later hst4.below
    refine Ops.mv_sl rfl rfl rfl ?_
    -- stop: CALL impl.girthOf(t16, t17) -> 18
    refine Ops.call (girthOf_c A4 (edgesN xss) (edgesN xss) rs4 xss A3 c3 rs3 _ (hT.later hS4.below) hG hE4 (hN3.later hst4.below) rfl) rfl rfl rfl ?_
    rintro _ w5 ⟨rfl, hst5⟩
    have hS5 := hS4.later hst5.below
    rw [hVf, hKf]
    refine Ops.mv_int rfl rfl rfl ?_
    refine Ops.nil ?_
    refine thenQ_n ?_
    refine Cd.seq ?_
    refine Cd.seq ?_
    refine Cd.region ?_
    refine Ops.mv_int rfl rfl rfl ?_
    refine Ops.eql rfl rfl rfl ?_
    refine Ops.nil ?_
    refine thenQ_n ?_
    -- stop: cond
    refine Cd.cond_p _ rfl (fun h6 => ?_) (fun h6 => ?_)
    · refine Cd.seq ?_
      refine Cd.region ?_
      refine Ops.mv_int rfl rfl rfl ?_
      refine Ops.mv_int rfl rfl rfl ?_
      refine Ops.nil ?_
      refine thenQ_n ?_
      refine Cd.ret ?_
      refine thenQ_r ?_
      refine ret2_ii rfl rfl ?_
      -- stop: end
      exact ⟨by rw [h6]; rfl, hS5.none⟩
    · refine Cd.skip ?_
      refine thenQ_n ?_
      refine Cd.seq ?_
      refine Cd.region ?_
      refine Ops.mv_int rfl rfl rfl ?_
      refine Ops.mv_int rfl rfl rfl ?_
      refine Ops.mv_int rfl rfl rfl ?_
      refine Ops.nil ?_
      refine thenQ_n ?_
      refine Cd.ret ?_
      refine ret2_ii rfl rfl ?_
      -- stop: end
      exact ⟨by rw [if_neg h6], hS5.none⟩
theorem FnExactGirthOf_c (A : Option Addr) (n c : Nat) (rs : List SlV) (xss : List (List Int)) (w : World) (hT : Tab w) (hR : RowsI w A n rs xss) (hn : n ≤ 9223372036854775807) :
    Ret Tryz.prog 3 [.agg #[.slice A n c]] w (fun v w' => v = .bool true ∧ St w w' []) := by
  have hxl := hR.len
  refine Ret.of_cd Tryz.func3 rfl Tryz.ntmps3 rfl (post1 rfl) ?_
  refine Cd.seq ?_
  refine Cd.region ?_
  -- stop: BOX 24 t0=aM -> 1
  refine Ops.box1 (St.refl w) rfl rfl ?_
  intro Ab w1 hS
  refine Ops.mv_bool rfl rfl rfl ?_
  refine Ops.nil ?_
  refine thenQ_n ?_
  refine Cd.seq ?_
  refine Cd.region ?_
  refine Ops.mv_int rfl rfl rfl ?_
  refine Ops.nil ?_
  refine thenQ_n ?_
  refine Cd.seq ?_
  refine Cd.region ?_
  -- stop: LOAD 24 t1=aM -> 9
  refine Ops.ld_agg 0 (hS.rd 0 rfl) rfl rfl rfl ?_
  refine Ops.mv_int rfl rfl rfl ?_
  -- stop: CALL laws.szManiplex(t9, t10) -> 11
  refine Ops.call (szManiplex_c A n c rs xss 1048576 _ (hS.oldRows hR) hn (by omega)) rfl rfl rfl ?_
  rintro _ w2 ⟨rfl, hst⟩
  have hS := hS.later hst.below
  refine Ops.mv_int rfl rfl rfl ?_
  refine Ops.nil ?_
  refine thenQ_n ?_
  refine Cd.seq ?_
  refine Cd.seq ?_
  refine Cd.region ?_
  refine Ops.mv_int rfl rfl rfl ?_
  refine Ops.lss rfl rfl rfl ?_
  refine Ops.nil ?_
  refine thenQ_n ?_
  -- stop: cond
  refine Cd.cond_p _ rfl (fun h1 => ?_) (fun h1 => ?_)
  · refine Cd.seq ?_
    refine Cd.region ?_
    refine Ops.mv_bool rfl rfl rfl ?_
    refine Ops.nil ?_
    refine thenQ_n ?_
    refine Cd.ret ?_
    refine thenQ_r ?_
    refine ret1_b rfl ?_
    -- stop: end
    exact ⟨rfl, hS.none⟩
  have hfit := fits_of hR.top.1 (by omega) (Int.not_lt.1 h1)
  refine Cd.skip ?_
  refine thenQ_n ?_
  refine Cd.seq ?_
  refine Cd.region ?_
  -- stop: LOAD 24 t1=aM -> 15
  refine Ops.ld_agg 0 (hS.rd 0 rfl) rfl rfl rfl ?_
  refine Ops.call (toManiplex_c A n c rs xss _ (hS.oldRows hR) hfit) rfl rfl rfl ?_
  rintro _ w3 ⟨A1, rs1, rfl, hrl1, hst1⟩
  refine Ops.call (specGirthOf_c A1 n n rs1 xss _ (St.rowsI (ks := []) (by rwa [List.append_nil]) hxl) hn) rfl rfl rfl ?_
  rintro _ w4 ⟨rfl, hst2⟩
  have hS4 := (hS.later hst1.below).later hst2.below
  refine Ops.mv_tup rfl rfl rfl ?_
  refine Ops.extract rfl rfl rfl ?_
  refine Ops.extract rfl rfl rfl ?_
  refine Ops.mv_int rfl rfl rfl ?_
  refine Ops.mv_int rfl rfl rfl ?_
  refine Ops.nil ?_
  refine thenQ_n ?_
  refine Cd.seq ?_
  refine Cd.region ?_
  -- stop: LOAD 24 t1=aM -> 20
  refine Ops.ld_agg 0 (hS4.rd 0 rfl) rfl rfl rfl ?_
  refine Ops.call (toManiplex_c A n c rs xss _ (hS4.oldRows hR) hfit) rfl rfl rfl ?_
  rintro _ w5 ⟨A2, rs2, rfl, hrl2, hst3⟩
  have hS5 := hS4.call2 hst3
  refine Ops.new1 hS5 rfl ?_
  intro A6 w6 hS6
  refine Ops.st_agg 1 0 hS6 rfl rfl rfl rfl rfl rfl rfl ?_
  intro w7 hS7
  have hS7 : St w w7 ([Bx 28 1 A6 [.slice A2 n n], Bx 24 1 Ab [.slice A n c]] ++ mat 35 2 A2 n n rs2 xss) := hS7
  refine Ops.nil ?_
  refine thenQ_n ?_
  refine Cd.seq ?_
  refine Cd.region ?_
  -- stop: LOAD 28 t6=x0 -> 23
  refine Ops.ld_agg 0 (hS7.rd 0 rfl) rfl rfl rfl ?_
  refine Ops.call (implGirthOf_c A2 n n rs2 xss _ (hT.later hS7.below) ((hS7.matNil.sub (List.sublist_append_right _ _)).rowsI hxl) (Nat.le_refl _) hn) rfl rfl rfl ?_
  rintro _ w8 ⟨rfl, hst4⟩
  have hS8 := (hS7.later hst4.below).matNil (pre := [_, _])
  refine Ops.mv_tup rfl rfl rfl ?_
  refine Ops.extract rfl rfl rfl ?_
  refine Ops.extract rfl rfl rfl ?_
  refine Ops.mv_int rfl rfl rfl ?_
  refine Ops.mv_int rfl rfl rfl ?_
  refine Ops.nil ?_
  refine thenQ_n ?_
  refine Cd.seq ?_
  refine Cd.seq ?_
  refine Cd.region ?_
  refine Ops.mv_int rfl rfl rfl ?_
  refine Ops.mv_int rfl rfl rfl ?_
  refine Ops.neq rfl rfl rfl ?_
  refine Ops.mv_bool rfl rfl rfl ?_
  -- stop: guard 30
  refine Ops.split_p 30 rfl (fun h => absurd rfl h) (fun _ => ?_) --f
  refine Ops.rung rfl rfl rfl ?_
  refine Ops.mv_int rfl rfl rfl ?_
  refine Ops.rung rfl rfl rfl ?_
  refine Ops.mv_int rfl rfl rfl ?_
  refine Ops.rung rfl rfl rfl ?_
  refine Ops.neq rfl rfl rfl ?_
  refine Ops.pick_f rfl rfl rfl ?_
  refine Ops.nil ?_
  refine thenQ_n ?_
  -- stop: cond
  refine Cd.cond_pf rfl (fun h => h rfl) ?_
  refine Cd.skip ?_
  refine thenQ_n ?_
  refine Cd.seq ?_
  refine Cd.seq ?_
  -- stop: draw
  have hM8 := (hS8.sub (List.sublist_append_right _ _)).rowsI hxl
  have hR8 := hS8.oldRows hR
  refine Cd.draw [.ex (.agg #[.slice (A2) (n) (n)]), .ex (.agg #[.slice (A) (n) (c)]), .pr (fun v w' => ∃ D rd, v = .agg #[.slice D n n] ∧ RowsI w' D n rd xss), .ex (.bool (true)), .ex (.bool (false))] (by kernel_rfl) (by kernel_rfl) rfl (List.forall_mem_cons.2 ⟨Yd.lasts_ex _, (List.forall_mem_cons.2 ⟨Yd.lasts_ex _, (List.forall_mem_cons.2 ⟨Yd.lasts_pr (fun v w w' h hb => by obtain ⟨D, rd, hv, h1⟩ := h; exact ⟨D, rd, hv, h1.later hb⟩), (List.forall_mem_cons.2 ⟨Yd.lasts_ex _, (List.forall_mem_cons.2 ⟨Yd.lasts_ex _, (fun _ h => by cases h)⟩)⟩)⟩)⟩)⟩) ⟨?_, ?_, ?_, ?_, ?_, trivial⟩ ?_
  · intro e1 w1 hb hp hun
    refine Ops.ld_agg 0 ((hS8.rd 0 rfl).below hb) rfl rfl rfl ?_
    refine Ops.nil ?_
    exact After.dn (Below.refl _ _) (by exact rfl)
  · intro e1 w1 hb hp hun
    refine Ops.ld_agg 0 ((hS8.rd 1 rfl).below hb) rfl rfl rfl ?_
    refine Ops.nil ?_
    exact After.dn (Below.refl _ _) (by exact rfl)
  · intro e1 w1 hb hp hun
    refine Ops.call (toManiplex_c A n c rs xss _ (hR8.later hb) hfit) rfl rfl rfl ?_
    rintro _ w2 ⟨D, rd, rfl, hrd, hst⟩
    refine Ops.nil ?_
    exact After.dn hst.below ⟨D, rd, rfl, St.rowsI (ks := []) (by rwa [List.append_nil]) hxl⟩
  · intro e1 w1 hb hp hun
    obtain ⟨D, rd, h43, h1⟩ := (hp 2 (by decide) rfl _ _ rfl rfl)
    refine Ops.call (eqManiplex_c A2 n n rs2 xss D n n rd xss _ (hM8.later hb) h1 hn) rfl (by exact congrArg (fun v => [Value.agg #[.slice A2 n n], v]) h43) rfl ?_
    rintro _ w2 ⟨rfl, hst⟩
    refine Ops.nil ?_
    exact After.dn hst.below (by exact congrArg Value.bool (decide_eq_true rfl))
  · intro e1 w1 hb hp hun
    refine Ops.not rfl rfl ?_
    refine Ops.nil ?_
    exact After.dn (Below.refl _ _) (by exact congrArg Value.bool (rfl))
  intro u w10 hb10 _
  have hS10 := hS8.later hb10
  refine thenQ_n ?_
  -- stop: cond
  refine Cd.cond_f rfl ?_
  refine Cd.skip ?_
  refine thenQ_n ?_
  refine Cd.seq ?_
  refine Cd.region ?_
  refine Ops.mv_bool rfl rfl rfl ?_
  refine Ops.nil ?_
  refine thenQ_n ?_
  refine Cd.ret ?_
  refine ret1_b rfl ?_
  -- stop: end
  exact ⟨rfl, hS10.none⟩
end Go.Proofs.YtgobjpcankaicaaGreatDoor.Vc
/-
  A statement's frame: the arguments opened, and what a walk gives told in the statement's own words. Conditions: as each states them.
-/
namespace Go.Proofs.YtgobjpcankaicaaGreatDoor.Vc
open Go.RowKit Go.ChangeShapes Go.WideShapes

theorem laid : laidOutB Tryz.prog = true := by kernel_rfl
theorem own : ownKnob Tryz.prog.godebug = none := by kernel_rfl

section
variable {H : Type} {enc : TypeId × Value → H} {P : Program}
theorem open_mat {w : World} {t e q : TypeId} {fuel : Nat} {cs : List Value} {x : DataW H × List MemPlace} (ht : P.underlying t = some (.slice e)) (he : P.underlying e = some (.slice q)) (hq : P.underlying q = some (.int .i64)) (ce : P.cellsOf e = 1) (cq : P.cellsOf q = 1)
    (h : DataW.trod enc P w 0 (fun _ => true) true fuel t cs = some x) : ∃ A n c rs xss, cs = [.slice A n c] ∧ RowsI w A n rs xss ∧ n ≤ c ∧ c ≤ 9223372036854775807 := by
  rcases Go.Deep.open_int_rows ht he hq ce cq h with ⟨rfl, _⟩ | ⟨a, len, cap, A, L, C, Z, rfl, _, hl, hm, _, hc⟩
  · exact ⟨none, 0, 0, [], [], rfl, RowsI.nil w, Nat.le_refl _, by omega⟩
  · refine ⟨some a, len, cap, (List.range len).map fun r => ⟨A r, L r, C r⟩, (List.range len).map fun r => (Z r).take (L r), rfl, ⟨⟨by simp, fun k hk => ?_⟩, by simp, fun i hi => ?_, fun i hi => ?_⟩, hl, by simpa [maxLen] using hm⟩
    · have := (hc k (by omega)).1
      exact ⟨a.add k, rfl, by rw [this]; simp [List.getD_eq_getElem?_getD, hk, SlV.v]⟩
    · have h1 := hc i (by omega)
      have e1 : ((List.range len).map fun r => (⟨A r, L r, C r⟩ : SlV)).getD i slNil = ⟨A i, L i, C i⟩ := by simp [List.getD_eq_getElem?_getD, hi]
      have e2 : ((List.range len).map fun r => (Z r).take (L r)).getD i [] = (Z i).take (L i) := by simp [List.getD_eq_getElem?_getD, hi]
      rw [e1, e2]
      refine ⟨by simp; omega, fun k hk => ?_⟩
      have hk' : k < L i := hk
      cases hA : A i with
      | none => have := h1.2.2.2.2.2.1 hA; omega
      | some a' =>
        have h2 := (h1.2.2.2.2.2.2 a' hA).2 k (by omega)
        exact ⟨a'.add k, rfl, by rw [h2]; simp [List.getD_eq_getElem?_getD, List.getElem?_take, hk']⟩
    · have h1 := hc i (by omega)
      have e1 : ((List.range len).map fun r => (⟨A r, L r, C r⟩ : SlV)).getD i slNil = ⟨A i, L i, C i⟩ := by simp [List.getD_eq_getElem?_getD, hi]
      rw [e1]
      exact ⟨h1.2.1, h1.2.2.1⟩

theorem trodAll_stays (hl : laidOutB P = true) {W W' : World} (hb : Below W.heap.size W W') {sp : Nat → Bool} : ∀ {ts : List TypeId} {vs : List Value} {ds : List (DataW H)} {ps : List MemPlace}, (ts.all fun t => P.readableRec t && Nat.blt t P.types.size) = true → (∀ p ∈ ps, p.block < W.heap.size) → (∀ p ∈ ps, sp p.block = true) →
    DataW.TrodAll enc P W 0 (fun _ => true) true ts vs ds ps → DataW.TrodAll enc P W' 0 sp true ts vs ds ps
  | [], [], [], _, _, _, _, h => h
  | t :: ts, v :: vs, d :: ds, ps, hr, hlt, hsp, h => by
    obtain ⟨p, q, h1, h2, rfl⟩ := h
    simp only [List.all_cons, Bool.and_eq_true] at hr
    exact ⟨p, q, WideElems.Trod_stays hl hr.1.1 (by simpa [Nat.blt_eq] using hr.1.2) h1 (fun x hx => hb.same (hlt x (by simp [hx]))) (fun x hx => hsp x (by simp [hx])), trodAll_stays hl hb hr.2 (fun x hx => hlt x (by simp [hx])) (fun x hx => hsp x (by simp [hx])) h2, rfl⟩
  | [], [], _ :: _, _, _, _, _, h => h.elim
  | [], _ :: _, _, _, _, _, _, h => by cases h
  | _ :: _, [], _, _, _, _, _, h => by cases h
  | _ :: _, _ :: _, [], _, _, _, _, h => by cases h

/-- what a law's walk gives, in its statement's words: it returns true, and its arguments read as they did -/
theorem post_law {f : Func} {s : ChangeSpec} {apart : Bool} {W W' : World} {args : Array Value} {ds gs : List (DataW H)} {before : List MemPlace} (hl : laidOutB P = true) {b : TypeId} (hu : P.underlying b = some .bool) (hres : f.resultTypes = #[b]) (hv : s.vars = [])
    (hr : (f.params.toList.all fun t => P.readableRec t && Nat.blt t P.types.size) = true) (hfn : (s.fn H (ds ++ gs)).results = [.lit (.bool true)] ∧ (s.fn H (ds ++ gs)).args = ds ∧ (s.fn H (ds ++ gs)).vars = [])
    (hW : DataW.Whole enc P f.params.toList s.vars apart W args.toList ds gs before) (hb : Below W.heap.size W W') : s.post enc P f apart true false false W args (.bool true) W' := by
  have hlt : ∀ x ∈ before, x.block < W.heap.size := fun x hx => hW.lt x hx
  have hW0 := hW
  obtain ⟨p, q, hA, hV, rfl, hz, hn⟩ := hW
  rw [hv] at hV
  obtain ⟨rfl, rfl⟩ := trodVars_none hV
  have hlp : ∀ x ∈ p, x.block < W.heap.size := fun x hx => hlt x (by simp [hx])
  have hA' : ∀ sp : Nat → Bool, (∀ x ∈ p, sp x.block = true) → DataW.TrodAll enc P W' 0 sp true f.params.toList args.toList (s.fn H (ds ++ [])).args p := fun sp hsp => by
    rw [hfn.2.1]
    exact trodAll_stays hl hb hr hlp hsp hA
  have hR' : ∀ (b0 : Nat) (sp : Nat → Bool) (hd : Bool), DataW.TrodAll enc P W' b0 sp hd f.resultTypes.toList ((Value.bool true).resultList f.resultTypes.size) (s.fn H (ds ++ [])).results [] := fun b0 sp hd => by
    rw [hfn.1, hres]
    exact trodAll_cons_mk (shut_bool hu _) trodAll_mk0
  have hV' : ∀ sp : Nat → Bool, DataW.TrodVars enc P W' sp s.vars (s.fn H (ds ++ [])).vars [] := fun sp => by
    rw [hfn.2.2, hv]; rfl
  refine ⟨ds, [], p ++ [], [], p, [], hW0, hR' _ _ _, hA' _ (fun x hx => by simpa using hlp x hx), hV' _, World.keptBut_mono (fun x hx => ⟨hx, by simpa using hx⟩) (hb.frame (· ∈ p ++ [])), fun _ => ⟨fun j t r h1 h2 => ?_, _, _, ([] ++ p) ++ [], ⟨[] ++ p, [], trodAll_append (hA' _ fun _ _ => rfl) (hR' _ _ _), hV' _, rfl, fun c off hc => ?_, fun ha => by simpa using hn ha⟩, fun x hx _ => by simpa using hx⟩⟩
  · rw [hres] at h1 h2
    cases j with
    | zero =>
      simp at h1
      subst h1
      simp [Value.resultList] at h2
      subst h2
      exact okWide_bool_mk hu _
    | succ j => simp at h1
  · have hin : MemPlace.cell c off ∈ p ++ [] := by simpa using hc
    rw [hb.frozen (hlt _ hin)]
    exact hz c off hin
end
end Go.Proofs.YtgobjpcankaicaaGreatDoor.Vc
/-
  Arguments opened: a struct of one matrix, a list of integers. Conditions: as each states them.
-/
namespace Go.Proofs.YtgobjpcankaicaaGreatDoor.Vc
open Go.RowKit Go.ChangeShapes Go.WideShapes

section
variable {H : Type} {enc : TypeId × Value → H} {P : Program}
theorem open_man {w : World} {r : Go.Reach} {b0 : Nat} {t e q : TypeId} {f0 : Field} {v : Value} {d : DataW H} {p : List MemPlace} (hs : P.underlying t = some (.struct #[f0])) (hf0 : f0.offset = 0) (ht : P.underlying f0.type = some (.slice e)) (he : P.underlying e = some (.slice q)) (hq : P.underlying q = some (.int .i64)) (ce : P.cellsOf e = 1) (cq : P.cellsOf q = 1) (cm : P.cellsOf f0.type = 1) (cc : P.cellsOf t = 1)
    (hval : Value.okWide P w r b0 t v) (h : DataW.Trod enc P w 0 (fun _ => true) true t v d p) : ∃ A n c rs xss, v = .agg #[.slice A n c] ∧ RowsI w A n rs xss ∧ n ≤ c ∧ c ≤ 9223372036854775807 := by
  obtain ⟨cs, rfl, hsz⟩ := okWide_struct hs hval
  obtain ⟨fuel, hf⟩ := h
  obtain ⟨z0, m0, _, _, hz0⟩ := trod_struct1 hs hf
  obtain ⟨A, n, c, rs, xss, e1, hR, hn, hc⟩ := open_mat ht he hq ce cq hz0
  refine ⟨A, n, c, rs, xss, ?_, hR, hn, hc⟩
  have hl : cs.toList.length = 1 := by rw [Array.length_toList, hsz, cc]
  have e1 : (cs.toList.drop f0.offset).take (P.cellsOf f0.type) = [Value.slice A n c] := e1
  rw [hf0, cm, List.drop_zero, List.take_of_length_le (by omega)] at e1
  congr 1
  exact Array.ext' (by rw [e1])

theorem open_row {w : World} {r : Go.Reach} {b0 : Nat} {t e : TypeId} {v : Value} {d : DataW H} {p : List MemPlace} (ht : P.underlying t = some (.slice e)) (he : P.underlying e = some (.int .i64)) (ce : P.cellsOf e = 1)
    (hval : Value.okWide P w r b0 t v) (h : DataW.Trod enc P w 0 (fun _ => true) true t v d p) : ∃ A n c xs, v = .slice A n c ∧ RdI w A n xs ∧ n ≤ c ∧ c ≤ 9223372036854775807 := by
  obtain ⟨a, len, cap, rfl⟩ := okWide_slice ht hval
  obtain ⟨fuel, hf⟩ := h
  have hcs : (Value.slice a len cap).cells.toList = [Value.slice a len cap] := rfl
  rw [hcs] at hf
  rcases open_ints ht he ce hf with ⟨h1, _⟩ | ⟨b, n, c, zs, h1, _, hl, hm, hz, _, hc, _⟩
  · simp only [List.cons.injEq, and_true] at h1
    exact ⟨none, 0, 0, [], h1, RdI.nil, Nat.le_refl _, by omega⟩
  · simp only [List.cons.injEq, and_true] at h1
    refine ⟨some b, n, c, zs.take n, h1, ⟨?_, fun k hk => ?_⟩, hl, by simpa [maxLen] using hm⟩
    · rw [if_pos rfl] at hz; simp; omega
    · rw [if_pos rfl] at hz
      refine ⟨b.add k, rfl, ?_⟩
      rw [hc k (by omega)]
      simp [List.getD_eq_getElem?_getD, List.getElem?_take, hk]
end
end Go.Proofs.YtgobjpcankaicaaGreatDoor.Vc
