/-
  The texts Key, Gi1, E9, Gi2, Rc2, Src, Sr2, Sr3, Drs, Da, Db, Cs1, Cs2, Cs3, Cs4 in one. Conditions: as each part states them.
-/
import Derived.Test.YtbhnfehcpnnjcaaGreatDoorInst
import Derived.Test.YtbhnfehcpnnjcaaGreatDoorZf
import Derived.Test.YtbhnfehcpnnjcaaGreatDoorZb
import Derived.Lib.ItoaLen
import Derived.Test.YtbhnfehcpnnjcaaGreatDoorLayd
import Derived.Shelf.Strconv.AppendIntPublic10
import Derived.Test.YtbhnfehcpnnjcaaGreatDoorZe
import Derived.Test.YtbhnfehcpnnjcaaGreatDoorZc
/-
 The text of a list of numbers, which is alike for equal lists alone. Conditions: the library's table of powers of ten holds what the program's text lays there.
-/
namespace Go.Proofs.YtbhnfehcpnnjcaaGreatDoor.Vc
open Go.RowKit

/-! the text, plainly -/
def keyL (xs : List Int) : List UInt8 := xs.flatMap fun x => Lib.itoa x ++ [32]
def keyB (xs : List Int) : ByteArray := ⟨(keyL xs).toArray⟩
def valD (l : List UInt8) : Nat := l.foldl (fun a b => 10 * a + (b.toNat - 48)) 0
theorem u8_digit {d : Nat} (h : d < 10) : (UInt8.ofNat (48 + d)).toNat = 48 + d := by
 rw [UInt8.toNat_ofNat']
 omega
theorem dec_val : ∀ u : Nat, valD (Lib.decDigits u) = u ∧ ∀ b ∈ Lib.decDigits u, 48 ≤ b.toNat ∧ b.toNat ≤ 57 := by
 intro u
 induction u using Nat.strongRecOn with
 | ind u ih =>
  rw [Lib.decDigits]
  split
  ·rename_i h
   refine ⟨?_, fun b hb => ?_⟩
   ·simp only [valD, List.foldl_cons, List.foldl_nil, u8_digit h]; omega
   ·simp only [List.mem_singleton] at hb
    subst hb
    rw [u8_digit h]; omega
  ·rename_i h
   obtain ⟨h1, h2⟩ := ih (u / 10) (by omega)
   refine ⟨?_, fun b hb => ?_⟩
   ·unfold valD at h1 ⊢
    rw [List.foldl_append, h1]
    simp only [List.foldl_cons, List.foldl_nil, u8_digit (show u % 10 < 10 by omega)]
    omega
   ·rcases List.mem_append.1 hb with hb | hb
    ·exact h2 b hb
    ·simp only [List.mem_singleton] at hb
     subst hb
     rw [u8_digit (by omega)]; omega
theorem dec_inj {u v : Nat} (h : Lib.decDigits u = Lib.decDigits v) : u = v := by rw [← (dec_val u).1, h, (dec_val v).1]
theorem itoa_bytes {x : Int} : ∀ b ∈ Lib.itoa x, b ≠ 32 := by
 intro b hb e
 subst e
 unfold Lib.itoa at hb
 split at hb
 ·rcases List.mem_cons.1 hb with h | h
  ·exact absurd h (by decide)
  ·have := (dec_val _).2 _ h
   exact absurd this (by decide)
 ·have := (dec_val _).2 _ hb
  exact absurd this (by decide)
theorem itoa_inj {x y : Int} (h : Lib.itoa x = Lib.itoa y) : x = y := by
 have no45 : ∀ (u v : Nat), 45 :: Lib.decDigits u ≠ Lib.decDigits v := fun u v e => by
  have := (dec_val v).2 45 (by rw [← e]; simp)
  exact absurd this (by decide)
 unfold Lib.itoa at h
 split at h <;> split at h
 ·simp only [List.cons.injEq, true_and] at h
  have := dec_inj h
  omega
 ·exact absurd h (no45 _ _)
 ·exact absurd h.symm (no45 _ _)
 ·have := dec_inj h
  omega
theorem split_at : ∀ {a b r s : List UInt8}, (∀ x ∈ a, x ≠ 32) → (∀ x ∈ b, x ≠ 32) → a ++ 32 :: r = b ++ 32 :: s → a = b ∧ r = s
 | [], [], _, _, _, _, h => by simpa using h
 | [], y :: b, _, _, _, hb, h => by
  simp only [List.nil_append, List.cons_append, List.cons.injEq] at h
  exact absurd h.1.symm (hb y (by simp))
 | x :: a, [], _, _, ha, _, h => by
  simp only [List.nil_append, List.cons_append, List.cons.injEq] at h
  exact absurd h.1 (ha x (by simp))
 | x :: a, y :: b, _, _, ha, hb, h => by
  simp only [List.cons_append, List.cons.injEq] at h
  obtain ⟨h1, h2⟩ := split_at (fun z hz => ha z (by simp [hz])) (fun z hz => hb z (by simp [hz])) h.2
  exact ⟨by rw [h.1, h1], h2⟩
theorem keyL_cons (x : Int) (xs : List Int) : keyL (x :: xs) = Lib.itoa x ++ 32 :: keyL xs := by simp [keyL]
theorem keyL_snoc (xs : List Int) (x : Int) : keyL (xs ++ [x]) = (keyL xs ++ Lib.itoa x) ++ [32] := by simp [keyL]
theorem keyL_inj : ∀ {xs ys : List Int}, keyL xs = keyL ys → xs = ys
 | [], [], _ => rfl
 | [], y :: ys, h => by rw [keyL_cons] at h; simp [keyL] at h
 | x :: xs, [], h => by rw [keyL_cons] at h; simp [keyL] at h
 | x :: xs, y :: ys, h => by
  rw [keyL_cons, keyL_cons] at h
  obtain ⟨h1, h2⟩ := split_at itoa_bytes itoa_bytes h
  rw [itoa_inj h1, keyL_inj h2]
theorem keyB_inj {xs ys : List Int} (h : keyB xs = keyB ys) : xs = ys := by
 have h1 : (keyL xs).toArray = (keyL ys).toArray := congrArg ByteArray.data h
 exact keyL_inj (by simpa using h1)
theorem fold_push : ∀ (l : List UInt8) (s : ByteArray), (l.map fun b => ((b.toNat : Nat) : Int)).foldl (fun r n => r.push (UInt8.ofNat n.toNat)) s = ⟨s.data ++ l.toArray⟩
 | [], s => by simp
 | b :: l, s => by
  simp only [List.map_cons, List.foldl_cons]
  rw [fold_push l]
  have e : UInt8.ofNat ((b.toNat : Nat) : Int).toNat = b := by simp
  rw [e]
  have e2 : (s.push b).data = s.data.push b := rfl
  rw [e2]
  congr 1
  apply Array.ext'
  simp

/-! the library's table -/
def Tab (w : World) : Prop := Lib.TabIs Tryz.prog w "internal/strconv.uint64pow10" .u64 Lib.pow10Tab
theorem Tab.later {w w' : World} (h : Tab w) (hb : Below w.heap.size w w') : Tab w' := Lib.tabBelow_of_tabIs h w' hb.toBelow

/-- a row of bytes of the call's own -/
def OwB (B : Nat) (w : World) (A : Option Addr) (m c : Nat) (l : List UInt8) : Prop := w.ownsRow B 5 1 (.slice A m c) m (Lib.byteCells l)
theorem owns_slice {B m : Nat} {w : World} {v : Value} {xs : List Value} (h : w.ownsRow B 5 1 v m xs) : ∃ A c, v = .slice A m c := by
 rcases h.2 with ⟨rfl, rfl⟩ | ⟨g, cap, cur, rfl, _⟩
 ·exact ⟨_, _, rfl⟩
 ·exact ⟨_, _, rfl⟩
theorem OwB.later {B : Nat} {w w' : World} {A : Option Addr} {m c : Nat} {l : List UInt8} (h : OwB B w A m c l) (hb : Below w.heap.size w w') : OwB B w' A m c l := by
 refine ⟨h.1, ?_⟩
 rcases h.2 with h1 | ⟨g, cap, cur, h1, h2, h3, r⟩
 ·exact .inl h1
 ·exact .inr ⟨g, cap, cur, h1, h2, by rw [hb.block g (Array.getElem?_eq_some_iff.1 h3).1]; exact h3, r⟩
section
variable {N : Nat} {ops : Array Oper} {K : Env → World → Prop} {rest : List Oper} {e : Env} {w0 w w' : World} {ks : List Ck} {d : Nat} {ty : TypeId} {pos : String} {af : Array Edge}
/-- one byte more -/
theorem Ops.appW {B m c : Nat} {A : Option Addr} {l : List UInt8} {A1 : Option Addr} {b : UInt8} {x y : Operand} (hO : OwB B w A m c l) (hB : B ≤ w.heap.size) (hR : Rd w A1 1 (fun _ => .int .u8 (b.toNat : Nat))) (hx : ev e x = .slice A m c) (hy : ev e y = .slice A1 1 1) (hm : m ≤ 1000000000) (hb : Nat.blt d N = true)
    (hK : ∀ A2 c2 w', Go.RowKit.Below B w w' → OwB B w' A2 (m + 1) c2 (l ++ [b]) → Ops Tryz.prog N ops K rest (upd e d (.slice A2 (m + 1) c2)) w') :
    Ops Tryz.prog N ops K (⟨some d, .call ⟨.builtin .append, #[x, y], #[22, 22]⟩, ty, pos, af, none⟩ :: rest) e w := by
  obtain ⟨inf, hi, hz0, hs, hby⟩ := Inf.get Tryz.prog 5
  obtain ⟨p, hp, hc⟩ := hR 0 (by omega)
  obtain ⟨a, rfl⟩ : ∃ a, A1 = some a := by cases A1 with | none => simp [ptrAt] at hp | some q => exact ⟨q, rfl⟩
  simp only [ptrAt, Option.map_some, Option.some.injEq] at hp
  obtain ⟨v', w', hr, hO', hg, _⟩ := run_append_own (P := Tryz.prog) (w := w) B 22 ty 5 inf (.int .u8 0) 1 1 Tryz.underlying22 hi hz0 hs hby rfl (by decide) (.slice A m c) m (Lib.byteCells l) hO a 1 1 [.int .u8 (b.toNat : Nat)] rfl
    (fun j u hj => by
      match j, hj with
      | 0, hj => simp at hj; subst hj; rw [hp]; exact hc) (fun u hu => by simp at hu; subst hu; rfl) (by simp only [maxLen]; omega) (by omega) hB
  obtain ⟨A2, c2, rfl⟩ := owns_slice hO'
  refine .val (w' := w') ?_ hb (hK A2 c2 w' ?_ ?_)
  · simp [execOp, resolve, invoke, builtin, hx, hy, hr]
  · exact (Go.RowKit.Below.refl B w).grown hg hB (fun k hk => (hO.lt k hk).1)
  · show w'.ownsRow B 5 1 (.slice A2 (m + 1) c2) (m + 1) (Lib.byteCells (l ++ [b]))
    rw [show Lib.byteCells (l ++ [b]) = Lib.byteCells l ++ [.int .u8 (b.toNat : Nat)] by simp [Lib.byteCells]]
    exact hO'
/-- bytes as a text -/
theorem Ops.convS {B m c : Nat} {A : Option Addr} {l : List UInt8} {x : Operand} (hO : OwB B w A m c l) (hx : ev e x = .slice A m c) (hb : Nat.blt d N = true) (hK : Ops Tryz.prog N ops K rest (upd e d (.string ⟨l.toArray⟩)) w) :
  Ops Tryz.prog N ops K (⟨some d, .convert 22 9 x, ty, pos, af, none⟩ :: rest) e w := by
 have hr : (Conv.bytesToString (.slice A m c)).run Tryz.prog w = .ok (.string ⟨l.toArray⟩) w := by
  have hl : (Lib.byteCells l).length = m * 1 := hO.1
  rcases hO.2 with ⟨h1, h2⟩ | ⟨g, cap, cur, h1, _⟩
  ·simp only [Value.slice.injEq] at h1
   obtain ⟨rfl, rfl, rfl⟩ := h1
   have : l = [] := List.eq_nil_of_length_eq_zero (by rw [Lib.byteCells_length] at hl; omega)
   subst this
   rfl
  ·simp only [Value.slice.injEq] at h1
   obtain ⟨rfl, _, rfl⟩ := h1
   have h2 := hO.cells (g := g) rfl
   have h3 := run_loadCells_list (P := Tryz.prog) (w := w) (⟨g, 0, none⟩ : Addr) (Lib.byteCells l) h2
   rw [hl, Nat.mul_one] at h3
   have e1 : Lib.byteCells l = (l.map fun b => ((b.toNat : Nat) : Int)).map (Value.int .u8) := by simp [Lib.byteCells]
   rw [e1] at h3
   rw [run_bytesToString w _ m c _ h3, fold_push]
   simp
 refine .val (w' := w) ?_ hb hK
 simp [execOp, hx, convert, run_underlying Tryz.underlying22, run_underlying Tryz.underlying9, run_underlying Tryz.underlying5, hr]
end
theorem AppendInt_c {B m c : Nat} {A : Option Addr} {l : List UInt8} (x : Int) (w : World) (hx : -9223372036854775808 ≤ x ∧ x ≤ 9223372036854775807) (hO : OwB B w A m c l) (hB : B ≤ w.heap.size) (hm : m ≤ 1000000000) (hT : Lib.TabBelow Tryz.prog B w "internal/strconv.uint64pow10" .u64 Lib.pow10Tab) :
  Ret Tryz.prog 81 [.slice A m c, .int .i64 x, .int .i64 10] w (fun v w' => ∃ A' c', v = .slice A' (m + (Lib.itoa x).length) c' ∧ OwB B w' A' (m + (Lib.itoa x).length) c' (l ++ Lib.itoa x) ∧ Go.RowKit.Below B w w') := by
 have key := Any.strconv_AppendInt_10 lai B m x hx.1 hx.2 (.slice A m c) (Lib.byteCells l) w hO hB (by omega) hT
 refine Calls.mono key fun y w' ⟨v', hy, hO', hb, _⟩ => ⟨_, hy, ?_⟩
 obtain ⟨A2, c2, rfl⟩ := owns_slice hO'
 refine ⟨A2, c2, rfl, ?_, hb⟩
 show w'.ownsRow B 5 1 (.slice A2 _ c2) _ (Lib.byteCells (l ++ Lib.itoa x))
 rw [Lib.byteCells_append]
 exact hO'
theorem itoa_len (x : Int) (hx : -9223372036854775808 ≤ x ∧ x ≤ 9223372036854775807) : (Lib.itoa x).length ≤ 21 := Lib.itoa_length_le x hx.1 hx.2
theorem keyL_len : ∀ (xs : List Int), (∀ x ∈ xs, -9223372036854775808 ≤ x ∧ x ≤ 9223372036854775807) → (keyL xs).length ≤ 22 * xs.length
 | [], _ => by simp [keyL]
 | x :: xs, h => by
  have h1 := itoa_len x (h x (by simp))
  have h2 := keyL_len xs fun y hy => h y (by simp [hy])
  rw [keyL_cons]
  simp only [List.length_append, List.length_cons]
  omega

theorem keyOf_c (A : Option Addr) (n c : Nat) (xs : List Int) (w : World) (hT : Tab w) (hR : RdI w A n xs) (hx : ∀ x ∈ xs, -9223372036854775808 ≤ x ∧ x ≤ 9223372036854775807) (hn : n ≤ 1000000) :
  Ret Tryz.prog 54 [.slice A n c] w (fun v w' => v = .string (keyB xs) ∧ St w w' []) := by
 have hxl := hR.1
 refine Ret.of_cd Tryz.func54 rfl Tryz.ntmps54 rfl (post1 rfl) (Cd.seq (Cd.region (Ops.mv_str rfl rfl rfl (Ops.n (tQ (Cd.seq (Cd.region (Ops.ms rfl rfl rfl (Ops.n ?_)))))))))
 refine tQ (Cd.seq (Cd.seq (Cd.region (Ops.ms rfl rfl rfl (Ops.len rfl rfl (Ops.mi rfl rfl rfl (Ops.n (tQ (Cd.block ?_)))))))))
 refine Cd.loop (α := Nat × Option Addr × Nat) (fun s => [(3, .slice s.2.1 (keyL (xs.take s.1)).length s.2.2), (6, .slice A n c), (7, .int .i64 (n : Int)), (8, .int .i64 (s.1 : Int))]) (fun s w' => OwB w.heap.size w' s.2.1 (keyL (xs.take s.1)).length s.2.2 (keyL (xs.take s.1)) ∧ Go.RowKit.Below w.heap.size w w' ∧ s.1 ≤ n) (fun s => n - s.1) (0, none, 0) ⟨rfl, rfl, rfl, rfl, trivial⟩ ⟨World.ownsRow_nil w _ _ _, Go.RowKit.Below.refl _ _, Nat.zero_le _⟩ ?_
 rintro ⟨i, A3, c3⟩ e w1 ⟨hO, hb1, hi⟩
 dsimp only at hO hb1 hi ⊢
 refine Cd.seq (Cd.region (Ops.lss rfl rfl rfl (Ops.n (tQ (Cd.seq ?_)))))
 refine Cd.cond_p _ rfl (fun h1 => ?_) (fun h1 => ?_)
 ·have hi' : i < xs.length := by omega
  have hR1 : RdI w1 A n xs := hR.later ⟨hb1, fun s => s.elim⟩
  have hT1 : Lib.TabBelow Tryz.prog w.heap.size w1 "internal/strconv.uint64pow10" .u64 Lib.pow10Tab := (Lib.tabBelow_of_tabIs hT).on hb1
  have hxi := hx _ (gi_in hi')
  have hll := keyL_len (xs.take i) fun x hm => hx x (List.mem_of_mem_take hm)
  have hil := itoa_len _ hxi
  rw [List.length_take] at hll
  have hsz := hb1.size
  have htk : keyL (xs.take (i + 1)) = (keyL (xs.take i) ++ Lib.itoa (gi xs (i : Int))) ++ [32] := by rw [take_succ_gi hi', keyL_snoc]
  refine Cd.skip (tQ (Cd.seq (Cd.block (Cd.seq (Cd.region (Ops.idx hR1.2 rfl rfl rfl (by omega) (by omega) (Ops.ld_int hR1 rfl (by omega) rfl rfl (Ops.mi rfl rfl rfl (Ops.n ?_)))))))))
  refine tQ (Cd.seq (Cd.region (Ops.ms rfl rfl rfl (Ops.mi rfl rfl rfl (Ops.call (AppendInt_c (gi xs (i : Int)) _ hxi hO hsz (by omega) hT1) rfl rfl rfl ?_)))))
  rintro _ w2 ⟨A4, c4, rfl, hO2, hb2⟩
  have hsz2 := hb2.size
  refine Ops.ms rfl rfl rfl (Ops.n (tQ (Cd.region (Ops.ms rfl rfl rfl (Ops.bs1 (St.refl w2) rfl rfl rfl rfl ?_)))))
  intro A5 w3 hS3
  have hO3 := hO2.later hS3.below
  have hb3 : Go.RowKit.Below w.heap.size w2 w3 := hS3.below.toBelow.mono (by omega)
  have hsz3 := hb3.size
  refine Ops.appW (b := 32) hO3 (by omega) (hS3.rd 0 rfl |>.congr fun j hj => by obtain rfl : j = 0 := by { have : j < 1 := hj; omega }; rfl) rfl rfl (by omega) rfl ?_
  intro A6 c6 w4 hb4 hO4
  refine Ops.ms rfl rfl rfl (Ops.n (blockQ_n (tQ (Cd.region (Ops.add rfl rfl rfl (by omega) (Ops.mi rfl rfl rfl (Ops.n (tQ ?_))))))))
  refine ⟨(i + 1, A6, c6), by show n - (i + 1) < n - i; omega, ⟨?_, rfl, rfl, rfl, trivial⟩, ?_, ((hb1.trans hb2).trans hb3).trans hb4, by show i + 1 ≤ n; omega⟩
  ·show Value.slice _ _ _ = .slice _ _ _
   rw [htk]
   simp [Nat.add_assoc]
  ·show OwB _ w4 A6 (keyL (xs.take (i + 1))).length c6 (keyL (xs.take (i + 1)))
   rw [htk]
   have e1 : ((keyL (xs.take i) ++ Lib.itoa (gi xs (i : Int))) ++ [32]).length = (keyL (xs.take i)).length + (Lib.itoa (gi xs (i : Int))).length + 1 := by simp; omega
   rw [e1]
   exact hO4
 ·have hin : i = xs.length := by omega
  subst hin
  rw [List.take_length] at hO
  refine Cd.exit (thenQ_x (thenQ_x (blockQ_x (tQ (Cd.seq (Cd.region (Ops.ms rfl rfl rfl ?_)))))))
  refine Ops.convS hO (by show Value.slice _ _ _ = .slice _ _ _; rw [List.take_length]) rfl ?_
  refine Ops.mv_str rfl rfl rfl (Ops.n (tQ (Cd.ret (ret1_v rfl ?_))))
  exact ⟨rfl, ⟨⟨hb1, fun s => s.elim⟩, fun k hk => (by cases hk), List.nodup_nil⟩⟩
end Go.Proofs.YtbhnfehcpnnjcaaGreatDoor.Vc
/-
 The girth on both sides. Conditions: the library's table of powers of ten holds what the program's text lays there.
-/
namespace Go.Proofs.YtbhnfehcpnnjcaaGreatDoor.Vc
open Go.RowKit

/-- rows that can be read, wherever they are named -/
structure RowsW (w : World) (n : Nat) (rs : List SlV) (xss : List (List Int)) : Prop where
 rl : rs.length = n
 len : xss.length = n
 row : ∀ i, i < n → RdI w (rs.getD i slNil).a (rs.getD i slNil).n (xss.getD i [])
 cap : ∀ i, i < n → (rs.getD i slNil).n ≤ (rs.getD i slNil).c ∧ (rs.getD i slNil).c ≤ maxLen
theorem RowsI.W {w : World} {A : Option Addr} {n : Nat} {rs : List SlV} {xss : List (List Int)} (h : RowsI w A n rs xss) : RowsW w n rs xss := ⟨h.top.1, h.len, h.row, h.cap⟩
theorem RowsW.I {w : World} {A : Option Addr} {n : Nat} {rs : List SlV} {xss : List (List Int)} (h : RowsW w n rs xss) (ht : RdR w A n rs) : RowsI w A n rs xss := ⟨ht, h.len, h.row, h.cap⟩
theorem RowsW.put {w : World} {n : Nat} {rs : List SlV} {xss : List (List Int)} (h : RowsW w n rs xss) (i : Nat) {s : SlV} {ys : List Int} (hs : RdI w s.a s.n ys) (hc : s.n ≤ s.c ∧ s.c ≤ maxLen) : RowsW w n (rs.set i s) (xss.set i ys) := by
 have hrl := h.rl
 have hxl := h.len
 have get : ∀ j, j < n → (rs.set i s).getD j slNil = (if i = j then s else rs.getD j slNil) ∧ (xss.set i ys).getD j [] = if i = j then ys else xss.getD j [] := fun j hj => by
  simp only [List.getD_eq_getElem?_getD, List.getElem?_set]
  by_cases e : i = j
  ·subst e
   have h1 : i < rs.length := by omega
   have h2 : i < xss.length := by omega
   simp [h1, h2]
  ·simp [e]
 refine ⟨by rw [List.length_set]; exact hrl, by rw [List.length_set]; exact hxl, fun j hj => ?_, fun j hj => ?_⟩
 ·rw [(get j hj).1, (get j hj).2]
  by_cases e : i = j
  ·rw [if_pos e, if_pos e]; exact hs
  ·rw [if_neg e, if_neg e]; exact h.row j hj
 ·rw [(get j hj).1]
  by_cases e : i = j
  ·rw [if_pos e]; exact hc
  ·rw [if_neg e]; exact h.cap j hj
theorem St.rowsW {w0 w : World} {pre post : List Ck} {t2 : TypeId} {n : Nat} {rs : List SlV} {xss : List (List Int)} (h : St w0 w (pre ++ (rowsCk t2 rs xss ++ post))) (hr : rs.length = n) (hl : xss.length = n) : RowsW w n rs xss := by
 have get : ∀ i, i < n → (pre ++ (rowsCk t2 rs xss ++ post))[pre.length + i]? = some (CkI t2 (rs.getD i slNil).a (rs.getD i slNil).n (rs.getD i slNil).c (xss.getD i [])) := by
  intro i hi
  rw [List.getElem?_append_right (by omega), Nat.add_sub_cancel_left, List.getElem?_append_left (by rw [rowsCk_length (by omega)]; omega)]
  exact rowsCk_get (by omega) (by omega)
 exact ⟨hr, hl, fun i hi => h.rdI _ (get i hi), fun i hi => h.cap _ (get i hi)⟩

/-! what has been seen -/
def seenA (ls : List (List Int)) : List (ByteArray × Bool) := ls.foldl (fun L l => putA L (keyB l) true) []
theorem seenA_snoc (ls : List (List Int)) (l : List Int) : seenA (ls ++ [l]) = putA (seenA ls) (keyB l) true := by simp [seenA, List.foldl_append]
theorem seenA_get (ls : List (List Int)) (l : List Int) : (getA (seenA ls) (keyB l)).getD false = decide (l ∈ ls) := by
 have key : ∀ r : List (List Int), (getA (seenA r.reverse) (keyB l)).getD false = decide (l ∈ r.reverse) := fun r => by
  induction r with
  | nil => rfl
  | cons x r ih =>
   rw [List.reverse_cons, seenA_snoc, getA_put]
   by_cases e : x = l
   ·subst e
    rw [if_pos rfl]; simp
   ·rw [if_neg (fun h => e (keyB_inj h)), ih]
    have : l ≠ x := fun h => e h.symm
    simp [this]
 have := key ls.reverse
 rwa [List.reverse_reverse] at this
instance (l : List (List Int)) : Decidable l.Nodup := by unfold List.Nodup; infer_instance
theorem nodup_take {En : List (List Int)} {k : Nat} (hk : k < En.length) : (En.take (k + 1)).Nodup ↔ (En.take k).Nodup ∧ gl En (k : Int) ∉ En.take k := by
 have e : gl En (k : Int) = En[k] := by simp [gl, List.getD_eq_getElem?_getD, hk]
 rw [List.take_succ_eq_append_getElem hk, e, List.nodup_append]
 simp only [List.mem_singleton, forall_eq]
 constructor
 ·rintro ⟨a, _, b⟩
  exact ⟨a, fun h => b _ h rfl⟩
 ·rintro ⟨a, b⟩
  exact ⟨a, by simp, fun x hx e => b (e ▸ hx)⟩

theorem girthOf_c (A : Option Addr) (m c : Nat) (rs : List SlV) (xss : List (List Int)) (A' : Option Addr) (c' : Nat) (rs' : List SlV) (w : World) (hT : Tab w) (hG : Grph xss) (hE : RowsI w A (edgesN xss) rs (endsL xss)) (hN : RowsI w A' (vertsN xss) rs' (nbL xss)) (hm : m = edgesN xss) :
  Ret Tryz.prog 31 [.slice A m c, .slice A' (vertsN xss) c'] w (fun v w' => v = .int .i64 (girN xss) ∧ St w w' []) := by
 subst hm
 have hM := hG.1
 have hg := nb_gr hM
 have hsm := nb_small hM
 have hel := endsL_len xss
 have hep := ends_pos hM
 have hmem : ∀ e : Nat, ∀ x ∈ gl (endsL xss) (e : Int), 0 ≤ x ∧ x < (vertsN xss : Int) := fun e => endsL_mem hM e (by omega)
 refine Ret.of_cd Tryz.func31 rfl Tryz.ntmps31 rfl (post1 rfl) (Cd.seq (Cd.region (Ops.mi rfl rfl rfl (Ops.n (tQ (Cd.seq (Cd.region (Ops.mkmap (St.refl w) rfl ?_))))))))
 intro g w1 hS1
 refine Ops.mv_map rfl rfl rfl (Ops.n (tQ (Cd.seq (Cd.region (Ops.mb rfl rfl rfl (Ops.n (tQ (Cd.seq (Cd.seq ?_)))))))))
 refine Cd.region (Ops.ms rfl rfl rfl (Ops.len rfl rfl (Ops.mi rfl rfl rfl (Ops.n (tQ (Cd.block ?_))))))
 refine Cd.loop (α := Nat) (fun k => [(0, .slice A (edgesN xss) c), (1, .slice A' (vertsN xss) c'), (5, .map (some g)), (6, .bool (decide (¬ ((endsL xss).take k).Nodup))), (16, .slice A (edgesN xss) c), (17, .int .i64 (edgesN xss : Int)), (18, .int .i64 (k : Int))]) (fun k w' => St w w' [CkM 59 g (prV Value.string Value.bool (seenA ((endsL xss).take k)))] ∧ k ≤ edgesN xss ∧ ∀ j, j < k → (gl (endsL xss) (j : Int)).length ≠ 1) (fun k => edgesN xss - k) 0 ⟨rfl, rfl, rfl, rfl, rfl, rfl, rfl, trivial⟩ ⟨hS1, Nat.zero_le _, fun j hj => absurd hj (Nat.not_lt_zero j)⟩ ?_
 rintro k e w2 ⟨hS2, hk, hno⟩
 refine Cd.seq (Cd.region (Ops.lss rfl rfl rfl (Ops.n (tQ (Cd.seq ?_)))))
 refine Cd.cond_p _ rfl (fun h1 => ?_) (fun h1 => ?_)
 ·have hk' : k < edgesN xss := by omega
  have hE2 := hS2.oldRows hE
  have hrow := hE2.at_ (i := (k : Int)) (by omega) (by omega)
  have hcap := hE2.cap_ (i := (k : Int)) (by omega) (by omega)
  have hrn : (gl (endsL xss) (k : Int)).length = (rg rs (k : Int)).n := hrow.1
  have hl2 := ends_le2 hG k hk'
  have hxr : ∀ x ∈ gl (endsL xss) (k : Int), -9223372036854775808 ≤ x ∧ x ≤ 9223372036854775807 := fun x hx => by have := hmem k x hx; omega
  have htk : (endsL xss).take (k + 1) = (endsL xss).take k ++ [gl (endsL xss) (k : Int)] := by
   rw [List.take_succ_eq_append_getElem (by omega)]
   simp [gl, List.getD_eq_getElem?_getD, hel, hk']
  have hnt := nodup_take (En := endsL xss) (k := k) (by omega)
  have hsg := seenA_get ((endsL xss).take k) (gl (endsL xss) (k : Int))
  refine Cd.skip (tQ (Cd.seq (Cd.block (Cd.seq (Cd.region (Ops.idx hE2.top.2 rfl rfl rfl (by omega) (by omega) (Ops.ld_sl hE2.top rfl (by omega) rfl rfl (Ops.ms rfl rfl rfl (Ops.n ?_)))))))))
  refine tQ (Cd.seq (Cd.seq (Cd.region (Ops.ms rfl rfl rfl (Ops.len rfl rfl (Ops.eql rfl rfl rfl (Ops.n (tQ ?_))))))))
  refine Cd.cond_p _ rfl (fun h2 => ?_) (fun h2 => ?_)
  ·refine Cd.seq (Cd.region (Ops.mi rfl rfl rfl (Ops.n (tQ (Cd.ret (thenQ_r (blockQ_r (thenQ_r (thenQ_r ?_)))))))))
   refine blockQ_r (thenQ_r (ret1_i rfl ?_))
   exact ⟨by rw [girN_loop ⟨k, hk', by omega⟩], hS2.none⟩
  ·have hno' : ∀ j, j < k + 1 → (gl (endsL xss) (j : Int)).length ≠ 1 := fun j hj => by
    by_cases ej : j = k
    ·subst ej; omega
    ·exact hno j (by omega)
   refine Cd.skip (tQ (Cd.seq (Cd.region (Ops.mb rfl rfl rfl (Ops.mb rfl rfl rfl ?_)))))
   refine Ops.split_p 26 rfl (fun h3 => ?_) (fun h3 => ?_)
   ·refine Ops.k rfl rfl rfl rfl rfl (Ops.k rfl rfl rfl rfl rfl (Ops.k rfl rfl rfl rfl rfl (Ops.k rfl rfl rfl rfl rfl (Ops.pick_t rfl rfl rfl (Ops.mb rfl rfl rfl (Ops.n (tQ (Cd.region (Ops.mv_map rfl rfl rfl ?_)))))))))
    refine Ops.ms rfl rfl rfl (Ops.call (keyOf_c _ _ _ _ _ (hT.later hS2.below) hrow hxr (by omega)) rfl rfl rfl ?_)
    rintro _ w3 ⟨rfl, hst3⟩
    have hS3 := hS2.later hst3.below
    refine Ops.upm rfl keyS 0 (u := true) hS3 rfl rfl rfl rfl ?_
    intro w4 hS4
    refine Ops.n (blockQ_n (tQ (Cd.region (Ops.add rfl rfl rfl (by omega) (Ops.mi rfl rfl rfl (Ops.n (tQ ?_)))))))
    refine ⟨k + 1, by omega, ⟨rfl, rfl, rfl, ?_, rfl, rfl, rfl, trivial⟩, ?_, hk', hno'⟩
    ·show Value.bool true = .bool _
     rw [decide_eq_true (show ¬ ((endsL xss).take (k + 1)).Nodup from fun h => h3 (hnt.1 h).1)]
    ·rw [htk, seenA_snoc]
     exact hS4
   ·have h3 : ((endsL xss).take k).Nodup := Classical.not_not.1 h3
    refine Ops.g rfl rfl rfl (Ops.mv_map rfl rfl rfl (Ops.g rfl rfl rfl (Ops.ms rfl rfl rfl (Ops.g rfl rfl rfl (Ops.call (keyOf_c _ _ _ _ _ (hT.later hS2.below) hrow hxr (by omega)) rfl rfl rfl ?_)))))
    rintro _ w3 ⟨rfl, hst3⟩
    have hS3 := hS2.later hst3.below
    refine Ops.g rfl rfl rfl (Ops.lookB keyS (keyB (gl (endsL xss) (k : Int))) (hS3.rdM 0 rfl) rfl rfl rfl ?_)
    rw [hsg]
    refine Ops.pick_f rfl rfl rfl (Ops.mb rfl rfl rfl (Ops.n (tQ (Cd.region (Ops.mv_map rfl rfl rfl (Ops.ms rfl rfl rfl (Ops.call (keyOf_c _ _ _ _ _ (hT.later hS3.below) (hrow.later hst3.below) hxr (by omega)) rfl rfl rfl ?_)))))))
    rintro _ w4 ⟨rfl, hst4⟩
    have hS4 := hS3.later hst4.below
    refine Ops.upm rfl keyS 0 (u := true) hS4 rfl rfl rfl rfl ?_
    intro w5 hS5
    refine Ops.n (blockQ_n (tQ (Cd.region (Ops.add rfl rfl rfl (by omega) (Ops.mi rfl rfl rfl (Ops.n (tQ ?_)))))))
    refine ⟨k + 1, by omega, ⟨rfl, rfl, rfl, ?_, rfl, rfl, rfl, trivial⟩, ?_, hk', hno'⟩
    ·show Value.bool (decide _) = .bool (decide _)
     congr 1
     rw [decide_eq_decide, hnt]
     constructor
     ·exact fun h h' => h'.2 h
     ·intro h
      exact Classical.byContradiction fun h' => h ⟨h3, h'⟩
    ·rw [htk, seenA_snoc]
     exact hS5
 ·have hke : k = edgesN xss := by omega
  subst hke
  have hnl : ¬ Loop1 xss := fun ⟨e, he, h⟩ => hno e he h
  rw [show (endsL xss).take (edgesN xss) = endsL xss from List.take_of_length_le (by omega)]
  refine Cd.exit (thenQ_x (thenQ_x (blockQ_x (tQ (Cd.seq (Cd.seq (Cd.region (Ops.mb rfl rfl rfl (Ops.n ?_)))))))))
  refine tQ ?_
  refine Cd.cond_p _ rfl (fun h2 => ?_) (fun h2 => ?_)
  ·refine Cd.seq (Cd.region (Ops.mi rfl rfl rfl (Ops.n (tQ (Cd.ret (thenQ_r (ret1_i rfl ?_)))))))
   exact ⟨by rw [girN_double hnl h2], hS2.none⟩
  ·have h2 : (endsL xss).Nodup := Classical.not_not.1 h2
   have hfin := girN_impl hG hnl h2
   have hb0 : ∀ (i : Nat), i ≤ vertsN xss → ∀ x ∈ implW i (nbL xss), x ≤ (vertsN xss : Int) := fun i hi x hx => by
    unfold implW at hx
    obtain ⟨v, hv, hx⟩ := List.mem_flatMap.1 hx
    obtain ⟨y, hy, rfl⟩ := List.mem_map.1 hx
    have hv := List.mem_range.1 hv
    have hyr := (hg.row (v : Int) (by omega)).1 y hy
    have := way_small hg (u := (v : Int)) (v := y) (by omega) (by omega) hyr.1 hyr.2
    omega
   have hS2' := hS2.none
   generalize hEn : endsL xss = En at *
   generalize hNe : nbL xss = next at *
   generalize hv : vertsN xss = N at *
   refine Cd.skip (tQ (Cd.seq (Cd.region (Ops.mi rfl rfl rfl (Ops.n (tQ (Cd.seq (Cd.seq (Cd.region ?_)))))))))
   refine Ops.ms rfl rfl rfl (Ops.call (sizeR_c _ _ _ _) rfl rfl rfl ?_)
   rintro _ w2 ⟨rfl, rfl⟩
   refine Ops.mi rfl rfl rfl (Ops.n (tQ (Cd.block ?_)))
   refine Cd.loop (α := Nat) (fun i => [(1, .slice A' N c'), (9, .int .i64 (mnG (implW i next))), (38, .int .i64 (N : Int)), (39, .int .i64 (i : Int))]) (fun i w' => St w w' [] ∧ i ≤ N) (fun i => N - i) 0 ⟨rfl, rfl, rfl, rfl, trivial⟩ ⟨hS2', Nat.zero_le _⟩ ?_
   rintro i e w3 ⟨hS3, hi⟩
   refine Cd.seq (Cd.region (Ops.lss rfl rfl rfl (Ops.n (tQ (Cd.seq ?_)))))
   refine Cd.cond_p _ rfl (fun h4 => ?_) (fun h4 => ?_)
   ·have hi' : i < N := by omega
    have hN3 := hS3.oldRows hN
    have hrow3 := hN3.at_ (i := (i : Int)) (by omega) (by omega)
    have hrn : (gl next (i : Int)).length = (rg rs' (i : Int)).n := hrow3.1
    have hrr := hg.row (i : Int) (by omega)
    have himp : implW (i + 1) next = implW i next ++ (gl next (i : Int)).map (wayL next (i : Int)) := by
     unfold implW
     rw [List.range_succ, List.flatMap_append, List.flatMap_cons, List.flatMap_nil, List.append_nil]
    refine Cd.skip (tQ (Cd.seq (Cd.block (Cd.seq (Cd.region (Ops.mi rfl rfl rfl (Ops.mi rfl rfl rfl (Ops.n (tQ ?_)))))))))
    refine Cd.seq (Cd.region (Ops.ms rfl rfl rfl (Ops.mi rfl rfl rfl (Ops.idx hN3.top.2 rfl rfl rfl (by omega) (by omega) (Ops.ld_sl hN3.top rfl (by omega) rfl rfl (Ops.len rfl rfl (Ops.mi rfl rfl rfl (Ops.n (tQ ?_)))))))))
    refine Cd.block ?_
    refine Cd.loop (α := Nat) (fun k => [(1, .slice A' N c'), (9, .int .i64 (mnG (implW i next ++ ((gl next (i : Int)).take k).map (wayL next (i : Int))))), (10, .int .i64 (i : Int)), (38, .int .i64 (N : Int)), (39, .int .i64 (i : Int)), (45, .slice (rg rs' (i : Int)).a (rg rs' (i : Int)).n (rg rs' (i : Int)).c), (46, .int .i64 ((rg rs' (i : Int)).n : Int)), (47, .int .i64 (k : Int))]) (fun k w' => St w w' [] ∧ k ≤ (gl next (i : Int)).length) (fun k => (gl next (i : Int)).length - k) 0 ⟨rfl, by show Value.int .i64 _ = .int .i64 _; rw [List.take_zero, List.map_nil, List.append_nil], rfl, rfl, rfl, rfl, rfl, rfl, trivial⟩ ⟨hS3, Nat.zero_le _⟩ ?_
    rintro k e w4 ⟨hS4, hk⟩
    have hbm : 0 ≤ mnG (implW i next ++ ((gl next (i : Int)).take k).map (wayL next (i : Int))) ∧ mnG (implW i next ++ ((gl next (i : Int)).take k).map (wayL next (i : Int))) ≤ (N : Int) + 1 := mnG_bd (fun x hx => by
     rcases List.mem_append.1 hx with hx | hx
     ·exact hb0 i hi x hx
     ·exact hb0 (i + 1) hi' x (by rw [himp]; exact List.mem_append_right _ (List.map_subset _ (List.take_subset _ _) hx))) (by omega)
    refine Cd.seq (Cd.region (Ops.lss rfl rfl rfl (Ops.n (tQ (Cd.seq ?_)))))
    refine Cd.cond_p _ rfl (fun h5 => ?_) (fun h5 => ?_)
    ·have hk' : k < (gl next (i : Int)).length := by omega
     have hN4 := hS4.oldRows hN
     have hrow4 := hN4.at_ (i := (i : Int)) (by omega) (by omega)
     have hxm : gi (gl next (i : Int)) (k : Int) ∈ gl next (i : Int) := gi_in hk'
     have hxr := hrr.1 _ hxm
     have hstep : mnG (implW i next ++ ((gl next (i : Int)).take (k + 1)).map (wayL next (i : Int))) = gstep (mnG (implW i next ++ ((gl next (i : Int)).take k).map (wayL next (i : Int)))) (wayL next (i : Int) (gi (gl next (i : Int)) (k : Int))) := by
      rw [take_succ_gi hk', List.map_append, ← List.append_assoc, List.map_cons, List.map_nil, mnG_snoc]
     refine Cd.skip (tQ (Cd.seq (Cd.block (Cd.seq (Cd.region (Ops.idx hrow4.2 rfl rfl rfl (by omega) (by omega) (Ops.ld_int hrow4 rfl (by omega) rfl rfl ?_)))))))
     generalize hx : gi (gl next (i : Int)) (k : Int) = x at *
     generalize hgm : mnG (implW i next ++ ((gl next (i : Int)).take k).map (wayL next (i : Int))) = gm at *
     have hrx := hg.row x hxr.1
     have hway := way_small hg (u := (i : Int)) (v := x) (by omega) (by omega) hxr.1 hxr.2
     refine Ops.mi rfl rfl rfl (Ops.n (tQ (Cd.seq (Cd.region (Ops.ms rfl rfl rfl (Ops.call (CloneR_c A' N c' rs' _ hN4.top (by omega) (by omega)) rfl rfl rfl ?_))))))
     rintro _ w5 ⟨A13, c13, rfl, hst5⟩
     have hS5 := hS4.call hst5
     have hN5 := hS5.oldRows hN
     refine Ops.ms rfl rfl rfl (Ops.n (tQ (Cd.seq (Cd.region (Ops.ms rfl rfl rfl (Ops.mi rfl rfl rfl (Ops.ms rfl rfl rfl (Ops.mi rfl rfl rfl (Ops.idx hN5.top.2 rfl rfl rfl (by omega) (by omega) ?_)))))))))
     refine Ops.ld_sl hN5.top rfl (by omega) rfl rfl (Ops.mi rfl rfl rfl (Ops.bs1I hS5 rfl rfl rfl ?_))
     intro A60 w6 hS6
     have hra := (hS6.oldRows hN).at_ (i := (i : Int)) (by omega) (by omega)
     refine Ops.call (lessOf_c _ _ _ (gl next (i : Int)) A60 1 1 [x] _ hra (hS6.rdI 0 rfl) (by omega) (by omega)) rfl rfl rfl ?_
     rintro _ w7 ⟨A61, c61, rfl, hst7⟩
     have hS7 := hS6.call hst7
     have hS7 : St w w7 [CkI 2 A61 (lessL (gl next (i : Int)) [x]).length c61 (lessL (gl next (i : Int)) [x]), CkI 2 A60 1 1 [x], CkR 28 A13 N c13 rs'] := hS7
     refine Ops.idx (hS7.rdR 2 rfl).2 rfl rfl rfl (by omega) (by omega) (Ops.st_sl 2 hS7 rfl rfl rfl (by omega) ?_)
     intro w8 hS8
     have hS8 : St w w8 [CkI 2 A61 (lessL (gl next (i : Int)) [x]).length c61 (lessL (gl next (i : Int)) [x]), CkI 2 A60 1 1 [x], CkR 28 A13 N c13 (rs'.set (i : Int).toNat ⟨A61, (lessL (gl next (i : Int)) [x]).length, c61⟩)] := hS8
     have hN8 := hS8.oldRows hN
     refine Ops.n (tQ (Cd.seq (Cd.region (Ops.ms rfl rfl rfl (Ops.mi rfl rfl rfl (Ops.ms rfl rfl rfl (Ops.mi rfl rfl rfl (Ops.idx hN8.top.2 rfl rfl rfl hxr.1 hxr.2 (Ops.ld_sl hN8.top rfl (by omega) rfl rfl ?_)))))))))
     refine Ops.mi rfl rfl rfl (Ops.bs1I hS8 rfl rfl rfl ?_)
     intro A70 w9 hS9
     have hrb := (hS9.oldRows hN).at_ (i := x) hxr.1 hxr.2
     have hrbn : (gl next x).length = (rg rs' x).n := hrb.1
     refine Ops.call (lessOf_c _ _ _ (gl next x) A70 1 1 [(i : Int)] _ hrb (hS9.rdI 0 rfl) (by omega) (by omega)) rfl rfl rfl ?_
     rintro _ w10 ⟨A71, c71, rfl, hst10⟩
     have hS10 := hS9.call hst10
     have hS10 : St w w10 [CkI 2 A71 (lessL (gl next x) [(i : Int)]).length c71 (lessL (gl next x) [(i : Int)]), CkI 2 A70 1 1 [(i : Int)], CkI 2 A61 (lessL (gl next (i : Int)) [x]).length c61 (lessL (gl next (i : Int)) [x]), CkI 2 A60 1 1 [x], CkR 28 A13 N c13 (rs'.set (i : Int).toNat ⟨A61, (lessL (gl next (i : Int)) [x]).length, c61⟩)] := hS10
     refine Ops.idx (hS10.rdR 4 rfl).2 rfl rfl rfl hxr.1 hxr.2 (Ops.st_sl 4 hS10 rfl rfl rfl (by omega) ?_)
     intro w11 hS11
     have hS11 : St w w11 [CkI 2 A71 (lessL (gl next x) [(i : Int)]).length c71 (lessL (gl next x) [(i : Int)]), CkI 2 A70 1 1 [(i : Int)], CkI 2 A61 (lessL (gl next (i : Int)) [x]).length c61 (lessL (gl next (i : Int)) [x]), CkI 2 A60 1 1 [x], CkR 28 A13 N c13 ((rs'.set (i : Int).toNat ⟨A61, (lessL (gl next (i : Int)) [x]).length, c61⟩).set x.toNat ⟨A71, (lessL (gl next x) [(i : Int)]).length, c71⟩)] := hS11
     have hW := ((hS11.oldRows hN).W.put (i : Int).toNat (s := ⟨A61, (lessL (gl next (i : Int)) [x]).length, c61⟩) (hS11.rdI 2 rfl) (hS11.cap 2 rfl)).put x.toNat (s := ⟨A71, (lessL (gl next x) [(i : Int)]).length, c71⟩) (hS11.rdI 0 rfl) (hS11.cap 0 rfl)
     have hI := hW.I (hS11.rdR 4 rfl)
     have hI : RowsI w11 A13 N _ (restL next (i : Int) x) := hI
     have hgr := rest_gr hg (u := (i : Int)) (v := x) (by omega) (by omega) hxr.1 hxr.2
     refine Ops.n (tQ (Cd.seq (Cd.region (Ops.ms rfl rfl rfl (Ops.mi rfl rfl rfl (Ops.call (graphDistances_c A13 N c13 _ (restL next (i : Int) x) (i : Int) _ hI hgr (by omega) (by omega)) rfl rfl rfl ?_))))))
     rintro _ w12 ⟨A75, rfl, hst12⟩
     have hS12 := (hS11.later hst12.below).none
     have hD := hst12.rdI 0 rfl
     refine Ops.mi rfl rfl rfl (Ops.idx hD.2 rfl rfl rfl hxr.1 hxr.2 (Ops.ld_int hD rfl (by omega) rfl rfl ?_))
     rw [show gi (distP (restL next (i : Int) x) (-1) (i : Int)).1 x = wayL next (i : Int) x from rfl]
     generalize wayL next (i : Int) x = wy at *
     refine Ops.mi rfl rfl rfl (Ops.n (tQ (Cd.seq (Cd.region (Ops.mi rfl rfl rfl (Ops.gtr rfl rfl rfl (Ops.mb rfl rfl rfl ?_)))))))
     refine Ops.split_p 81 rfl (fun h6 => ?_) (fun h6 => ?_)
     ·refine Ops.g rfl rfl rfl (Ops.mi rfl rfl rfl (Ops.g rfl rfl rfl (Ops.eql rfl rfl rfl (Ops.g rfl rfl rfl (Ops.mb rfl rfl rfl ?_)))))
      refine Ops.split_p 84 rfl (fun h7 => ?_) (fun h7 => ?_)
      ·have hgs : gstep gm wy = wy + 1 := by unfold gstep; rw [if_pos ⟨h6, .inl h7⟩]
       refine Ops.k rfl rfl rfl rfl rfl (Ops.k rfl rfl rfl rfl rfl (Ops.k rfl rfl rfl rfl rfl (Ops.k rfl rfl rfl rfl rfl (Ops.g rfl rfl rfl (Ops.pick_t rfl rfl rfl (Ops.pick_t rfl rfl rfl (Ops.n (tQ (Cd.cond_t rfl ?_)))))))))
       refine Cd.region (Ops.mi rfl rfl rfl (Ops.add rfl rfl rfl (by omega) (Ops.mi rfl rfl rfl (Ops.n (blockQ_n (tQ (Cd.region (Ops.add rfl rfl rfl (by omega) (Ops.mi rfl rfl rfl ?_)))))))))
       refine Ops.n (tQ ?_)
       exact ⟨k + 1, by omega, ⟨rfl, by show Value.int .i64 _ = .int .i64 _; rw [hstep, hgs], rfl, rfl, rfl, rfl, rfl, rfl, trivial⟩, hS12, hk'⟩
      ·refine Ops.g rfl rfl rfl (Ops.mi rfl rfl rfl (Ops.g rfl rfl rfl (Ops.add rfl rfl rfl (by omega) (Ops.g rfl rfl rfl (Ops.mi rfl rfl rfl (Ops.g rfl rfl rfl (Ops.lss rfl rfl rfl (Ops.g rfl rfl rfl (Ops.pick_f rfl rfl rfl ?_)))))))))
       refine Ops.pick_t rfl rfl rfl (Ops.n (tQ ?_))
       refine Cd.cond_p _ rfl (fun h8 => ?_) (fun h8 => ?_)
       ·have hgs : gstep gm wy = wy + 1 := by unfold gstep; rw [if_pos ⟨h6, .inr h8⟩]
        refine Cd.region (Ops.mi rfl rfl rfl (Ops.add rfl rfl rfl (by omega) (Ops.mi rfl rfl rfl (Ops.n (blockQ_n (tQ (Cd.region (Ops.add rfl rfl rfl (by omega) (Ops.mi rfl rfl rfl ?_)))))))))
        refine Ops.n (tQ ?_)
        exact ⟨k + 1, by omega, ⟨rfl, by show Value.int .i64 _ = .int .i64 _; rw [hstep, hgs], rfl, rfl, rfl, rfl, rfl, rfl, trivial⟩, hS12, hk'⟩
       ·have hgs : gstep gm wy = gm := by unfold gstep; rw [if_neg (fun h => h.2.elim h7 h8)]
        refine Cd.skip (blockQ_n (tQ (Cd.region (Ops.add rfl rfl rfl (by omega) (Ops.mi rfl rfl rfl (Ops.n (tQ ?_)))))))
        exact ⟨k + 1, by omega, ⟨rfl, by show Value.int .i64 _ = .int .i64 _; rw [hstep, hgs], rfl, rfl, rfl, rfl, rfl, rfl, trivial⟩, hS12, hk'⟩
     ·have hgs : gstep gm wy = gm := by unfold gstep; rw [if_neg (fun h => h6 h.1)]
      refine Ops.k rfl rfl rfl rfl rfl (Ops.k rfl rfl rfl rfl rfl (Ops.k rfl rfl rfl rfl rfl (Ops.skipu rfl rfl rfl rfl (Ops.skipu rfl rfl rfl rfl (Ops.skipu rfl rfl rfl rfl (Ops.skipu rfl rfl rfl rfl (Ops.k rfl rfl rfl rfl rfl (Ops.pick_f rfl rfl rfl (Ops.n ?_)))))))))
      refine tQ (Cd.cond_f rfl (Cd.skip (blockQ_n (tQ (Cd.region (Ops.add rfl rfl rfl (by omega) (Ops.mi rfl rfl rfl (Ops.n (tQ ?_)))))))))
      exact ⟨k + 1, by omega, ⟨rfl, by show Value.int .i64 _ = .int .i64 _; rw [hstep, hgs], rfl, rfl, rfl, rfl, rfl, rfl, trivial⟩, hS12, hk'⟩
    ·have hke : k = (gl next (i : Int)).length := by omega
     subst hke
     refine Cd.exit (thenQ_x (thenQ_x (blockQ_x (blockQ_n (tQ (Cd.region (Ops.add rfl rfl rfl (by omega) (Ops.mi rfl rfl rfl (Ops.n ?_)))))))))
     refine tQ ?_
     exact ⟨i + 1, by omega, ⟨rfl, by show Value.int .i64 _ = .int .i64 _; rw [List.take_length, himp], rfl, rfl, trivial⟩, hS4, hi'⟩
   ·have hie : i = N := by omega
    subst hie
    refine Cd.exit (thenQ_x (thenQ_x (blockQ_x (tQ (Cd.seq (Cd.region (Ops.mi rfl rfl rfl (Ops.mi rfl rfl rfl (Ops.n ?_)))))))))
    refine tQ (Cd.ret (ret1_i rfl ?_))
    exact ⟨by rw [hfin], hS3⟩
end Go.Proofs.YtbhnfehcpnnjcaaGreatDoor.Vc
/-
 The walk of the law FnExactPartsOf: it returns true. Conditions: as it states them.
-/
namespace Go.Proofs.YtbhnfehcpnnjcaaGreatDoor.Vc
open Go.RowKit

end Go.Proofs.YtbhnfehcpnnjcaaGreatDoor.Vc
/-
 GirthOf on both sides, and the walk of its law. Conditions: the library's table of powers of ten holds what the program's text lays there.
-/
namespace Go.Proofs.YtbhnfehcpnnjcaaGreatDoor.Vc
open Go.RowKit

theorem l17Without_c (A : Option Addr) (n c : Nat) (a : List Int) (A' : Option Addr) (n' c' : Nat) (b : List Int) (w : World) (hA : RdI w A n a) (hB : RdI w A' n' b) (hn : n ≤ 1000000000) (hn' : n' ≤ 9223372036854775807) :
  Ret Tryz.prog 34 [.slice A n c, .slice A' n' c'] w (fun v w' => ∃ A2 c2, v = .slice A2 (lessL a b).length c2 ∧ St w w' [CkI 2 A2 (lessL a b).length c2 (lessL a b)]) := by
 have hal := hA.1
 refine Ret.of_cd Tryz.func34 rfl Tryz.ntmps34 rfl (post1 rfl) (Cd.seq (Cd.region (Ops.ms rfl rfl rfl (Ops.n (tQ (Cd.seq (Cd.region (Ops.bs0 (St.refl w) rfl ?_))))))))
 intro A7 w1 hS1
 have hS1 : St w w1 [CkI 2 A7 (lessL (a.take 0) b).length 0 (lessL (a.take 0) b)] := hS1
 refine Ops.ms rfl rfl rfl (Ops.n (tQ (Cd.seq (Cd.seq (Cd.region (Ops.mi rfl rfl rfl (Ops.n (tQ (Cd.block ?_)))))))))
 refine Cd.loop (α := Nat × Option Addr × Nat) (fun s => [(0, .slice A n c), (1, .slice A' n' c'), (5, .slice s.2.1 (lessL (a.take s.1) b).length s.2.2), (6, .int .i64 (s.1 : Int))]) (fun s w' => St w w' [CkI 2 s.2.1 (lessL (a.take s.1) b).length s.2.2 (lessL (a.take s.1) b)] ∧ s.1 ≤ n) (fun s => n - s.1) (0, A7, 0) ⟨rfl, rfl, rfl, rfl, trivial⟩ ⟨hS1, Nat.zero_le _⟩ ?_
 rintro ⟨i, A3, c3⟩ e w2 ⟨hS2, hi⟩
 dsimp only at hS2 hi ⊢
 refine Cd.seq (Cd.seq (Cd.region (Ops.mi rfl rfl rfl (Ops.ms rfl rfl rfl (Ops.len rfl rfl (Ops.lss rfl rfl rfl (Ops.n (tQ ?_))))))))
 refine Cd.cond_p _ rfl (fun h1 => ?_) (fun h1 => ?_)
 ·have hi' : i < a.length := by omega
  have hR2 := hS2.oldI hA
  have hll : (lessL (a.take i) b).length ≤ i := by
   have := List.length_filter_le (fun x => !decide (x ∈ b)) (a.take i)
   rw [List.length_take] at this
   unfold lessL
   omega
  have htk : lessL (a.take (i + 1)) b = lessL (a.take i) b ++ (if gi a (i : Int) ∈ b then [] else [gi a (i : Int)]) := by
   unfold lessL
   rw [take_succ_gi hi', List.filter_append]
   congr 1
   by_cases h : gi a (i : Int) ∈ b <;> simp [h]
  refine Cd.skip (tQ (Cd.seq (Cd.block (Cd.seq (Cd.region (Ops.ms rfl rfl rfl (Ops.ms rfl rfl rfl (Ops.mi rfl rfl rfl (Ops.idx hR2.2 rfl rfl rfl (by omega) (by omega) ?_)))))))))
  refine Ops.ld_int hR2 rfl (by omega) rfl rfl (Ops.call (l01Has_c A' n' c' b _ _ (hS2.oldI hB) hn') rfl rfl rfl ?_)
  rintro _ w2 ⟨rfl, rfl⟩
  first | refine Ops.not_p rfl rfl ?_ | refine Ops.not rfl rfl ?_
  refine Ops.n (tQ ?_)
  refine Cd.cond_p _ rfl (fun h2 => ?_) (fun h2 => ?_)
  ·refine Cd.region (Ops.ms rfl rfl rfl (Ops.ms rfl rfl rfl (Ops.mi rfl rfl rfl (Ops.idx hR2.2 rfl rfl rfl (by omega) (by omega) (Ops.ld_int hR2 rfl (by omega) rfl rfl (Ops.bs1I hS2 rfl rfl rfl ?_))))))
   intro A8 w3 hS3
   refine Ops.appI 1 hS3 rfl (hS3.rdI 0 rfl) rfl rfl rfl (by omega) (by omega) rfl ?_
   intro A9 c9 w4 hS4
   rw [if_neg h2] at htk
   have e1 : (lessL (a.take i) b ++ [gi a (i : Int)]).length = (lessL (a.take i) b).length + 1 := by simp
   refine Ops.ms rfl rfl rfl (Ops.n (blockQ_n (tQ (Cd.region (Ops.mi rfl rfl rfl (Ops.add rfl rfl rfl (by omega) (Ops.mi rfl rfl rfl (Ops.n (tQ ?_)))))))))
   refine ⟨(i + 1, A9, c9), by show n - (i + 1) < n - i; omega, ⟨rfl, rfl, by show Value.slice _ _ _ = .slice _ _ _; rw [htk, e1], rfl, trivial⟩, ?_, by show i + 1 ≤ n; omega⟩
   show St w w4 [CkI _ A9 (lessL (a.take (i + 1)) b).length c9 (lessL (a.take (i + 1)) b)]
   rw [htk, e1]
   exact hS4.tail
  ·rw [if_pos (Classical.not_not.1 h2), List.append_nil] at htk
   refine Cd.skip (blockQ_n (tQ (Cd.region (Ops.mi rfl rfl rfl (Ops.add rfl rfl rfl (by omega) (Ops.mi rfl rfl rfl (Ops.n (tQ ?_))))))))
   refine ⟨(i + 1, A3, c3), by show n - (i + 1) < n - i; omega, ⟨rfl, rfl, by show Value.slice _ _ _ = .slice _ _ _; rw [htk], rfl, trivial⟩, ?_, by show i + 1 ≤ n; omega⟩
   show St w w2 [CkI _ A3 (lessL (a.take (i + 1)) b).length c3 (lessL (a.take (i + 1)) b)]
   rw [htk]
   exact hS2
 ·have hie : a.take i = a := List.take_of_length_le (by omega)
  rw [hie] at hS2
  refine Cd.exit (thenQ_x (thenQ_x (blockQ_x (tQ (Cd.seq (Cd.region (Ops.ms rfl rfl rfl (Ops.ms rfl rfl rfl (Ops.n ?_)))))))))
  refine tQ (Cd.ret (ret1_s rfl ?_))
  rw [hie]
  exact ⟨A3, c3, rfl, hS2⟩

def encS (g : Int) : Int := if g = 0 then -1 else g
theorem encS_step {g w : Int} (hg : 0 ≤ g) : (if 0 < w ∧ (encS g < 0 ∨ w + 1 < encS g) then w + 1 else encS g) = encS (gstep g w) := by
  unfold encS gstep
  (repeat' split) <;> omega

theorem specGirthOf_c (A : Option Addr) (n c : Nat) (rs : List SlV) (xss : List (List Int)) (w : World) (hR : RowsI w A n rs xss) (hn : n ≤ 9223372036854775807) :
  Ret Tryz.prog 15 [.agg #[.slice A n c]] w (fun v w' => v = .tuple #[.int .i64 (girV xss), .int .i64 (girK xss)] ∧ St w w' []) := by
 refine Ret.of_cd Tryz.func15 rfl Tryz.ntmps15 rfl (post2 rfl) (Cd.seq (Cd.region (Ops.box1 (St.refl w) rfl rfl ?_)))
 intro Ab w1 hS1
 refine Ops.mi rfl rfl rfl (Ops.mi rfl rfl rfl (Ops.n (tQ (Cd.seq (Cd.seq (Cd.region (Ops.ld_agg 0 (hS1.rd 0 rfl) rfl rfl rfl (Ops.call (l18Is_c A n c rs xss _ (hS1.oldRows hR) hn) rfl rfl rfl ?_))))))))
 rintro _ w2 ⟨rfl, hst⟩
 have hS2 := hS1.later hst.below
 first | refine Ops.not_p rfl rfl ?_ | refine Ops.not rfl rfl ?_
 refine Ops.n (tQ ?_)
 refine Cd.cond_p _ rfl (fun h => ?_) (fun h => ?_)
 ·refine Cd.seq (Cd.region (Ops.mi rfl rfl rfl (Ops.mi rfl rfl rfl (Ops.n (tQ (Cd.ret (thenQ_r (ret2_ii rfl rfl ?_))))))))
  exact ⟨by rw [girV, girK, if_neg h, if_pos h], hS2.none⟩
 have hG : Grph xss := Classical.not_not.1 h
 have hM := hG.1
 have hg := nb_gr hM
 have hsm := nb_small hM
 have hel := endsL_len xss
 have hep := ends_pos hM
 have hmem : ∀ e : Nat, ∀ x ∈ gl (endsL xss) (e : Int), 0 ≤ x ∧ x < (vertsN xss : Int) := fun e => endsL_mem hM e (by omega)
 have hVf : girV xss = girN xss := by unfold girV; rw [if_pos hG]
 have hKf : girK xss = if girN xss = 0 then 4 else 0 := by unfold girK; rw [if_neg (fun h => h hG)]
 refine Cd.skip (tQ (Cd.seq (Cd.region (Ops.ld_agg 0 (hS2.rd 0 rfl) rfl rfl rfl (Ops.call (l18Ends_c A n c rs xss _ (hS2.oldRows hR) hG) rfl rfl rfl ?_)))))
 rintro _ w3 ⟨A4, rs4, rfl, hrl4, hst3⟩
 have hE := hst3.rowsI (endsL_len xss)
 have hS3 := hS2.later hst3.below
 refine Ops.ms rfl rfl rfl (Ops.n (tQ (Cd.seq (Cd.seq (Cd.region (Ops.mi rfl rfl rfl (Ops.n (tQ (Cd.block ?_)))))))))
 refine Cd.loop (α := Nat) (fun e => [(1, .pointer Ab), (4, .slice A4 (edgesN xss) (edgesN xss)), (5, .int .i64 (e : Int))]) (fun e w' => w' = w3 ∧ e ≤ edgesN xss ∧ ∀ j, j < e → (gl (endsL xss) (j : Int)).length ≠ 1) (fun e => edgesN xss - e) 0 ⟨rfl, rfl, rfl, trivial⟩ ⟨rfl, Nat.zero_le _, fun j hj => absurd hj (Nat.not_lt_zero j)⟩ ?_
 rintro k e w3 ⟨rfl, hk, hno⟩
 refine Cd.seq (Cd.seq (Cd.region (Ops.mi rfl rfl rfl (Ops.ms rfl rfl rfl (Ops.len rfl rfl (Ops.lss rfl rfl rfl (Ops.n (tQ ?_))))))))
 refine Cd.cond_p _ rfl (fun h1 => ?_) (fun h1 => ?_)
 ·have hk' : k < edgesN xss := by omega
  have hrow := hE.at_ (i := (k : Int)) (by omega) (by omega)
  have hrn : (gl (endsL xss) (k : Int)).length = (rg rs4 (k : Int)).n := hrow.1
  refine Cd.skip (tQ (Cd.seq (Cd.block (Cd.seq (Cd.region (Ops.ms rfl rfl rfl (Ops.mi rfl rfl rfl (Ops.idx hE.top.2 rfl rfl rfl (by omega) (by omega) (Ops.ld_sl hE.top rfl (by omega) rfl rfl ?_)))))))))
  refine Ops.len rfl rfl (Ops.eql rfl rfl rfl (Ops.n (tQ ?_)))
  refine Cd.cond_p _ rfl (fun h2 => ?_) (fun h2 => ?_)
  ·refine Cd.seq (Cd.region (Ops.mi rfl rfl rfl (Ops.mi rfl rfl rfl (Ops.n (tQ (Cd.ret (blockQ_r (thenQ_r (thenQ_r ?_)))))))))
   refine blockQ_r (thenQ_r (ret2_ii rfl rfl ?_))
   have hgn := girN_loop (xss := xss) ⟨k, hk', by omega⟩
   exact ⟨by rw [hVf, hKf, hgn]; rfl, hS3.none⟩
  ·refine Cd.skip (blockQ_n (tQ (Cd.region (Ops.mi rfl rfl rfl (Ops.add rfl rfl rfl (by omega) (Ops.mi rfl rfl rfl (Ops.n (tQ ?_))))))))
   refine ⟨k + 1, by omega, ⟨rfl, rfl, rfl, trivial⟩, rfl, hk', fun j hj => ?_⟩
   by_cases ej : j = k
   ·subst ej; omega
   ·exact hno j (by omega)
 have hke : k = edgesN xss := by omega
 subst hke
 have hnl : ¬ Loop1 xss := fun ⟨e, he, h⟩ => hno e he h
 have hall := all_two hG hnl
 refine Cd.exit (thenQ_x (thenQ_x (blockQ_x (tQ (Cd.seq (Cd.seq (Cd.region (Ops.mi rfl rfl rfl (Ops.n ?_)))))))))
 refine tQ (Cd.block ?_)
 refine Cd.loop (α := Nat) (fun e => [(1, .pointer Ab), (4, .slice A4 (edgesN xss) (edgesN xss)), (6, .int .i64 (e : Int))]) (fun e w' => St w3 w' [] ∧ e ≤ edgesN xss ∧ ((endsL xss).take e).Nodup) (fun e => edgesN xss - e) 0 ⟨rfl, rfl, rfl, trivial⟩ ⟨St.refl _, Nat.zero_le _, List.nodup_nil⟩ ?_
 rintro k e w4 ⟨hS4, hk, hnd⟩
 refine Cd.seq (Cd.seq (Cd.region (Ops.mi rfl rfl rfl (Ops.ms rfl rfl rfl (Ops.len rfl rfl (Ops.lss rfl rfl rfl (Ops.n (tQ ?_))))))))
 refine Cd.cond_p _ rfl (fun h2 => ?_) (fun h2 => ?_)
 ·have hk' : k < edgesN xss := by omega
  have hnt := nodup_take (En := endsL xss) (k := k) (by omega)
  refine Cd.skip (tQ (Cd.seq (Cd.block (Cd.seq (Cd.region (Ops.mi rfl rfl rfl (Ops.n (tQ (Cd.block ?_)))))))))
  refine Cd.loop (α := Nat) (fun j => [(1, .pointer Ab), (4, .slice A4 (edgesN xss) (edgesN xss)), (6, .int .i64 (k : Int)), (7, .int .i64 (j : Int))]) (fun j w' => St w3 w' [] ∧ j ≤ k ∧ ∀ i, i < j → gl (endsL xss) (k : Int) ≠ gl (endsL xss) (i : Int)) (fun j => k - j) 0 ⟨rfl, rfl, rfl, rfl, trivial⟩ ⟨hS4, Nat.zero_le _, fun i hi => absurd hi (Nat.not_lt_zero i)⟩ ?_
  rintro j e w5 ⟨hS5, hj, hne⟩
  refine Cd.seq (Cd.seq (Cd.region (Ops.mi rfl rfl rfl (Ops.mi rfl rfl rfl (Ops.lss rfl rfl rfl (Ops.n (tQ ?_)))))))
  refine Cd.cond_p _ rfl (fun h3 => ?_) (fun h3 => ?_)
  ·have hj' : j < k := by omega
   have hE5 := hS5.oldRows hE
   have hrk := hE5.at_ (i := (k : Int)) (by omega) (by omega)
   have hrj := hE5.at_ (i := (j : Int)) (by omega) (by omega)
   have hck := hE5.cap_ (i := (k : Int)) (by omega) (by omega)
   refine Cd.skip (tQ (Cd.seq (Cd.block (Cd.seq ?_))))
   refine Cd.draw [.ex (.slice (A4) (edgesN xss) (edgesN xss)), .ex (.int .i64 ((k : Int))), .ex (.pointer (ptrAt (A4) ((k : Int)).toNat)), .ex (.slice ((rg (rs4) ((k : Int))).a) ((rg (rs4) ((k : Int))).n) ((rg (rs4) ((k : Int))).c)), .ex (.slice (A4) (edgesN xss) (edgesN xss)), .ex (.int .i64 ((j : Int))), .ex (.pointer (ptrAt (A4) ((j : Int)).toNat)), .ex (.slice ((rg (rs4) ((j : Int))).a) ((rg (rs4) ((j : Int))).n) ((rg (rs4) ((j : Int))).c)), .ex (.bool (decide (gl (endsL xss) (k : Int) = gl (endsL xss) (j : Int))))] (by kernel_rfl) (by kernel_rfl) rfl (lx (lx (lx (lx (lx (lx (lx (lx (lx (fun _ h => by cases h)))))))))) ⟨?_, ?_, ?_, ?_, ?_, ?_, ?_, ?_, ?_, trivial⟩ ?_
   ·intro e1 w1 hb hp hun
    refine Ops.ms rfl rfl rfl (Ops.n (d0 (by exact rfl)))
   ·intro e1 w1 hb hp hun
    refine Ops.mi rfl rfl rfl (Ops.n (d0 (by exact rfl)))
   ·intro e1 w1 hb hp hun
    refine Ops.idx (hE5.top.later hb).2 rfl rfl rfl (by omega) (by omega) (Ops.n (d0 (by exact rfl)))
   ·intro e1 w1 hb hp hun
    refine Ops.ld_sl (hE5.top.later hb) rfl (by omega) rfl rfl (Ops.n (d0 (by exact rfl)))
   ·intro e1 w1 hb hp hun
    refine Ops.ms rfl rfl rfl (Ops.n (d0 (by exact rfl)))
   ·intro e1 w1 hb hp hun
    refine Ops.mi rfl rfl rfl (Ops.n (d0 (by exact rfl)))
   ·intro e1 w1 hb hp hun
    refine Ops.idx (hE5.top.later hb).2 rfl rfl rfl (by omega) (by omega) (Ops.n (d0 (by exact rfl)))
   ·intro e1 w1 hb hp hun
    refine Ops.ld_sl (hE5.top.later hb) rfl (by omega) rfl rfl (Ops.n (d0 (by exact rfl)))
   ·intro e1 w1 hb hp hun
    refine Ops.call (l01Same_c _ _ _ _ _ _ _ _ _ (hrk.later hb) (hrj.later hb) (by omega)) rfl rfl rfl ?_
    rintro _ w2 ⟨rfl, hst⟩
    refine Ops.n ?_
    exact After.dn hst.below (by exact rfl)
   intro u w6 hb6 _
   have hS6 := hS5.later hb6
   refine tQ ?_
   refine Cd.cond_p _ rfl (fun h4 => ?_) (fun h4 => ?_)
   ·refine Cd.seq (Cd.region (Ops.mi rfl rfl rfl (Ops.mi rfl rfl rfl (Ops.n (tQ (Cd.ret (blockQ_r (thenQ_r (thenQ_r ?_)))))))))
    refine blockQ_r (blockQ_r (thenQ_r (thenQ_r (blockQ_r (thenQ_r (ret2_ii rfl rfl ?_))))))
    have hgj : gl (endsL xss) (j : Int) ∈ (endsL xss).take k := by
     have e : gl (endsL xss) (j : Int) = (endsL xss)[j]'(by omega) := by simp [gl, List.getD_eq_getElem?_getD, show j < (endsL xss).length by omega]
     rw [e]
     exact List.mem_take_iff_getElem.2 ⟨j, by omega, rfl⟩
    have hgn := girN_double hnl (fun hN : (endsL xss).Nodup => (hnt.1 (hN.sublist (List.take_sublist _ _))).2 (by rw [h4]; exact hgj))
    exact ⟨by rw [hVf, hKf, hgn]; rfl, (hS3.later hS6.below).none⟩
   ·refine Cd.skip (blockQ_n (tQ (Cd.region (Ops.mi rfl rfl rfl (Ops.add rfl rfl rfl (by omega) (Ops.mi rfl rfl rfl (Ops.n (tQ ?_))))))))
    refine ⟨j + 1, by omega, ⟨rfl, rfl, rfl, rfl, trivial⟩, hS6, hj', fun i hi => ?_⟩
    by_cases ei : i = j
    ·subst ei; exact h4
    ·exact hne i (by omega)
  ·have hje : j = k := by omega
   subst hje
   refine Cd.exit (thenQ_x (thenQ_x (blockQ_x (blockQ_n (tQ (Cd.region (Ops.mi rfl rfl rfl (Ops.add rfl rfl rfl (by omega) (Ops.mi rfl rfl rfl ?_)))))))))
   refine Ops.n (tQ ?_)
   refine ⟨j + 1, by omega, ⟨rfl, rfl, rfl, trivial⟩, hS5, hk', hnt.2 ⟨hnd, fun hm => ?_⟩⟩
   obtain ⟨i, hi, e⟩ := List.mem_take_iff_getElem.1 hm
   have e2 : gl (endsL xss) (i : Int) = (endsL xss)[i] := by simp [gl, List.getD_eq_getElem?_getD, show i < (endsL xss).length by omega]
   exact hne i (by omega) (by rw [← e, e2])
 have hke : k = edgesN xss := by omega
 subst hke
 rw [show (endsL xss).take (edgesN xss) = endsL xss from List.take_of_length_le (by omega)] at hnd
 have hfin := girN_spec hnl hnd
 have hS4' := hS3.later hS4.below
 have hE4 := hS4.oldRows hE
 refine Cd.exit (thenQ_x (thenQ_x (blockQ_x (tQ (Cd.seq (Cd.region (Ops.ld_agg 0 (hS4'.rd 0 rfl) rfl rfl rfl (Ops.call (l18Neighbours_c A n c rs xss _ (hS4'.oldRows hR) hG) rfl rfl rfl ?_))))))))
 rintro _ w5 ⟨A8, rs8, rfl, hrl8, hst5⟩
 have hN := hst5.rowsI (nbL_len xss)
 have hE5 := hE4.later hst5.below
 have hS5 := (hS4'.later hst5.below).none
 have hsp : ∀ (e : Nat), e ≤ edgesN xss → ∀ x ∈ (specW (endsL xss) (nbL xss)).take e, x ≤ (vertsN xss : Int) := fun e he x hx => by
  have hx := List.mem_of_mem_take hx
  unfold specW at hx
  obtain ⟨l, hl, rfl⟩ := List.mem_map.1 hx
  obtain ⟨j, hj, rfl⟩ := List.mem_iff_getElem.1 hl
  have e1 : (endsL xss)[j] = gl (endsL xss) (j : Int) := by simp [gl, List.getD_eq_getElem?_getD, hj]
  rw [e1]
  have hr := ends_rng hM j (hall j (by omega))
  have := way_small hg hr.1.1 hr.1.2 hr.2.1 hr.2.2
  omega
 have hspl : (specW (endsL xss) (nbL xss)).length = edgesN xss := by unfold specW; rw [List.length_map, hel]
 refine Ops.ms rfl rfl rfl (Ops.mi rfl rfl rfl (Ops.n (tQ (Cd.seq (Cd.seq (Cd.region (Ops.mi rfl rfl rfl (Ops.n (tQ ?_)))))))))
 refine Cd.block ?_
 refine Cd.loop (α := Nat) (fun e => [(4, .slice A4 (edgesN xss) (edgesN xss)), (8, .slice A8 (vertsN xss) (vertsN xss)), (9, .int .i64 (encS (mnG ((specW (endsL xss) (nbL xss)).take e)))), (10, .int .i64 (e : Int))]) (fun e w' => St w5 w' [] ∧ e ≤ edgesN xss) (fun e => edgesN xss - e) 0 ⟨rfl, rfl, rfl, rfl, trivial⟩ ⟨St.refl _, Nat.zero_le _⟩ ?_
 rintro k e w6 ⟨hS6, hk⟩
 have hbm := mnG_bd (hsp k hk) (by omega)
 have hbe : -1 ≤ encS (mnG ((specW (endsL xss) (nbL xss)).take k)) ∧ encS (mnG ((specW (endsL xss) (nbL xss)).take k)) ≤ (vertsN xss : Int) + 1 := by unfold encS; split <;> omega
 refine Cd.seq (Cd.seq (Cd.region (Ops.mi rfl rfl rfl (Ops.ms rfl rfl rfl (Ops.len rfl rfl (Ops.lss rfl rfl rfl (Ops.n (tQ ?_))))))))
 refine Cd.cond_p _ rfl (fun h5 => ?_) (fun h5 => ?_)
 ·have hk' : k < edgesN xss := by omega
  have h2k := hall k hk'
  have hE6 := hS6.oldRows hE5
  have hrow := hE6.at_ (i := (k : Int)) (by omega) (by omega)
  have hrn : (gl (endsL xss) (k : Int)).length = (rg rs4 (k : Int)).n := hrow.1
  have hr := ends_rng hM k h2k
  have hlt := ends_lt k h2k
  have hspk : gi (specW (endsL xss) (nbL xss)) (k : Int) = wayL (nbL xss) (gi (gl (endsL xss) (k : Int)) 0) (gi (gl (endsL xss) (k : Int)) 1) := by
   have e1 : (endsL xss)[k]'(by omega) = gl (endsL xss) (k : Int) := by simp [gl, List.getD_eq_getElem?_getD, hel, hk']
   rw [gi_mem (by omega)]
   unfold specW
   rw [List.getElem_map, e1]
  have hstep : mnG ((specW (endsL xss) (nbL xss)).take (k + 1)) = gstep (mnG ((specW (endsL xss) (nbL xss)).take k)) (wayL (nbL xss) (gi (gl (endsL xss) (k : Int)) 0) (gi (gl (endsL xss) (k : Int)) 1)) := by
   rw [take_succ_gi (by omega), mnG_snoc, hspk]
  refine Cd.skip (tQ (Cd.seq (Cd.block (Cd.seq ?_))))
  refine Cd.draw [.ex (.slice (A4) (edgesN xss) (edgesN xss)), .ex (.int .i64 ((k : Int))), .ex (.pointer (ptrAt (A4) ((k : Int)).toNat)), .ex (.slice ((rg (rs4) ((k : Int))).a) ((rg (rs4) ((k : Int))).n) ((rg (rs4) ((k : Int))).c)), .ex (.pointer (ptrAt ((rg (rs4) ((k : Int))).a) ((0 : Int)).toNat)), .ex (.int .i64 (gi (gl (endsL xss) (k : Int)) ((0 : Int)))), .ex (.slice (A4) (edgesN xss) (edgesN xss)), .ex (.int .i64 ((k : Int))), .ex (.pointer (ptrAt (A4) ((k : Int)).toNat)), .ex (.slice ((rg (rs4) ((k : Int))).a) ((rg (rs4) ((k : Int))).n) ((rg (rs4) ((k : Int))).c)), .ex (.pointer (ptrAt ((rg (rs4) ((k : Int))).a) ((1 : Int)).toNat)), .ex (.int .i64 (gi (gl (endsL xss) (k : Int)) ((1 : Int)))), .ex (.int .i64 (gi (gl (endsL xss) (k : Int)) ((0 : Int)))), .ex (.int .i64 (gi (gl (endsL xss) (k : Int)) ((1 : Int))))] (by kernel_rfl) (by kernel_rfl) rfl (lx (lx (lx (lx (lx (lx (lx (lx (lx (lx (lx (lx (lx (lx (fun _ h => by cases h))))))))))))))) ⟨?_, ?_, ?_, ?_, ?_, ?_, ?_, ?_, ?_, ?_, ?_, ?_, ?_, ?_, trivial⟩ ?_
  ·intro e1 w1 hb hp hun
   refine Ops.ms rfl rfl rfl (Ops.n (d0 (by exact rfl)))
  ·intro e1 w1 hb hp hun
   refine Ops.mi rfl rfl rfl (Ops.n (d0 (by exact rfl)))
  ·intro e1 w1 hb hp hun
   refine Ops.idx (hE6.top.later hb).2 rfl rfl rfl (by omega) (by omega) (Ops.n (d0 (by exact rfl)))
  ·intro e1 w1 hb hp hun
   refine Ops.ld_sl (hE6.top.later hb) rfl (by omega) rfl rfl (Ops.n (d0 (by exact rfl)))
  ·intro e1 w1 hb hp hun
   refine Ops.idx (hrow.later hb).2 rfl rfl rfl (by omega) (by omega) (Ops.n (d0 (by exact rfl)))
  ·intro e1 w1 hb hp hun
   refine Ops.ld_int (hrow.later hb) rfl (by omega) rfl rfl (Ops.n (d0 (by exact rfl)))
  ·intro e1 w1 hb hp hun
   refine Ops.ms rfl rfl rfl (Ops.n (d0 (by exact rfl)))
  ·intro e1 w1 hb hp hun
   refine Ops.mi rfl rfl rfl (Ops.n (d0 (by exact rfl)))
  ·intro e1 w1 hb hp hun
   refine Ops.idx (hE6.top.later hb).2 rfl rfl rfl (by omega) (by omega) (Ops.n (d0 (by exact rfl)))
  ·intro e1 w1 hb hp hun
   refine Ops.ld_sl (hE6.top.later hb) rfl (by omega) rfl rfl (Ops.n (d0 (by exact rfl)))
  ·intro e1 w1 hb hp hun
   refine Ops.idx (hrow.later hb).2 rfl rfl rfl (by omega) (by omega) (Ops.n (d0 (by exact rfl)))
  ·intro e1 w1 hb hp hun
   refine Ops.ld_int (hrow.later hb) rfl (by omega) rfl rfl (Ops.n (d0 (by exact rfl)))
  ·intro e1 w1 hb hp hun
   refine Ops.mi rfl rfl rfl (Ops.n (d0 (by exact rfl)))
  ·intro e1 w1 hb hp hun
   refine Ops.mi rfl rfl rfl (Ops.n (d0 (by exact rfl)))
  intro u2 w7 hb7 _
  have hS7 := hS6.later hb7
  generalize hu : gi (gl (endsL xss) (k : Int)) 0 = u at *
  generalize hv : gi (gl (endsL xss) (k : Int)) 1 = v at *
  have hN7 := hS7.oldRows hN
  have hway := way_small hg hr.1.1 hr.1.2 hr.2.1 hr.2.2
  have hrrl : ∀ i, i < vertsN xss → (rs8.getD i slNil).n ≤ 1000000000 := fun i hi => by
   have h1 := (hN7.row i hi).1
   have h2 := (hg.row (i : Int) (by omega)).2
   simp only [gl, Int.toNat_natCast] at h2
   omega
  refine tQ (Cd.seq (Cd.region (Ops.ms rfl rfl rfl (Ops.call (l01Own2_c A8 (vertsN xss) (vertsN xss) rs8 (nbL xss) _ hN7 (by omega) hrrl) rfl rfl rfl ?_))))
  rintro _ w8 ⟨A13, c13, rs13, rfl, hrl13, hst8⟩
  have hS8 := hS7.call hst8
  rw [List.append_nil] at hS8
  have hN8 := hS8.oldRows hN
  have hru := hg.row u hr.1.1
  have hrv := hg.row v hr.2.1
  refine Ops.ms rfl rfl rfl (Ops.n (tQ (Cd.seq (Cd.region (Ops.ms rfl rfl rfl (Ops.mi rfl rfl rfl (Ops.ms rfl rfl rfl (Ops.mi rfl rfl rfl (Ops.idx hN8.top.2 rfl rfl rfl hr.1.1 hr.1.2 ?_)))))))))
  refine Ops.ld_sl hN8.top rfl (by omega) rfl rfl (Ops.mi rfl rfl rfl (Ops.bs1I hS8 rfl rfl rfl ?_))
  intro A81 w9 hS9
  have hra := (hS9.oldRows hN).at_ (i := u) hr.1.1 hr.1.2
  have hran : (gl (nbL xss) u).length = (rg rs8 u).n := hra.1
  refine Ops.call (l17Without_c _ _ _ (gl (nbL xss) u) A81 1 1 [v] _ hra (hS9.rdI 0 rfl) (by omega) (by omega)) rfl rfl rfl ?_
  rintro _ w10 ⟨A82, c82, rfl, hst10⟩
  have hS10 := hS9.call hst10
  have hS10 : St w5 w10 (CkI 2 A82 (lessL (gl (nbL xss) u) [v]).length c82 (lessL (gl (nbL xss) u) [v]) :: CkI 2 A81 1 1 [v] :: CkR 28 A13 (vertsN xss) c13 rs13 :: rowsCk 2 rs13 (nbL xss)) := hS10
  refine Ops.idx (hS10.rdR 2 rfl).2 rfl rfl rfl hr.1.1 hr.1.2 (Ops.st_sl 2 hS10 rfl rfl rfl (by omega) ?_)
  intro w11 hS11
  have hS11 : St w5 w11 (CkI 2 A82 (lessL (gl (nbL xss) u) [v]).length c82 (lessL (gl (nbL xss) u) [v]) :: CkI 2 A81 1 1 [v] :: CkR 28 A13 (vertsN xss) c13 (rs13.set u.toNat ⟨A82, (lessL (gl (nbL xss) u) [v]).length, c82⟩) :: rowsCk 2 rs13 (nbL xss)) := hS11
  have hN11 := hS11.oldRows hN
  refine Ops.n (tQ (Cd.seq (Cd.region (Ops.ms rfl rfl rfl (Ops.mi rfl rfl rfl (Ops.ms rfl rfl rfl (Ops.mi rfl rfl rfl (Ops.idx hN11.top.2 rfl rfl rfl hr.2.1 hr.2.2 (Ops.ld_sl hN11.top rfl (by omega) rfl rfl ?_)))))))))
  refine Ops.mi rfl rfl rfl (Ops.bs1I hS11 rfl rfl rfl ?_)
  intro A91 w12 hS12
  have hrb := (hS12.oldRows hN).at_ (i := v) hr.2.1 hr.2.2
  have hrbn : (gl (nbL xss) v).length = (rg rs8 v).n := hrb.1
  refine Ops.call (l17Without_c _ _ _ (gl (nbL xss) v) A91 1 1 [u] _ hrb (hS12.rdI 0 rfl) (by omega) (by omega)) rfl rfl rfl ?_
  rintro _ w13 ⟨A92, c92, rfl, hst13⟩
  have hS13 := hS12.call hst13
  have hS13 : St w5 w13 (CkI 2 A92 (lessL (gl (nbL xss) v) [u]).length c92 (lessL (gl (nbL xss) v) [u]) :: CkI 2 A91 1 1 [u] :: CkI 2 A82 (lessL (gl (nbL xss) u) [v]).length c82 (lessL (gl (nbL xss) u) [v]) :: CkI 2 A81 1 1 [v] :: CkR 28 A13 (vertsN xss) c13 (rs13.set u.toNat ⟨A82, (lessL (gl (nbL xss) u) [v]).length, c82⟩) :: rowsCk 2 rs13 (nbL xss)) := hS13
  refine Ops.idx (hS13.rdR 4 rfl).2 rfl rfl rfl hr.2.1 hr.2.2 (Ops.st_sl 4 hS13 rfl rfl rfl (by omega) ?_)
  intro w14 hS14
  have hS14 : St w5 w14 ([CkI 2 A92 (lessL (gl (nbL xss) v) [u]).length c92 (lessL (gl (nbL xss) v) [u]), CkI 2 A91 1 1 [u], CkI 2 A82 (lessL (gl (nbL xss) u) [v]).length c82 (lessL (gl (nbL xss) u) [v]), CkI 2 A81 1 1 [v], CkR 28 A13 (vertsN xss) c13 ((rs13.set u.toNat ⟨A82, (lessL (gl (nbL xss) u) [v]).length, c82⟩).set v.toNat ⟨A92, (lessL (gl (nbL xss) v) [u]).length, c92⟩)] ++ (rowsCk 2 rs13 (nbL xss) ++ [])) := by
   rw [List.append_nil]; exact hS14
  have hW := ((hS14.rowsW hrl13 (nbL_len xss)).put u.toNat (s := ⟨A82, (lessL (gl (nbL xss) u) [v]).length, c82⟩) (hS14.rdI 2 rfl) (hS14.cap 2 rfl)).put v.toNat (s := ⟨A92, (lessL (gl (nbL xss) v) [u]).length, c92⟩) (hS14.rdI 0 rfl) (hS14.cap 0 rfl)
  have hI := hW.I (hS14.rdR 4 rfl)
  have hI : RowsI w14 A13 (vertsN xss) _ (restL (nbL xss) u v) := hI
  have hgr := rest_gr hg hr.1.1 hr.1.2 hr.2.1 hr.2.2
  refine Ops.n (tQ (Cd.seq (Cd.region (Ops.ms rfl rfl rfl (Ops.mi rfl rfl rfl (Ops.call (l18Distances_c A13 (vertsN xss) c13 _ (restL (nbL xss) u v) u (-1) _ hI hgr hr.1.1 hr.1.2) rfl rfl rfl ?_))))))
  rintro _ w15 ⟨A96, rfl, hst15⟩
  have hS15 := (hS14.later hst15.below).none
  have hD := hst15.rdI 0 rfl
  refine Ops.mi rfl rfl rfl (Ops.idx hD.2 rfl rfl rfl hr.2.1 hr.2.2 (Ops.ld_int hD rfl (by omega) rfl rfl ?_))
  rw [show gi (distP (restL (nbL xss) u v) (-1) u).1 v = wayL (nbL xss) u v from rfl]
  generalize wayL (nbL xss) u v = wy at *
  have hes := encS_step (g := mnG ((specW (endsL xss) (nbL xss)).take k)) (w := wy) hbm.1
  rw [← hstep] at hes
  generalize encS (mnG ((specW (endsL xss) (nbL xss)).take k)) = b at *
  refine Ops.mi rfl rfl rfl (Ops.n (tQ (Cd.seq (Cd.region (Ops.mi rfl rfl rfl (Ops.gtr rfl rfl rfl (Ops.mb rfl rfl rfl ?_)))))))
  refine Ops.split_p 102 rfl (fun h6 => ?_) (fun h6 => ?_)
  ·refine Ops.g rfl rfl rfl (Ops.mi rfl rfl rfl (Ops.g rfl rfl rfl (Ops.lss rfl rfl rfl (Ops.g rfl rfl rfl (Ops.mb rfl rfl rfl ?_)))))
   refine Ops.split_p 105 rfl (fun h7 => ?_) (fun h7 => ?_)
   ·rw [if_pos ⟨h6, .inl h7⟩] at hes
    refine Ops.k rfl rfl rfl rfl rfl (Ops.k rfl rfl rfl rfl rfl (Ops.k rfl rfl rfl rfl rfl (Ops.k rfl rfl rfl rfl rfl (Ops.g rfl rfl rfl (Ops.pick_t rfl rfl rfl (Ops.pick_t rfl rfl rfl (Ops.n (tQ (Cd.cond_t rfl ?_)))))))))
    refine Cd.region (Ops.mi rfl rfl rfl (Ops.add rfl rfl rfl (by omega) (Ops.mi rfl rfl rfl (Ops.n (blockQ_n (tQ (Cd.region (Ops.mi rfl rfl rfl (Ops.add rfl rfl rfl (by omega) ?_)))))))))
    refine Ops.mi rfl rfl rfl (Ops.n (tQ ?_))
    exact ⟨k + 1, by omega, ⟨rfl, rfl, by show Value.int .i64 _ = .int .i64 _; rw [hes], rfl, trivial⟩, hS15, hk'⟩
   ·refine Ops.g rfl rfl rfl (Ops.mi rfl rfl rfl (Ops.g rfl rfl rfl (Ops.add rfl rfl rfl (by omega) (Ops.g rfl rfl rfl (Ops.mi rfl rfl rfl (Ops.g rfl rfl rfl (Ops.lss rfl rfl rfl (Ops.g rfl rfl rfl (Ops.pick_f rfl rfl rfl ?_)))))))))
    refine Ops.pick_t rfl rfl rfl (Ops.n (tQ ?_))
    refine Cd.cond_p _ rfl (fun h8 => ?_) (fun h8 => ?_)
    ·rw [if_pos ⟨h6, .inr h8⟩] at hes
     refine Cd.region (Ops.mi rfl rfl rfl (Ops.add rfl rfl rfl (by omega) (Ops.mi rfl rfl rfl (Ops.n (blockQ_n (tQ (Cd.region (Ops.mi rfl rfl rfl (Ops.add rfl rfl rfl (by omega) ?_)))))))))
     refine Ops.mi rfl rfl rfl (Ops.n (tQ ?_))
     exact ⟨k + 1, by omega, ⟨rfl, rfl, by show Value.int .i64 _ = .int .i64 _; rw [hes], rfl, trivial⟩, hS15, hk'⟩
    ·rw [if_neg (fun h => h.2.elim h7 h8)] at hes
     refine Cd.skip (blockQ_n (tQ (Cd.region (Ops.mi rfl rfl rfl (Ops.add rfl rfl rfl (by omega) (Ops.mi rfl rfl rfl (Ops.n (tQ ?_))))))))
     exact ⟨k + 1, by omega, ⟨rfl, rfl, by show Value.int .i64 _ = .int .i64 _; rw [hes], rfl, trivial⟩, hS15, hk'⟩
  ·rw [if_neg (fun h => h6 h.1)] at hes
   refine Ops.k rfl rfl rfl rfl rfl (Ops.k rfl rfl rfl rfl rfl (Ops.k rfl rfl rfl rfl rfl (Ops.skipu rfl rfl rfl rfl (Ops.skipu rfl rfl rfl rfl (Ops.skipu rfl rfl rfl rfl (Ops.skipu rfl rfl rfl rfl (Ops.k rfl rfl rfl rfl rfl (Ops.pick_f rfl rfl rfl (Ops.n ?_)))))))))
   refine tQ (Cd.cond_f rfl (Cd.skip (blockQ_n (tQ (Cd.region (Ops.mi rfl rfl rfl (Ops.add rfl rfl rfl (by omega) (Ops.mi rfl rfl rfl (Ops.n ?_)))))))))
   refine tQ ?_
   exact ⟨k + 1, by omega, ⟨rfl, rfl, by show Value.int .i64 _ = .int .i64 _; rw [hes], rfl, trivial⟩, hS15, hk'⟩
 ·have hke : k = edgesN xss := by omega
  subst hke
  rw [show (specW (endsL xss) (nbL xss)).take (edgesN xss) = specW (endsL xss) (nbL xss) from List.take_of_length_le (by omega), ← hfin] at hbm ⊢
  rw [hVf, hKf]
  refine Cd.exit (thenQ_x (thenQ_x (blockQ_x (tQ (Cd.seq (Cd.seq (Cd.region (Ops.mi rfl rfl rfl (Ops.lss rfl rfl rfl ?_)))))))))
  refine Ops.n (tQ ?_)
  refine Cd.cond_p _ rfl (fun h6 => ?_) (fun h6 => ?_)
  ·have h0 : girN xss = 0 := by
    unfold encS at h6
    split at h6
    ·assumption
    ·omega
   refine Cd.seq (Cd.region (Ops.mi rfl rfl rfl (Ops.mi rfl rfl rfl (Ops.n (tQ (Cd.ret (thenQ_r (ret2_ii rfl rfl ?_))))))))
   exact ⟨by rw [h0]; rfl, hS5.later hS6.below⟩
  ·have h0 : girN xss ≠ 0 := fun h => h6 (by rw [h]; decide)
   refine Cd.skip (tQ (Cd.seq (Cd.region (Ops.mi rfl rfl rfl (Ops.mi rfl rfl rfl (Ops.mi rfl rfl rfl (Ops.n (tQ (Cd.ret ?_)))))))))
   refine ret2_ii rfl rfl ?_
   exact ⟨by rw [if_neg h0]; unfold encS; rw [if_neg h0], hS5.later hS6.below⟩

theorem implGirthOf_c (A : Option Addr) (n c : Nat) (rs : List SlV) (xss : List (List Int)) (w : World) (hT : Tab w) (hR : RowsI w A n rs xss) (hn : n ≤ c) (hc : c ≤ 9223372036854775807) :
  Ret Tryz.prog 14 [.agg #[.slice A n c]] w (fun v w' => v = .tuple #[.int .i64 (girV xss), .int .i64 (girK xss)] ∧ St w w' []) := by
 refine Ret.of_cd Tryz.func14 rfl Tryz.ntmps14 rfl (post2 rfl) (Cd.seq (Cd.region (Ops.box1 (St.refl w) rfl rfl ?_)))
 intro Ab w1 hS1
 refine Ops.mi rfl rfl rfl (Ops.mi rfl rfl rfl (Ops.n (tQ (Cd.seq (Cd.region (Ops.ld_agg 0 (hS1.rd 0 rfl) rfl rfl rfl (Ops.call (graphOf_c A n c rs xss none 0 0 [] _ (hS1.oldRows hR) hn hc RdI.nil (by omega)) rfl rfl rfl ?_)))))))
 rintro _ w3 ⟨A3, c3, rs3, rfl, hrl, hst3⟩
 have hS3 := hS1.later hst3.below
 rw [goK_nil] at *
 refine Ops.mv_tup rfl rfl rfl (Ops.extract rfl rfl rfl (Ops.extract rfl rfl rfl (Ops.ms rfl rfl rfl (Ops.mi rfl rfl rfl (Ops.n (tQ (Cd.seq (Cd.seq (Cd.region ?_)))))))))
 refine Ops.mi rfl rfl rfl (Ops.neq rfl rfl rfl (Ops.n (tQ ?_)))
 refine Cd.cond_p _ rfl (fun h => ?_) (fun h => ?_)
 ·have hnG : ¬ Grph xss := fun hG => h (by rw [petrieK, if_pos hG])
  refine Cd.seq (Cd.region (Ops.mi rfl rfl rfl (Ops.mi rfl rfl rfl (Ops.mi rfl rfl rfl (Ops.n (tQ (Cd.ret (thenQ_r (ret2_ii rfl rfl ?_)))))))))
  refine ⟨?_, hS3.none⟩
  rw [petrieK, if_neg hnG, girV, girK, if_neg hnG, if_pos hnG]
 ·have hG : Grph xss := by
   apply Classical.byContradiction
   intro hG
   exact h (by rw [petrieK, if_neg hG]; decide)
  have hVf : girV xss = girN xss := by unfold girV; rw [if_pos hG]
  have hKf : girK xss = if girN xss = 0 then 4 else 0 := by unfold girK; rw [if_neg (fun h => h hG)]
  rw [goL_nil hG, nbL_len] at *
  have hN3 := hst3.rowsI (nbL_len xss)
  refine Cd.skip (tQ (Cd.seq (Cd.region (Ops.ld_agg 0 (hS3.rd 0 rfl) rfl rfl rfl (Ops.call (endsOf_c A n c rs xss _ (hS3.oldRows hR) hG) rfl rfl rfl ?_)))))
  rintro _ w4 ⟨A4, rs4, rfl, hrl4, hst4⟩
  have hE4 := hst4.rowsI (endsL_len xss)
  have hS4 := hS3.later hst4.below
  refine Ops.ms rfl rfl rfl (Ops.call (girthOf_c A4 (edgesN xss) (edgesN xss) rs4 xss A3 c3 rs3 _ (hT.later hS4.below) hG hE4 (hN3.later hst4.below) rfl) rfl rfl rfl ?_)
  rintro _ w5 ⟨rfl, hst5⟩
  have hS5 := hS4.later hst5.below
  rw [hVf, hKf]
  refine Ops.mi rfl rfl rfl (Ops.n (tQ (Cd.seq (Cd.seq (Cd.region (Ops.mi rfl rfl rfl (Ops.eql rfl rfl rfl (Ops.n (tQ ?_)))))))))
  refine Cd.cond_p _ rfl (fun h6 => ?_) (fun h6 => ?_)
  ·refine Cd.seq (Cd.region (Ops.mi rfl rfl rfl (Ops.mi rfl rfl rfl (Ops.n (tQ (Cd.ret (thenQ_r (ret2_ii rfl rfl ?_))))))))
   exact ⟨by rw [h6]; rfl, hS5.none⟩
  ·refine Cd.skip (tQ (Cd.seq (Cd.region (Ops.mi rfl rfl rfl (Ops.mi rfl rfl rfl (Ops.mi rfl rfl rfl (Ops.n (tQ (Cd.ret ?_)))))))))
   refine ret2_ii rfl rfl ?_
   exact ⟨by rw [if_neg h6], hS5.none⟩
end Go.Proofs.YtbhnfehcpnnjcaaGreatDoor.Vc
/-
 A call with two results of which the first lies in memory; a struct of one slice built of nothing. Conditions: as each rule names them.
-/
namespace Go.Proofs.YtbhnfehcpnnjcaaGreatDoor.Vc
open Go.RowKit
section
variable {P : Program} {N : Nat} {ops : Array Oper} {K : Env → World → Prop} {rest : List Oper} {e : Env} {w0 w w' : World} {ks : List Ck} {d : Nat} {ty : TypeId} {pos : String} {af : Array Edge}
def retc2 (a n u : Nat) (R : Value → World → Prop) : Post
 | .normal, e, w => ∃ A f, e a = .pointer A ∧ Rd w A n f ∧ R (.tuple #[.agg ((List.range n).map f).toArray, e u]) w
 | .ret, e, w => ∃ A f, e a = .pointer A ∧ Rd w A n f ∧ R (.tuple #[.agg ((List.range n).map f).toArray, e u]) w
 | _, _, _ => False
theorem retc2_r {a n u : Nat} {R : Value → World → Prop} {A : Option Addr} {f : Nat → Value} {v : Value} (h : e a = .pointer A) (hR : Rd w A n f) (hv : e u = v) (h2 : R (.tuple #[.agg ((List.range n).map f).toArray, v]) w) : retc2 a n u R .ret e w := ⟨A, f, h, hR, by rw [hv]; exact h2⟩
theorem postc2 {fn : Func} {R : Value → World → Prop} {a t n b u : Nat} {fs : Array Field} {z : Value} [Und P t (.struct fs)] [Inf P t z n b] (hr : fn.results = #[.cell a t, .tmp u]) (hn' : Nat.blt 0 n = true) : ∀ x a1 e w, Rep N a1 e → retc2 a n u R x e w → bodyPost P fn (fun x w' => ∃ v, x = .returned v ∧ R v w') x a1 w := by
  intro x a1 e w he q
  have hn : 0 < n := by simpa [Nat.blt_eq] using hn'
  have hg := he.get a
  have hh := he.get u
  have key : ∀ (A : Option Addr) (f : Nat → Value), e a = .pointer A → Rd w A n f → (results fn a1.tmps).run P w = .ok (.tuple #[.agg ((List.range n).map f).toArray, e u]) w := by
    intro A f hA hR
    obtain ⟨q, rfl, hl⟩ := run_loadAgg (P := P) (t := t) hn hR
    rw [Array.getD_eq_getD_getElem?] at hg hh
    simp [results, hr, hg, hh, hA, asAddr, hl]
  cases x <;> first
    | exact q.elim
    | (obtain ⟨A, f, hA, hR, h2⟩ := q
       exact ⟨he.defers, _, key A f hA hR, _, rfl, h2⟩)
end
end Go.Proofs.YtbhnfehcpnnjcaaGreatDoor.Vc
/-
 What the draws rest on: slices of bytes, numbers that wrap, a source of numbers. Conditions: as each states them.
-/
namespace Go.Proofs.YtbhnfehcpnnjcaaGreatDoor.Vc
open Go.RowKit

section
variable {P : Program} {N : Nat} {ops : Array Oper} {K : Env → World → Prop} {rest : List Oper} {e : Env} {w0 w w' : World} {ks : List Ck} {d : Nat} {ty : TypeId} {pos : String} {af : Array Edge}
theorem Ops.box3' {el : TypeId} {x : Operand} {v0 v1 v2 : Value} (hS : St w0 w ks) (hx : ev e x = .agg #[v0, v1, v2]) (hb : Nat.blt d N = true)
    (hK : ∀ A w', St w0 w' (Bx el 3 A [v0, v1, v2] :: ks) → Ops P N ops K rest (upd e d (.pointer A)) w') (hM : isM [v0, v1, v2] = false := by rfl) : Ops P N ops K (⟨some d, .box el x, ty, pos, af, none⟩ :: rest) e w := .box_agg hS hx hb rfl hK hM

/-! numbers that wrap -/
variable {x y : Operand} {xt yt : TypeId} {i j : Int}
theorem wrapU (i : Int) : 0 ≤ IntKind.u64.wrap i ∧ IntKind.u64.wrap i ≤ 18446744073709551615 := by rw [IntKind.wrap_u64]; omega
theorem Ops.mulW (hx : ev e x = .int .u64 i) (hy : ev e y = .int .u64 j) (hb : Nat.blt d N = true) (hK : ∀ r : Int, 0 ≤ r ∧ r ≤ 18446744073709551615 → Ops P N ops K rest (upd e d (.int .u64 r)) w) :
  Ops P N ops K (⟨some d, .binOp .mul xt x y yt, ty, pos, af, none⟩ :: rest) e w :=
 .val (by simp [execOp, hx, hy, eqGuard, binOp, Op.intArith]) hb (hK _ (wrapU (i * j)))
theorem Ops.addW (hx : ev e x = .int .u64 i) (hy : ev e y = .int .u64 j) (hb : Nat.blt d N = true) (hK : ∀ r : Int, 0 ≤ r ∧ r ≤ 18446744073709551615 → Ops P N ops K rest (upd e d (.int .u64 r)) w) :
  Ops P N ops K (⟨some d, .binOp .add xt x y yt, ty, pos, af, none⟩ :: rest) e w :=
 .val (by simp [execOp, hx, hy, eqGuard, binOp, Op.intArith]) hb (hK _ (wrapU (i + j)))
theorem bits_and_le (i : Int) : 0 ≤ bits .and .u64 i 16777215 ∧ bits .and .u64 i 16777215 ≤ 16777215 := by
 have h : ∀ a : BitVec 64, (a &&& BitVec.ofInt 64 16777215).toNat ≤ 16777215 := fun a => by
  rw [BitVec.toNat_and]
  exact Nat.and_le_right
 have e : bits .and .u64 i 16777215 = IntKind.u64.wrap ((BitVec.ofInt 64 i &&& BitVec.ofInt 64 16777215).toNat : Int) := rfl
 have := h (BitVec.ofInt 64 i)
 rw [e, IntKind.wrap_u64]
 omega
theorem Ops.andM (hx : ev e x = .int .u64 i) (hy : ev e y = .int .u64 16777215) (hb : Nat.blt d N = true) (hK : ∀ r : Int, 0 ≤ r ∧ r ≤ 16777215 → Ops P N ops K rest (upd e d (.int .u64 r)) w) :
  Ops P N ops K (⟨some d, .binOp .and xt x y yt, ty, pos, af, none⟩ :: rest) e w :=
 .val (by simp only [execOp, hx, hy, eqGuard, binOp, intBits_and]; simp) hb (hK _ (bits_and_le i))
theorem Ops.shrW {k : IntKind} (hx : ev e x = .int .u64 i) (hy : ev e y = .int k 33) (hb : Nat.blt d N = true) (hK : ∀ r : Int, Ops P N ops K rest (upd e d (.int .u64 r)) w) :
  Ops P N ops K (⟨some d, .binOp .shr xt x y yt, ty, pos, af, none⟩ :: rest) e w := by
 refine .val (v := .int .u64 (i.fdiv (2 ^ 33))) ?_ hb (hK _)
 have e1 : min 33 IntKind.u64.bits = 33 := by decide
 simp [execOp, hx, hy, eqGuard, binOp, Op.shift, e1]

/-! bytes -/
def RdY (w : World) (A : Option Addr) (n : Nat) (bs : List Int) : Prop := bs.length = n ∧ (∀ b ∈ bs, 0 ≤ b ∧ b ≤ 255) ∧ Rd w A n (fun j => .int .u8 (bs.getD j 0))
theorem RdY.below {w w' : World} {A : Option Addr} {n : Nat} {bs : List Int} (h : RdY w A n bs) (hb : Below w.heap.size w w') : RdY w' A n bs := ⟨h.1, h.2.1, Rd.below h.2.2 hb⟩
theorem RdY.at_ {A : Option Addr} {n : Nat} {bs : List Int} (h : RdY w A n bs) {j : Int} (h0 : 0 ≤ j) (h1 : j < n) : 0 ≤ bs.getD j.toNat 0 ∧ bs.getD j.toNat 0 ≤ 255 := by
 have hl : j.toNat < bs.length := by rw [h.1]; omega
 rw [List.getD_eq_getElem?_getD, List.getElem?_eq_getElem hl]
 exact h.2.1 _ (List.getElem_mem hl)
theorem Ops.ld_byte {t : TypeId} {u : TypeDesc} [Und P t u] {A : Option Addr} {n : Nat} {bs : List Int} (hR : RdY w A n bs) (hx : ev e x = .pointer (ptrAt A i.toNat)) (h1 : i.toNat < n) (hp : plainTy u = true) (hb : Nat.blt d N = true)
    (hK : Ops P N ops K rest (upd e d (.int .u8 (bs.getD i.toNat 0))) w) : Ops P N ops K (⟨some d, .load t x, ty, pos, af, none⟩ :: rest) e w :=
  .ld hR.2.2 hx h1 rfl hp hb hK

/-! literals of numbers -/
def idxI : Nat → List Int → List (Nat × Value)
 | _, [] => []
 | k, v :: r => (k, .int .i64 v) :: idxI (k + 1) r
theorem fill_ints : ∀ (vs : List Int) (k : Nat) (cells : Array Value), k + vs.length ≤ cells.size → ∃ out, Instr.fill (fun i => some (i * 1, 1)) cells (idxI k vs) = some out ∧ out.size = cells.size ∧ (∀ j, j < k → out[j]? = cells[j]?) ∧ (∀ j, j < vs.length → out[k + j]? = vs[j]?.map (Value.int .i64)) ∧ (∀ j, k + vs.length ≤ j → out[j]? = cells[j]?)
 | [], k, cells, _ => ⟨cells, rfl, rfl, fun _ _ => rfl, fun j hj => absurd hj (Nat.not_lt_zero _), fun _ _ => rfl⟩
 | v :: r, k, cells, h => by
  have hk : k < cells.size := by simp at h; omega
  obtain ⟨out, h1, h2, h3, h4, h5⟩ := fill_ints r (k + 1) (cells.setIfInBounds k (.int .i64 v)) (by simp at h ⊢; omega)
  refine ⟨out, ?_, by rw [h2]; simp, fun j hj => ?_, fun j hj => ?_, fun j hj => ?_⟩
  ·show Instr.fill _ cells ((k, .int .i64 v) :: idxI (k + 1) r) = some out
   rw [← h1]
   simp [Instr.fill, Value.cells, show ¬ cells.size < k + 1 by omega]
  ·rw [h3 j (by omega), Array.getElem?_setIfInBounds, if_neg (by omega)]
  ·cases j with
   | zero => rw [Nat.add_zero, h3 k (by omega), Array.getElem?_setIfInBounds, if_pos rfl, if_pos hk]; rfl
   | succ q =>
    have := h4 q (by simpa using hj)
    rw [show k + (q + 1) = k + 1 + q by omega, this]
    rfl
  ·rw [h5 j (by simp at hj ⊢; omega), Array.getElem?_setIfInBounds, if_neg (by simp at hj; omega)]
theorem fill_lit (vs : List Int) (cells : Array Value) (h : cells.size = vs.length) : Instr.fill (fun i => some (i * 1, 1)) cells (idxI 0 vs) = some (vs.map (Value.int .i64)).toArray := by
 obtain ⟨out, h1, h2, _, h4, _⟩ := fill_ints vs 0 cells (by omega)
 rw [h1]
 congr 1
 apply Array.ext'
 apply List.ext_getElem?
 intro j
 by_cases hj : j < vs.length
 ·have := h4 j hj
  rw [Nat.zero_add] at this
  simpa using this
 ·rw [List.getElem?_eq_none (by simpa [h2, h] using hj), List.getElem?_eq_none (by simpa using hj)]
theorem Ops.bsL {t el : TypeId} {z : Value} {b n : Nat} [Und P t (.slice el)] [Inf P el z 1 b] {ps : Array (Nat × Operand)} (vs : List Int) (hS : St w0 w ks) (hv : (ps.toList.map fun p => (p.1, ev e p.2)) = idxI 0 vs) (hn : vs.length = n) (hn0 : n ≠ 0) (hn1 : n ≤ 1000) (hz : z.cells = #[z]) (hb : Nat.blt d N = true)
    (hK : ∀ A w', St w0 w' (CkI el A n n vs :: ks) → Ops P N ops K rest (upd e d (.slice A n n)) w') : Ops P N ops K (⟨some d, .buildSlice t n ps, ty, pos, af, none⟩ :: rest) e w := by
  subst hn
  obtain ⟨inf, hi, hz0, hs, hby⟩ := Inf.get P el
  have hA := hS.alloc (vs.map (Value.int .i64)) el (by simp [maxLen]; omega) (isM_I _)
  refine .val (w' := w.alloc (.cells (vs.map (Value.int .i64)).toArray el)) ?_ hb (hK _ _ (by simpa [CkI] using hA))
  have hf := fill_lit vs ((Array.range (vs.length * 1)).map ((#[z] : Array Value)[· % (#[z] : Array Value).size]!)) (by simp)
  have hv' : (ps.map fun p => (p.1, ev e p.2)).toList = idxI 0 vs := by rw [Array.toList_map]; exact hv
  have h24 : ¬ 16777216 < vs.length := by omega
  simp only [Nat.mul_one] at hf
  simp [execOp, Instr.buildSlice, run_underlying (Und.out (P := P) (t := t)), sizeOf, typeInfo, zeroValue, hi, hs, hz0, hz, newRow, hv, h24, hn0]
  simp at hf
  simp [hf]
/-- a struct of three parts, the second left out -/
theorem Ops.bld02 {t : TypeId} {f0 f1 f2 : Field} {z0 z1 z2 y0 y1 y2 : Value} {b b0 b1 b2 : Nat} [Und P t (.struct #[f0, f1, f2])] [Inf P t (.agg #[z0, z1, z2]) 3 b] {x0 x2 : Operand} {v0 v2 : Value} (hI0 : Inf P f0.type y0 1 b0) (hI1 : Inf P f1.type y1 1 b1) (hI2 : Inf P f2.type y2 1 b2) (ho : f0.offset = 0) (ho1 : f1.offset = 1) (ho2 : f2.offset = 2) (h0 : ev e x0 = v0) (h2 : ev e x2 = v2) (c0 : v0.oneCell' = true) (c2 : v2.oneCell' = true) (hb : Nat.blt d N = true)
    (hK : Ops P N ops K rest (upd e d (.agg #[v0, z1, v2])) w) : Ops P N ops K (⟨some d, .build t #[(0, x0), (2, x2)], ty, pos, af, none⟩ :: rest) e w := by
  obtain ⟨inf, hi, hz0, hs, hby⟩ := Inf.get P t
  obtain ⟨inf0, hi0, _, hs0, _⟩ := hI0.get P f0.type
  obtain ⟨inf1, hi1, _, hs1, _⟩ := hI1.get P f1.type
  obtain ⟨inf2, hi2, _, hs2, _⟩ := hI2.get P f2.type
  have e0 : v0.cells = #[v0] := by cases v0 <;> simp [Value.oneCell'] at c0 <;> rfl
  have e2 : v2.cells = #[v2] := by cases v2 <;> simp [Value.oneCell'] at c2 <;> rfl
  have ez : (Value.agg #[z0, z1, z2]).cells = #[z0, z1, z2] := rfl
  refine .val (w' := w) ?_ hb hK
  simp [execOp, Instr.build, run_underlying (Und.out (P := P) (t := t)), sizeOf, typeInfo, zeroValue, hi, hz0, hi0, hs0, hi1, hs1, hi2, hs2, ho, ho1, ho2, h0, e0, h2, e2, ez, Instr.fill]
end
end Go.Proofs.YtbhnfehcpnnjcaaGreatDoor.Vc
/-
 The sources of numbers that the draws and the laws' dice read, walked: each number lies in its range, and the source stays one. Conditions: as each states them.
-/
namespace Go.Proofs.YtbhnfehcpnnjcaaGreatDoor.Vc
open Go.RowKit

theorem setK_same {ks : List Ck} {i : Nat} {k : Ck} (h : ks[i]? = some k) : ks.set i k = ks := by
 apply List.ext_getElem?
 intro j
 rw [List.getElem?_set]
 split
 ·rename_i e
  subst e
  have hl := (List.getElem?_eq_some_iff.1 h).1
  rw [if_pos hl, h]
 ·rfl
theorem setK_get {ks : List Ck} {i : Nat} {k k' : Ck} (h : ks[i]? = some k) : (ks.set i k')[i]? = some k' := by
 have hl := (List.getElem?_eq_some_iff.1 h).1
 rw [List.getElem?_set, if_pos rfl, if_pos hl]

/-- a source in memory -/
def srcK (w0 : World) (As : Option Addr) (k : Ck) : Prop := ∃ (Ac : Option Addr) (nc cc : Nat) (a h : Int) (bs : List Int), k = Bx 65 3 As [.slice Ac nc cc, .int .i64 a, .int .u64 h] ∧ (0 ≤ a ∧ a ≤ nc) ∧ nc ≤ 1000000 ∧ RdY w0 Ac nc bs
theorem srcNext_c {w0 w : World} {ks : List Ck} (i : Nat) {As : Option Addr} {k : Ck} (n : Int) (hS : St w0 w ks) (hk : ks[i]? = some k) (hK : srcK w0 As k) :
  Ret Tryz.prog 57 [.pointer As, .int .i64 n] w (fun v w' => ∃ (r : Int) (k' : Ck), v = .int .i64 r ∧ (0 ≤ r ∧ (1 ≤ n → r < n) ∧ (n < 1 → r = 0)) ∧ srcK w0 As k' ∧ St w0 w' (ks.set i k')) := by
 have hK0 := hK
 obtain ⟨Ac, nc, cc, a, h, bs, rfl, ha, hnc, hY⟩ := hK
 refine Ret.of_cd Tryz.func57 rfl Tryz.ntmps57 rfl (post1 rfl) (Cd.seq (Cd.region (Ops.mi rfl rfl rfl (Ops.n (tQ (Cd.seq (Cd.seq (Cd.region (Ops.mi rfl rfl rfl ?_)))))))))
 refine Ops.lss rfl rfl rfl (Ops.n (tQ ?_))
 refine Cd.cond_p _ rfl (fun h1 => ?_) (fun h1 => ?_)
 ·refine Cd.seq (Cd.region (Ops.mi rfl rfl rfl (Ops.n (tQ (Cd.ret (thenQ_r (ret1_i rfl ?_)))))))
  exact ⟨0, _, rfl, ⟨Int.le_refl _, fun h => by omega, fun _ => rfl⟩, hK0, by rw [setK_same hk]; exact hS⟩
 ·refine Cd.skip (tQ (Cd.seq (Cd.region (Ops.mv_ptr rfl rfl rfl (Ops.mv_ptr rfl rfl rfl (Ops.nilp (hS.rd i hk) (Nat.succ_pos 2) rfl rfl (Ops.fld (hS.rd i hk) rfl rfl rfl rfl inferInstance (Ops.ldf_i (k := .u64) (hS.rd i hk) rfl rfl rfl rfl rfl ?_))))))))
  skip
  refine Ops.mulW rfl rfl rfl fun r1 hr1 => ?_
  skip
  refine Ops.addW rfl rfl rfl fun r2 hr2 => ?_
  skip
  refine Ops.nilp (hS.rd i hk) (Nat.succ_pos 2) rfl rfl (Ops.fld (hS.rd i hk) rfl rfl rfl rfl inferInstance (Ops.stf i hS hk rfl rfl rfl rfl ?_))
  intro w1 hS1
  have hk1 := setK_get (k' := (⟨As, 3, 3, 65, [.slice Ac nc cc, .int .i64 a, .int .u64 r2]⟩ : Ck)) hk
  have hS1 : St w0 w1 (ks.set i (Bx 65 3 As [.slice Ac nc cc, .int .i64 a, .int .u64 r2])) := hS1
  refine Ops.n (tQ (Cd.seq (Cd.region (Ops.mv_ptr rfl rfl rfl (Ops.nilp (hS1.rd i hk1) (Nat.succ_pos 2) rfl rfl (Ops.fld (hS1.rd i hk1) rfl rfl rfl rfl inferInstance (Ops.ldf_i (k := .u64) (hS1.rd i hk1) rfl rfl rfl rfl rfl ?_)))))))
  skip
  refine Ops.shrW rfl rfl rfl fun r3 => ?_
  skip
  refine Ops.andM rfl rfl rfl fun r4 hr4 => ?_
  skip
  refine Ops.convK rfl rfl (IntWalk.i64_in _ (by omega)) (Ops.mi rfl rfl rfl (Ops.n (tQ (Cd.seq (Cd.seq ?_)))))
  refine Cd.draw [.ex (.pointer (As)), .ex (.pointer (As)), .ex (.pointer (ptrAt (As) 1)), .ex (.int .i64 (a)), .ex (.pointer (As)), .ex (.pointer (As)), .ex (.pointer (ptrAt (As) 0)), .ex (.slice (Ac) (nc) (cc)), .ex (.int .i64 (((nc : Nat) : Int))), .ex (.bool (decide ((a) < (((nc : Nat) : Int)))))] (by kernel_rfl) (by kernel_rfl) rfl (lx (lx (lx (lx (lx (lx (lx (lx (lx (lx (fun _ h => by cases h))))))))))) ⟨?_, ?_, ?_, ?_, ?_, ?_, ?_, ?_, ?_, ?_, trivial⟩ ?_
  ·intro e1 w1 hb hp hun
   refine Ops.mv_ptr rfl rfl rfl (Ops.n (d0 (by exact rfl)))
  ·intro e1 w1 hb hp hun
   refine Ops.nilp ((hS1.rd i hk1).below hb) (Nat.succ_pos _) rfl rfl (Ops.n (d0 (by exact rfl)))
  ·intro e1 w1 hb hp hun
   refine Ops.fld ((hS1.rd i hk1).below hb) rfl rfl rfl rfl inferInstance (Ops.n (d0 (by exact rfl)))
  ·intro e1 w1 hb hp hun
   refine Ops.ldf_i ((hS1.rd i hk1).below hb) rfl rfl rfl rfl rfl (Ops.n (d0 (by exact rfl)))
  ·intro e1 w1 hb hp hun
   refine Ops.mv_ptr rfl rfl rfl (Ops.n (d0 (by exact rfl)))
  ·intro e1 w1 hb hp hun
   refine Ops.nilp ((hS1.rd i hk1).below hb) (Nat.succ_pos _) rfl rfl (Ops.n (d0 (by exact rfl)))
  ·intro e1 w1 hb hp hun
   refine Ops.fld ((hS1.rd i hk1).below hb) rfl rfl rfl rfl inferInstance (Ops.n (d0 (by exact rfl)))
  ·intro e1 w1 hb hp hun
   refine Ops.ldf_s ((hS1.rd i hk1).below hb) rfl rfl rfl rfl rfl (Ops.n (d0 (by exact rfl)))
  ·intro e1 w1 hb hp hun
   refine Ops.len rfl rfl (Ops.n (d0 (by exact rfl)))
  ·intro e1 w1 hb hp hun
   refine Ops.lss rfl rfl rfl (Ops.n (d0 (by exact rfl)))
  intro u w2 hb2 _
  have hS2 := hS1.later hb2
  have hY2 : RdY w2 Ac nc bs := hY.below hS2.below
  refine tQ ?_
  refine Cd.cond_p _ rfl (fun h2 => ?_) (fun h2 => ?_)
  ·have h255 := hY.at_ ha.1 h2
   refine Cd.seq ?_
   refine Cd.draw [.ex (.int .i64 (r4)), .ex (.pointer (As)), .ex (.pointer (As)), .ex (.pointer (ptrAt (As) 0)), .ex (.slice (Ac) (nc) (cc)), .ex (.pointer (As)), .ex (.pointer (As)), .ex (.pointer (ptrAt (As) 1)), .ex (.int .i64 (a)), .ex (.pointer (ptrAt Ac a.toNat)), .ex (.int .u8 (bs.getD a.toNat 0)), .ex (.int .i64 (bs.getD a.toNat 0)), .ex (.int .i64 ((r4) + (bs.getD a.toNat 0))), .ex (.int .i64 ((r4) + (bs.getD a.toNat 0)))] (by kernel_rfl) (by kernel_rfl) rfl (lx (lx (lx (lx (lx (lx (lx (lx (lx (lx (lx (lx (lx (lx (fun _ h => by cases h))))))))))))))) ⟨?_, ?_, ?_, ?_, ?_, ?_, ?_, ?_, ?_, ?_, ?_, ?_, ?_, ?_, trivial⟩ ?_
   ·intro e1 w1 hb hp hun
    refine Ops.mi rfl (by exact hun 13 _ rfl (by kernel_rfl)) rfl (Ops.n (d0 (by exact rfl)))
   ·intro e1 w1 hb hp hun
    refine Ops.mv_ptr rfl rfl rfl (Ops.n (d0 (by exact rfl)))
   ·intro e1 w1 hb hp hun
    refine Ops.nilp ((hS2.rd i hk1).below hb) (Nat.succ_pos _) rfl rfl (Ops.n (d0 (by exact rfl)))
   ·intro e1 w1 hb hp hun
    refine Ops.fld ((hS2.rd i hk1).below hb) rfl rfl rfl rfl inferInstance (Ops.n (d0 (by exact rfl)))
   ·intro e1 w1 hb hp hun
    refine Ops.ldf_s ((hS2.rd i hk1).below hb) rfl rfl rfl rfl rfl (Ops.n (d0 (by exact rfl)))
   ·intro e1 w1 hb hp hun
    refine Ops.mv_ptr rfl rfl rfl (Ops.n (d0 (by exact rfl)))
   ·intro e1 w1 hb hp hun
    refine Ops.nilp ((hS2.rd i hk1).below hb) (Nat.succ_pos _) rfl rfl (Ops.n (d0 (by exact rfl)))
   ·intro e1 w1 hb hp hun
    refine Ops.fld ((hS2.rd i hk1).below hb) rfl rfl rfl rfl inferInstance (Ops.n (d0 (by exact rfl)))
   ·intro e1 w1 hb hp hun
    refine Ops.ldf_i ((hS2.rd i hk1).below hb) rfl rfl rfl rfl rfl (Ops.n (d0 (by exact rfl)))
   ·intro e1 w1 hb hp hun
    refine Ops.idx (hY2.below hb).2.2 rfl rfl rfl (by omega) (by omega) (Ops.n (d0 (by exact rfl)))
   ·intro e1 w1 hb hp hun
    refine Ops.ld_byte (hY2.below hb) rfl (by omega) rfl rfl (Ops.n (d0 (by exact rfl)))
   ·intro e1 w1 hb hp hun
    refine Ops.convK rfl rfl (IntWalk.i64_in _ (by omega)) (Ops.n (d0 (by exact rfl)))
   ·intro e1 w1 hb hp hun
    refine Ops.add rfl rfl rfl (by omega) (Ops.n (d0 (by exact rfl)))
   ·intro e1 w1 hb hp hun
    refine Ops.mi rfl rfl rfl (Ops.n (d0 (by exact rfl)))
   intro u3 w3 hb3 _
   have hS3 := hS2.later hb3
   refine tQ (Cd.region (Ops.mv_ptr rfl rfl rfl (Ops.mv_ptr rfl rfl rfl (Ops.nilp (hS3.rd i hk1) (Nat.succ_pos 2) rfl rfl (Ops.fld (hS3.rd i hk1) rfl rfl rfl rfl inferInstance (Ops.ldf_i (hS3.rd i hk1) rfl rfl rfl rfl rfl (Ops.add rfl rfl rfl (by omega) (Ops.nilp (hS3.rd i hk1) (Nat.succ_pos 2) rfl rfl (Ops.fld (hS3.rd i hk1) rfl rfl rfl rfl inferInstance ?_)))))))))
   refine Ops.stf i hS3 hk1 rfl rfl rfl rfl ?_
   intro w4 hS4
   rw [List.set_set] at hS4
   refine Ops.n (tQ (Cd.seq (Cd.region (Ops.mi rfl rfl rfl (Ops.mi rfl rfl rfl (Ops.rem rfl rfl rfl (by omega) (Ops.mi rfl rfl rfl (Ops.n (tQ ?_)))))))))
   refine Cd.ret (ret1_i rfl ?_)
   exact ⟨(r4 + bs.getD a.toNat 0) % n, _, rfl, ⟨Int.emod_nonneg _ (by omega), fun h => Int.emod_lt_of_pos _ (by omega), fun h => by omega⟩, ⟨Ac, nc, cc, a + 1, r2, bs, rfl, by omega, hnc, hY⟩, hS4⟩
  ·refine Cd.skip (tQ (Cd.seq (Cd.region (Ops.mi rfl rfl rfl (Ops.mi rfl rfl rfl (Ops.rem rfl rfl rfl (by omega) (Ops.mi rfl rfl rfl (Ops.n (tQ ?_)))))))))
   refine Cd.ret (ret1_i rfl ?_)
   exact ⟨r4 % n, _, rfl, ⟨Int.emod_nonneg _ (by omega), fun h => Int.emod_lt_of_pos _ (by omega), fun h => by omega⟩, ⟨Ac, nc, cc, a, r2, bs, rfl, ha, hnc, hY⟩, hS2⟩

end Go.Proofs.YtbhnfehcpnnjcaaGreatDoor.Vc
/-
 The sources of numbers begun from a list of bytes, and picks. Conditions: as each states them.
-/
namespace Go.Proofs.YtbhnfehcpnnjcaaGreatDoor.Vc
open Go.RowKit

theorem l01Pick_c {w0 w : World} {ks : List Ck} (i : Nat) {As : Option Addr} {k : Ck} (A : Option Addr) (n c : Nat) (xs : List Int) (hS : St w0 w ks) (hk : ks[i]? = some k) (hK : srcK w0 As k) (hR : ∀ k' w', St w0 w' (ks.set i k') → RdI w' A n xs) (hn : 0 < n ∧ n ≤ 1000000) :
  Ret Tryz.prog 86 [.pointer As, .slice A n c] w (fun v w' => ∃ (x : Int) (k' : Ck), v = .int .i64 x ∧ x ∈ xs ∧ srcK w0 As k' ∧ St w0 w' (ks.set i k')) := by
 refine Ret.of_cd Tryz.func86 rfl Tryz.ntmps86 rfl (post1 rfl) (Cd.seq (Cd.region (Ops.mi rfl rfl rfl (Ops.n (tQ (Cd.seq (Cd.region (Ops.ms rfl rfl rfl (Ops.mv_ptr rfl rfl rfl ?_)))))))))
 refine Ops.ms rfl rfl rfl (Ops.len rfl rfl (Ops.call (srcNext_c i (n : Int) hS hk hK) rfl rfl rfl ?_))
 rintro _ w1 ⟨r, k', rfl, ⟨h0, h1, _⟩, hK', hT⟩
 have hR1 := hR k' w1 hT
 have hl := hR1.1
 have h1 := h1 (by omega)
 skip
 refine Ops.idx hR1.2 rfl rfl rfl (by omega) (by omega) (Ops.ld_int hR1 rfl (by omega) rfl rfl (Ops.mi rfl rfl rfl (Ops.n (tQ (Cd.ret (ret1_i rfl ?_))))))
 refine ⟨gi xs r, k', rfl, ?_, hK', hT⟩
 obtain ⟨q, rfl⟩ : ∃ q : Nat, r = q := ⟨r.toNat, by omega⟩
 rw [gi_mem (by omega)]
 exact List.getElem_mem _
end Go.Proofs.YtbhnfehcpnnjcaaGreatDoor.Vc
/-
 A statement whose order Go leaves open, by a property of what is done so far. Conditions: as the rule names them.
-/
namespace Go.Proofs.YtbhnfehcpnnjcaaGreatDoor.Vc
open Go.RowKit

/-- the order of the text is one of the orders -/
def backB (l : List Oper) : Bool := l.zipIdx.all fun p => (aft p.1).all fun ed => Nat.blt ed.on p.2
/-- an operation's own premises -/
theorem deps_of {o : Oper} {S : Nat → Bool} (h : ∀ ed ∈ aft o, S ed.on = true) (k : Nat) (hk : (aft o).any (fun ed => Nat.beq ed.on k) = true) : S k = true := by
 obtain ⟨ed, hed, hb⟩ := List.any_eq_true.1 hk
 rw [← Nat.eq_of_beq_eq_true hb]
 exact h ed hed
theorem thenQ_ext {K : Env → World → Prop} {Q : Post} {e : Env} {w : World} {F : List (Nat × Value)} (hM : Mt e F) (h : thenQ K Q .normal (ext e F) w) : thenQ K Q .normal e w := by rwa [ext_of_mt hM] at h
section
variable {P : Program} {N : Nat} {e : Env} {w : World}
theorem Cd.drawS {id : Nat} {l : List Oper} {Q : Post} (hm : P.follows .mixedOrders = true) (hbk : backB l = true) (I : (Nat → Bool) → Env → World → Prop) (h0 : ∀ w1, Below w.heap.size w w1 → I (fun _ => false) e w1)
    (hstep : ∀ (S : Nat → Bool) (i : Nat) (o : Oper) (e1 : Env) (w1 : World), l[i]? = some o → S i = false → (∀ ed ∈ aft o, S ed.on = true) → (∀ (k : Nat) (o' : Oper), S k = true → l[k]? = some o' → ∀ ed ∈ aft o', S ed.on = true) → I S e1 w1 → Ops P N l.toArray (fun e2 w2 => I (fun k => Nat.beq k i || S k) e2 w2) [o] e1 w1)
    (hend : ∀ (S : Nat → Bool) (e1 : Env) (w1 : World), (∀ i, i < l.length → S i = true) → I S e1 w1 → Q .normal e1 w1) : Cd P N (.region id l.toArray true) Q e w := .mk' fun a ha => by
  have hback : ∀ (i : Nat) (o : Oper), l[i]? = some o → ∀ ed ∈ aft o, ed.on < i := by
    intro i o ho ed hed
    simp only [backB, List.all_eq_true] at hbk
    have := hbk (o, i) (by
      obtain ⟨hi, hio⟩ := List.getElem?_eq_some_iff.1 ho
      rw [List.mem_iff_getElem?]
      exact ⟨i, by simp [ho]⟩)
    simpa [Nat.blt_eq] using this ed hed
  refine wp_region_any hm ?_
  have key : ∀ (fuel : Nat) (listed : Array Bool) (a1 : Act) (e1 : Env) (w1 : World), Rep N a1 e1 → listed.size = l.length →
      (∀ (i : Nat) (o : Oper), listed.getD i false = true → l[i]? = some o → ∀ ed ∈ aft o, listed.getD ed.on false = true) → I (fun k => listed.getD k false) e1 w1 → (l.length - fuel ≤ (List.range l.length).countP fun i => listed.getD i false) →
      wpAny P .any l.toArray (low N Q) fuel listed a1 w1 := by
    have hfin : ∀ (listed : Array Bool) (a1 : Act) (e1 : Env) (w1 : World), Rep N a1 e1 → I (fun k => listed.getD k false) e1 w1 → (∀ i, i < l.length → listed.getD i false = true) → low N Q .normal a1 w1 :=
      fun listed a1 e1 w1 hr hI hall => ⟨e1, hr, hend _ e1 w1 hall hI⟩
    have hready : ∀ (listed : Array Bool), listed.size = l.length → Region.ready .any l.toArray listed = [] → ∀ i, i < l.length → listed.getD i false = true := by
      intro listed hsz hnil i
      induction i using Nat.strongRecOn with
      | _ i ih =>
        intro hi
        cases hli : listed.getD i false with
        | true => rfl
        | false =>
          exfalso
          have : i ∈ Region.ready .any l.toArray listed := by
            rw [mem_ready]
            refine ⟨?_, l[i], by simp [hi], fun ed hed hbd => ih ed.on (hback i _ (List.getElem?_eq_getElem hi) ed (mem_aft.2 ⟨hed, hbd⟩)) (by have := hback i _ (List.getElem?_eq_getElem hi) ed (mem_aft.2 ⟨hed, hbd⟩); omega)⟩
            rw [Array.getD_eq_getD_getElem?, Array.getElem?_eq_getElem (by omega)] at hli ⊢
            exact hli
          rw [hnil] at this
          cases this
    intro fuel
    induction fuel with
    | zero =>
      intro listed a1 e1 w1 hr hsz hcl hI hcnt
      have hall : ∀ i, i < l.length → listed.getD i false = true := by
        have h4 : (List.range l.length).countP (fun i => listed.getD i false) = (List.range l.length).length := by
          have := List.countP_le_length (p := fun i => listed.getD i false) (l := List.range l.length)
          simp at this hcnt ⊢; omega
        rw [List.countP_eq_length] at h4
        intro i hi
        exact h4 i (by simpa using hi)
      refine ⟨?_, hfin listed a1 e1 w1 hr hI hall⟩
      rw [List.eq_nil_iff_forall_not_mem]
      intro i hi
      obtain ⟨h5, o, ho, _⟩ := mem_ready.1 hi
      have hil : i < l.length := by
        rcases Nat.lt_or_ge i l.length with h | h
        · exact h
        · simp [List.getElem?_eq_none h] at ho
      have h6 := hall i hil
      rw [Array.getD_eq_getD_getElem?, Array.getElem?_eq_getElem (by omega)] at h5 h6
      simp at h5 h6
      rw [h5] at h6; cases h6
    | succ fuel ih =>
      intro listed a1 e1 w1 hr hsz hcl hI hcnt
      refine ⟨fun hnil => hfin listed a1 e1 w1 hr hI (hready listed hsz hnil), fun i hi => ?_⟩
      obtain ⟨hun, o, ho, haf⟩ := mem_ready.1 hi
      have ho' : l[i]? = some o := by simpa using ho
      have hil : i < l.length := (List.getElem?_eq_some_iff.1 ho').1
      have hrd : ∀ ed ∈ aft o, listed.getD ed.on false = true := fun ed hed => haf ed (mem_aft.1 hed).1 (mem_aft.1 hed).2
      have hun' : listed.getD i false = false := by
        have h5 := hun
        rw [Array.getD_eq_getD_getElem?, Array.getElem?_eq_getElem (by omega)] at h5 ⊢
        exact h5
      have hgs : ∀ k, (listed.setIfInBounds i true).getD k false = if k = i then true else listed.getD k false := by
        intro k
        rw [Array.getD_eq_getD_getElem?, Array.getElem?_setIfInBounds]
        by_cases hki : k = i
        · subst hki; rw [if_pos rfl, if_pos (by omega), if_pos rfl]; rfl
        · rw [if_neg (fun e => hki e.symm), if_neg hki, ← Array.getD_eq_getD_getElem?]
      have hS : (fun k => (listed.setIfInBounds i true).getD k false) = fun k => Nat.beq k i || listed.getD k false := by
        funext k
        rw [hgs]
        by_cases hki : k = i
        · subst hki; rw [if_pos rfl, Nat.beq_refl]; rfl
        · rw [if_neg hki]
          have : Nat.beq k i = false := by
            cases hb : Nat.beq k i with
            | false => rfl
            | true => exact absurd (Nat.eq_of_beq_eq_true hb) hki
          rw [this]; rfl
      have hst := hstep (fun k => listed.getD k false) i o e1 w1 ho' hun' hrd (fun k o' hk hok => hcl k o' hk hok) hI
      have hwl := hst.run a1 hr
      have hnext : ∀ a2 w2, (∃ e2, Rep N a2 e2 ∧ I (fun k => Nat.beq k i || listed.getD k false) e2 w2) → wpAny P .any l.toArray (low N Q) fuel (listed.setIfInBounds i true) a2 w2 := by
        intro a2 w2 ⟨e2, hr2, hI2⟩
        refine ih _ a2 e2 w2 hr2 (by simpa using hsz) (fun k o' hk hok ed hed => ?_) (by rw [hS]; exact hI2) ?_
        · rw [hgs]
          by_cases hei : ed.on = i
          · rw [if_pos hei]
          · rw [if_neg hei]
            by_cases hki : k = i
            · subst hki
              rw [ho'] at hok; cases hok
              exact hrd ed hed
            · rw [hgs, if_neg hki] at hk
              exact hcl k o' hk hok ed hed
        · have hcount : (List.range l.length).countP (fun k => (listed.setIfInBounds i true).getD k false) = (List.range l.length).countP (fun k => listed.getD k false) + 1 :=
            countP_one (fun k => listed.getD k false) (fun k => (listed.setIfInBounds i true).getD k false) i hun' hgs _ List.nodup_range (by simpa using hil)
          rw [hcount]; omega
      unfold wpOp
      rw [ho]
      unfold wpList at hwl
      show if _ then _ else _
      by_cases hw : Region.wanted o (yielded l.toArray a1.tmps) = true
      · rw [if_pos hw] at hwl ⊢
        rcases hwl with h5 | ⟨_, a0, w0, h5⟩
        · refine .inl (Oper.wp_conv h5 (fun a2 w2 hx => ?_) (fun x a w hx hq => hx hq.1))
          exact hnext a2 w2 hx.2
        · exact absurd h5.1 (by simp)
      · rw [if_neg hw] at hwl ⊢
        exact hnext _ _ hwl.2
  refine key l.length (Array.replicate l.length false) a e _ ha (by simp) (fun i o hi => ?_) (by
    have : (fun k => (Array.replicate l.length false).getD k false) = fun _ => false := by
      funext k
      rw [Array.getD_eq_getD_getElem?, Array.getElem?_replicate]
      split <;> rfl
    rw [this]; exact h0 _ ⟨⟨rfl, rfl, rfl, Nat.le_refl _, fun _ _ => rfl⟩, fun _ => Nat.le_add_right _ _⟩) (by omega)
  exfalso
  rw [Array.getD_eq_getD_getElem?, Array.getElem?_replicate] at hi
  split at hi <;> simp at hi
end
end Go.Proofs.YtbhnfehcpnnjcaaGreatDoor.Vc
/-
 The draws of permutations and matchings, walked: lists of numbers in range. Conditions: as each states them.
-/
namespace Go.Proofs.YtbhnfehcpnnjcaaGreatDoor.Vc
open Go.RowKit

/-- so many numbers in range -/
def Rg (n : Nat) (xs : List Int) : Prop := xs.length = n ∧ ∀ x ∈ xs, 0 ≤ x ∧ x < (n : Int)
theorem Rg.gi {n : Nat} {xs : List Int} (h : Rg n xs) {i : Int} (h0 : 0 ≤ i) (h1 : i < n) : 0 ≤ Vc.gi xs i ∧ Vc.gi xs i < n := by
 obtain ⟨q, rfl⟩ : ∃ q : Nat, i = q := ⟨i.toNat, by omega⟩
 rw [gi_mem (by rw [h.1]; omega)]
 exact h.2 _ (List.getElem_mem _)
theorem Rg.set {n : Nat} {xs : List Int} (h : Rg n xs) {j : Nat} {v : Int} (h0 : 0 ≤ v) (h1 : v < n) : Rg n (xs.set j v) := by
 refine ⟨by rw [List.length_set]; exact h.1, fun x hx => ?_⟩
 rcases List.mem_or_eq_of_mem_set hx with hx | rfl
 ·exact h.2 x hx
 ·exact ⟨h0, h1⟩

theorem l01Unit_c (n : Nat) (w : World) (hn : n ≤ 1000000) :
  Ret Tryz.prog 128 [.int .i64 (n : Int)] w (fun v w' => ∃ A c xs, v = .slice A n c ∧ Rg n xs ∧ St w w' [CkI 2 A n c xs]) := by
 refine Ret.of_cd Tryz.func128 rfl Tryz.ntmps128 rfl (post1 rfl) (Cd.seq (Cd.region (Ops.ms rfl rfl rfl (Ops.n (tQ (Cd.seq (Cd.region (Ops.bs0 (St.refl w) rfl ?_))))))))
 intro A1 w1 hS1
 refine Ops.ms rfl rfl rfl (Ops.n (tQ (Cd.seq (Cd.seq (Cd.region (Ops.mi rfl rfl rfl (Ops.n (tQ (Cd.block ?_)))))))))
 refine Cd.loop (α := Nat × Option Addr × Nat × List Int) (fun s => [(0, .int .i64 (n : Int)), (3, .slice s.2.1 s.1 s.2.2.1), (4, .int .i64 (s.1 : Int))]) (fun s w' => St w w' [CkI 2 s.2.1 s.1 s.2.2.1 s.2.2.2] ∧ s.1 ≤ n ∧ s.2.2.2.length = s.1 ∧ ∀ x ∈ s.2.2.2, 0 ≤ x ∧ x < (s.1 : Int)) (fun s => n - s.1) (0, A1, 0, []) ⟨rfl, rfl, rfl, trivial⟩ ⟨hS1, Nat.zero_le _, rfl, fun x hx => (nomatch hx)⟩ ?_
 rintro ⟨i, A2, c2, xs⟩ e w2 ⟨hS2, hi, hl, hx⟩
 dsimp only at hS2 hi hl hx ⊢
 refine Cd.seq (Cd.seq (Cd.region (Ops.mi rfl rfl rfl (Ops.mi rfl rfl rfl (Ops.lss rfl rfl rfl (Ops.n (tQ ?_)))))))
 refine Cd.cond_p _ rfl (fun h1 => ?_) (fun h1 => ?_)
 ·refine Cd.skip (tQ (Cd.seq (Cd.block (Cd.region (Ops.ms rfl rfl rfl (Ops.mi rfl rfl rfl (Ops.bs1I hS2 rfl rfl rfl ?_)))))))
  intro A3 w3 hS3
  refine Ops.appI 1 hS3 rfl (hS3.rdI 0 rfl) rfl rfl rfl (by omega) (by omega) rfl ?_
  intro A4 c4 w4 hS4
  refine Ops.ms rfl rfl rfl (Ops.n (blockQ_n (tQ (Cd.region (Ops.mi rfl rfl rfl (Ops.add rfl rfl rfl (by omega) (Ops.mi rfl rfl rfl (Ops.n (tQ ?_)))))))))
  refine ⟨(i + 1, A4, c4, xs ++ [(i : Int)]), by show n - (i + 1) < n - i; omega, ⟨rfl, rfl, rfl, trivial⟩, hS4.tail, by show i + 1 ≤ n; omega, by simp [hl], fun x hx' => ?_⟩
  rcases List.mem_append.1 hx' with h | h
  ·have := hx x h
   show 0 ≤ x ∧ x < ((i + 1 : Nat) : Int)
   omega
  ·rw [List.mem_singleton] at h
   subst h
   show 0 ≤ (i : Int) ∧ (i : Int) < ((i + 1 : Nat) : Int)
   omega
 ·have hin : i = n := by omega
  subst hin
  refine Cd.exit (thenQ_x (thenQ_x (blockQ_x (tQ (Cd.seq (Cd.region (Ops.ms rfl rfl rfl (Ops.ms rfl rfl rfl (Ops.n ?_)))))))))
  refine tQ (Cd.ret (ret1_s rfl ?_))
  exact ⟨A2, c2, xs, rfl, ⟨hl, hx⟩, hS2⟩

theorem l01Draw_c {w0 w : World} {ks : List Ck} (ix : Nat) {As : Option Addr} {k : Ck} (n : Nat) (hS : St w0 w ks) (hk : ks[ix]? = some k) (hK : srcK w0 As k) (hn : n ≤ 1000000) :
  Ret Tryz.prog 112 [.pointer As, .int .i64 (n : Int)] w (fun v w' => ∃ A c xs k', v = .slice A n c ∧ Rg n xs ∧ srcK w0 As k' ∧ St w0 w' (CkI 2 A n c xs :: ks.set ix k')) := by
 refine Ret.of_cd Tryz.func112 rfl Tryz.ntmps112 rfl (post1 rfl) (Cd.seq (Cd.region (Ops.ms rfl rfl rfl (Ops.n (tQ (Cd.seq (Cd.region (Ops.mi rfl rfl rfl (Ops.call (l01Unit_c n _ hn) rfl rfl rfl ?_)))))))))
 rintro _ w1 ⟨A, c, xs, rfl, hx, hst⟩
 have hS1 : St w0 w1 (CkI 2 A n c xs :: ks) := hS.call hst
 refine Ops.ms rfl rfl rfl (Ops.n (tQ (Cd.seq (Cd.seq (Cd.region (Ops.mi rfl rfl rfl (Ops.sub rfl rfl rfl (by omega) (Ops.mi rfl rfl rfl (Ops.n ?_)))))))))
 refine tQ (Cd.block ?_)
 refine Cd.loop (α := Int × List Int × Ck) (fun s => [(0, .pointer As), (5, .slice A n c), (6, .int .i64 s.1)]) (fun s w' => St w0 w' (CkI 2 A n c s.2.1 :: ks.set ix s.2.2) ∧ Rg n s.2.1 ∧ srcK w0 As s.2.2 ∧ -1 ≤ s.1 ∧ s.1 < n) (fun s => s.1.toNat) ((n : Int) - 1, xs, k) ⟨rfl, rfl, rfl, trivial⟩ ⟨by dsimp only; rw [setK_same hk]; exact hS1, hx, hK, by show -1 ≤ (n : Int) - 1; omega, by show (n : Int) - 1 < n; omega⟩ ?_
 rintro ⟨i, xs, k1⟩ e w2 ⟨hS2, hx, hK1, hi0, hi1⟩
 dsimp only at hS2 hx hK1 hi0 hi1 ⊢
 have hk1 : (CkI 2 A n c xs :: ks.set ix k1)[ix + 1]? = some k1 := setK_get (k' := k1) hk
 refine Cd.seq (Cd.seq (Cd.region (Ops.mi rfl rfl rfl (Ops.gtr rfl rfl rfl (Ops.n (tQ ?_))))))
 refine Cd.cond_p _ rfl (fun h1 => ?_) (fun h1 => ?_)
 ·refine Cd.skip (tQ (Cd.seq (Cd.block (Cd.seq (Cd.region (Ops.mv_ptr rfl rfl rfl (Ops.mi rfl rfl rfl (Ops.add rfl rfl rfl (by omega) (Ops.call (srcNext_c (ix + 1) (i + 1) hS2 hk1 hK1) rfl rfl rfl ?_)))))))))
  rintro _ w3 ⟨r, k2, rfl, ⟨hr0, hr1, _⟩, hK2, hS3⟩
  have hr1 := hr1 (by omega)
  have hS3 : St w0 w3 (CkI 2 A n c xs :: (ks.set ix k1).set ix k2) := hS3
  rw [List.set_set] at hS3
  have hR3 := hS3.rdI 0 rfl
  have hgi := hx.gi (i := i) (by omega) hi1
  have hgr := hx.gi (i := r) hr0 (by omega)
  refine Ops.mi rfl rfl rfl (Ops.n (tQ (Cd.seq (Cd.region (Ops.ms rfl rfl rfl (Ops.mi rfl rfl rfl (Ops.idx hR3.2 rfl rfl rfl (by omega) (by omega) (Ops.ld_int hR3 rfl (by omega) rfl rfl (Ops.mi rfl rfl rfl ?_)))))))))
  refine Ops.n (tQ (Cd.seq (Cd.region (Ops.ms rfl rfl rfl (Ops.mi rfl rfl rfl (Ops.ms rfl rfl rfl (Ops.mi rfl rfl rfl (Ops.idx hR3.2 rfl rfl rfl (by omega) (by omega) (Ops.ld_int hR3 rfl (by omega) rfl rfl ?_)))))))))
  skip
  refine Ops.idx hR3.2 rfl rfl rfl (by omega) (by omega) (Ops.st_int 0 hS3 rfl rfl rfl (by omega) ?_)
  intro w4 hS4
  have hS4 : St w0 w4 (CkI 2 A n c (xs.set i.toNat (gi xs r)) :: ks.set ix k2) := hS4
  have hR4 := hS4.rdI 0 rfl
  refine Ops.n (tQ (Cd.region (Ops.ms rfl rfl rfl (Ops.mi rfl rfl rfl (Ops.mi rfl rfl rfl (Ops.idx hR4.2 rfl rfl rfl (by omega) (by omega) (Ops.st_int 0 hS4 rfl rfl rfl (by omega) ?_)))))))
  intro w5 hS5
  refine Ops.n (blockQ_n (tQ (Cd.region (Ops.mi rfl rfl rfl (Ops.sub rfl rfl rfl (by omega) (Ops.mi rfl rfl rfl (Ops.n (tQ ?_))))))))
  exact ⟨(i - 1, (xs.set i.toNat (gi xs r)).set r.toNat (gi xs i), k2), by show (i - 1).toNat < i.toNat; omega, ⟨rfl, rfl, rfl, trivial⟩, hS5, (hx.set hgr.1 hgr.2).set hgi.1 hgi.2, hK2, by show -1 ≤ i - 1; omega, by show i - 1 < n; omega⟩
 ·refine Cd.exit (thenQ_x (thenQ_x (blockQ_x (tQ (Cd.seq (Cd.region (Ops.ms rfl rfl rfl (Ops.ms rfl rfl rfl (Ops.n ?_)))))))))
  refine tQ (Cd.ret (ret1_s rfl ?_))
  exact ⟨A, c, xs, k1, rfl, hx, hK1, hS2⟩

/-- how far the open statement is -/
structure Ma4 (w0 : World) (ks : List Ck) (ix : Nat) (As : Option Addr) (k : Ck) (n : Nat) (S : Nat → Bool) (e : Env) (w : World) : Prop where
  f0 : e 0 = .pointer As
  f1 : e 1 = .int .i64 (n : Int)
  p0 : S 0 = true → e 8 = .pointer As
  p1 : S 1 = true → e 9 = .int .i64 (n : Int)
  p3 : S 3 = true → e 11 = .int .i64 (n : Int)
  mem : ∃ (A : Option Addr) (c : Nat) (xs : List Int) (A2 : Option Addr) (k' : Ck) (bsC bsM : List Ck), (S 2 = false → bsC = [] ∧ k' = k) ∧ (S 2 = true → e 10 = .slice A n c ∧ Rg n xs ∧ bsC = [CkI 2 A n c xs]) ∧ srcK w0 As k' ∧ (S 4 = false → bsM = []) ∧
    (S 4 = true → e 12 = .slice A2 n n ∧ bsM = [CkI 2 A2 n n (List.replicate n 0)]) ∧ (S 5 = true → e 5 = .slice A n c) ∧ (S 6 = true → e 6 = .slice A2 n n) ∧ St w0 w (bsM ++ (bsC ++ ks.set ix k'))

theorem l01Matching_c {w0 w : World} {ks : List Ck} (ix : Nat) {As : Option Addr} {k : Ck} (n : Nat) (hS : St w0 w ks) (hk : ks[ix]? = some k) (hK : srcK w0 As k) (hn : n ≤ 1000000) :
  Ret Tryz.prog 87 [.pointer As, .int .i64 (n : Int)] w (fun v w' => ∃ A c xs k', v = .slice A n c ∧ Rg n xs ∧ srcK w0 As k' ∧ St w0 w' (CkI 2 A n c xs :: ks.set ix k')) := by
 refine Ret.of_cd Tryz.func87 rfl Tryz.ntmps87 rfl (post1 rfl) (Cd.seq (Cd.region (Ops.ms rfl rfl rfl (Ops.n (tQ (Cd.seq ?_))))))
 refine Cd.drawS (by kernel_rfl) (by kernel_rfl) (fun S e1 w1 => Ma4 w0 ks ix As k n S e1 w1) (fun w4 hb => ⟨rfl, rfl, fun h => (nomatch h), fun h => (nomatch h), fun h => (nomatch h), none, 0, [], none, k, [], [], fun _ => ⟨rfl, rfl⟩, fun h => (nomatch h), hK, fun _ => rfl, fun h => (nomatch h), fun h => (nomatch h), fun h => (nomatch h), by rw [setK_same hk]; exact hS.later hb⟩) ?_ ?_
 ·intro S q o e1 w4 hq hSk hd hcl hI
  obtain ⟨f0, f1, p0, p1, p3, A, c, xs, A2, k', bsC, bsM, m0, m1, hK', m2, m3, m4, m5, hT⟩ := hI
  match q, hq, hSk with
  | 0, hq, hSk =>
   obtain rfl := Option.some.inj hq
   refine Ops.mv_ptr rfl (by exact f0) rfl (Ops.n ?_)
   exact ⟨f0, f1, fun _ => rfl, p1, p3, A, c, xs, A2, k', bsC, bsM, m0, m1, hK', m2, m3, m4, m5, hT⟩
  | 1, hq, hSk =>
   obtain rfl := Option.some.inj hq
   refine Ops.mi rfl (by exact f1) rfl (Ops.n ?_)
   exact ⟨f0, f1, p0, fun _ => rfl, p3, A, c, xs, A2, k', bsC, bsM, m0, m1, hK', m2, m3, m4, m5, hT⟩
  | 2, hq, hSk =>
   obtain rfl := Option.some.inj hq
   obtain ⟨rfl, rfl⟩ := m0 hSk
   have n5 : S 5 = false := by
    cases h : S 5 with
    | false => rfl
    | true => rw [← hSk]; exact (deps_of (hcl 5 _ h rfl) 2 rfl).symm
   have n6 : S 6 = false := by
    cases h : S 6 with
    | false => rfl
    | true => rw [← n5]; exact (deps_of (hcl 6 _ h rfl) 5 rfl).symm
   rw [List.nil_append] at hT
   have hkk : (bsM ++ ks.set ix k')[bsM.length + ix]? = some k' := by
    rw [List.getElem?_append_right (by omega), show bsM.length + ix - bsM.length = ix by omega]
    exact setK_get hk
   refine Ops.call (l01Draw_c (bsM.length + ix) n hT hkk hK hn) rfl (by show [e1 8, e1 9] = _; rw [p0 (deps_of hd 0 rfl), p1 (deps_of hd 1 rfl)]) rfl ?_
   rintro _ w5 ⟨A', c', xs', k2, rfl, hx', hK2, hT'⟩
   refine Ops.n ?_
   refine ⟨f0, f1, p0, p1, p3, A', c', xs', A2, k2, [CkI 2 A' n c' xs'], bsM, fun h => (nomatch (show true = false from h)), fun _ => ⟨rfl, hx', rfl⟩, hK2, m2, m3, fun h => (nomatch n5.symm.trans h), fun h => (nomatch n6.symm.trans h), ?_⟩
   rw [List.set_append_right _ _ (by omega), show bsM.length + ix - bsM.length = ix by omega, List.set_set] at hT'
   exact hT'.perm (List.perm_middle (l₁ := bsM)).symm
  | 3, hq, hSk =>
   obtain rfl := Option.some.inj hq
   refine Ops.mi rfl (by exact f1) rfl (Ops.n ?_)
   exact ⟨f0, f1, p0, p1, fun _ => rfl, A, c, xs, A2, k', bsC, bsM, m0, m1, hK', m2, m3, m4, m5, hT⟩
  | 4, hq, hSk =>
   obtain rfl := Option.some.inj hq
   obtain rfl := m2 hSk
   have n6 : S 6 = false := by
    cases h : S 6 with
    | false => rfl
    | true => rw [← hSk]; exact (deps_of (hcl 6 _ h rfl) 4 rfl).symm
   refine Ops.mkI n hT (by exact p3 (deps_of hd 3 rfl)) rfl (by omega) ?_
   intro A' w5 hT5
   refine Ops.n ?_
   exact ⟨f0, f1, p0, p1, p3, A, c, xs, A', k', bsC, [CkI 2 A' n n (List.replicate n 0)], m0, m1, hK', fun h => (nomatch (show true = false from h)), fun _ => ⟨rfl, rfl⟩, m4, fun h => (nomatch n6.symm.trans h), hT5⟩
  | 5, hq, hSk =>
   obtain rfl := Option.some.inj hq
   refine Ops.ms rfl (by exact (m1 (deps_of hd 2 rfl)).1) rfl (Ops.n ?_)
   exact ⟨f0, f1, p0, p1, p3, A, c, xs, A2, k', bsC, bsM, m0, m1, hK', m2, m3, fun _ => rfl, m5, hT⟩
  | 6, hq, hSk =>
   obtain rfl := Option.some.inj hq
   refine Ops.ms rfl (by exact (m3 (deps_of hd 4 rfl)).1) rfl (Ops.n ?_)
   exact ⟨f0, f1, p0, p1, p3, A, c, xs, A2, k', bsC, bsM, m0, m1, hK', m2, m3, m4, fun _ => rfl, hT⟩
  | q + 7, hq, _ => exact (nomatch hq)
 ·intro S e1 w4 hall hI
  obtain ⟨f0, f1, p0, p1, p3, A, c, xs, A2, k', bsC, bsM, m0, m1, hK', m2, m3, m4, m5, hT⟩ := hI
  obtain ⟨_, hx, rfl⟩ := m1 (hall 2 (by decide))
  obtain ⟨_, rfl⟩ := m3 (hall 4 (by decide))
  refine thenQ_ext (F := [(0, .pointer As), (1, .int .i64 (n : Int)), (5, .slice A n c), (6, .slice A2 n n)]) ⟨f0, f1, m4 (hall 5 (by decide)), m5 (hall 6 (by decide)), trivial⟩ ?_
  have hT : St w0 w4 (CkI 2 A2 n n (List.replicate n 0) :: CkI 2 A n c xs :: ks.set ix k') := hT
  refine tQ (Cd.seq (Cd.seq (Cd.region (Ops.mi rfl rfl rfl (Ops.n (tQ (Cd.block ?_)))))))
  refine Cd.loop (α := Nat × List Int) (fun s => [(1, .int .i64 (n : Int)), (5, .slice A n c), (6, .slice A2 n n), (7, .int .i64 (s.1 : Int))]) (fun s w' => St w0 w' (CkI 2 A2 n n s.2 :: CkI 2 A n c xs :: ks.set ix k') ∧ Rg n s.2 ∧ s.1 ≤ n + 1) (fun s => n + 2 - s.1) (0, List.replicate n 0) ⟨rfl, rfl, rfl, rfl, trivial⟩ ⟨hT, ⟨by simp, fun x hx => by obtain ⟨h0, rfl⟩ := List.mem_replicate.1 hx; omega⟩, Nat.zero_le _⟩ ?_
  rintro ⟨i, ps⟩ e w5 ⟨hT5, hps, hi⟩
  dsimp only at hT5 hps hi ⊢
  refine Cd.seq (Cd.seq (Cd.region (Ops.mi rfl rfl rfl (Ops.add rfl rfl rfl (by omega) (Ops.mi rfl rfl rfl (Ops.lss rfl rfl rfl (Ops.n (tQ ?_))))))))
  refine Cd.cond_p _ rfl (fun h1 => ?_) (fun h1 => ?_)
  ·have hP5 := hT5.rdI 0 rfl
   have hO5 := hT5.rdI 1 rfl
   have hg0 := hx.gi (i := (i : Int)) (by omega) (by omega)
   have hg1 := hx.gi (i := (i : Int) + 1) (by omega) (by omega)
   refine Cd.skip (tQ (Cd.seq (Cd.block (Cd.seq ?_))))
   refine Cd.drawN [11] [.ex (.slice (A2) (n) (n)), .ex (.slice (A) (n) (c)), .ex (.int .i64 ((i : Int))), .ex (.pointer (ptrAt (A) ((i : Int)).toNat)), .ex (.int .i64 (gi (xs) ((i : Int)))), .ex (.slice (A) (n) (c)), .ex (.int .i64 ((i : Int))), .ex (.int .i64 (((i : Int)) + ((1 : Int)))), .ex (.pointer (ptrAt (A) (((i : Int)) + ((1 : Int))).toNat)), .ex (.int .i64 (gi (xs) (((i : Int)) + ((1 : Int))))), .ex (.pointer (ptrAt (A2) (gi (xs) ((i : Int))).toNat)), .pr (fun _ w' => St w0 w' (CkI 2 A2 n n (ps.set (gi xs (i : Int)).toNat (gi xs ((i : Int) + 1))) :: CkI 2 A n c xs :: ks.set ix k'))] (by kernel_rfl) (by kernel_rfl) (lx (lx (lx (lx (lx (lx (lx (lx (lx (lx (lx (List.forall_mem_cons.2 ⟨Yd.lasts_pr (fun v w w' h hb => h.later hb), (fun _ h => by cases h)⟩)))))))))))) ⟨?_, ?_, ?_, ?_, ?_, ?_, ?_, ?_, ?_, ?_, ?_, ?_, trivial⟩ ?_
   ·intro e1 w1 cc hlo hhi hb0 hp hun hq
    show Ops _ _ _ _ _ _ _
    refine Ops.ms rfl rfl rfl (Ops.n (n0 rfl (by exact rfl)))
   ·intro e1 w1 cc hlo hhi hb0 hp hun hq
    show Ops _ _ _ _ _ _ _
    refine Ops.ms rfl rfl rfl (Ops.n (n0 rfl (by exact rfl)))
   ·intro e1 w1 cc hlo hhi hb0 hp hun hq
    show Ops _ _ _ _ _ _ _
    refine Ops.mi rfl rfl rfl (Ops.n (n0 rfl (by exact rfl)))
   ·intro e1 w1 cc hlo hhi hb0 hp hun hq
    show Ops _ _ _ _ _ _ _
    obtain rfl := cc_of hlo hhi (b := 0) (by kernel_rfl) (by kernel_rfl); clear hlo hhi
    have hb := hb0 rfl
    refine Ops.idx (hO5.later hb).2 rfl rfl rfl (by omega) (by omega) (Ops.n (n0 rfl (by exact rfl)))
   ·intro e1 w1 cc hlo hhi hb0 hp hun hq
    show Ops _ _ _ _ _ _ _
    obtain rfl := cc_of hlo hhi (b := 0) (by kernel_rfl) (by kernel_rfl); clear hlo hhi
    have hb := hb0 rfl
    refine Ops.ld_int (hO5.later hb) rfl (by omega) rfl rfl (Ops.n (n0 rfl (by exact rfl)))
   ·intro e1 w1 cc hlo hhi hb0 hp hun hq
    show Ops _ _ _ _ _ _ _
    refine Ops.ms rfl rfl rfl (Ops.n (n0 rfl (by exact rfl)))
   ·intro e1 w1 cc hlo hhi hb0 hp hun hq
    show Ops _ _ _ _ _ _ _
    refine Ops.mi rfl rfl rfl (Ops.n (n0 rfl (by exact rfl)))
   ·intro e1 w1 cc hlo hhi hb0 hp hun hq
    show Ops _ _ _ _ _ _ _
    refine Ops.add rfl rfl rfl (by omega) (Ops.n (n0 rfl (by exact rfl)))
   ·intro e1 w1 cc hlo hhi hb0 hp hun hq
    show Ops _ _ _ _ _ _ _
    obtain rfl := cc_of hlo hhi (b := 0) (by kernel_rfl) (by kernel_rfl); clear hlo hhi
    have hb := hb0 rfl
    refine Ops.idx (hO5.later hb).2 rfl rfl rfl (by omega) (by omega) (Ops.n (n0 rfl (by exact rfl)))
   ·intro e1 w1 cc hlo hhi hb0 hp hun hq
    show Ops _ _ _ _ _ _ _
    obtain rfl := cc_of hlo hhi (b := 0) (by kernel_rfl) (by kernel_rfl); clear hlo hhi
    have hb := hb0 rfl
    refine Ops.ld_int (hO5.later hb) rfl (by omega) rfl rfl (Ops.n (n0 rfl (by exact rfl)))
   ·intro e1 w1 cc hlo hhi hb0 hp hun hq
    show Ops _ _ _ _ _ _ _
    obtain rfl := cc_of hlo hhi (b := 0) (by kernel_rfl) (by kernel_rfl); clear hlo hhi
    have hb := hb0 rfl
    refine Ops.idx (hP5.later hb).2 rfl rfl rfl (by omega) (by omega) (Ops.n (n0 rfl (by exact rfl)))
   ·intro e1 w1 cc hlo hhi hb0 hp hun hq
    show Ops _ _ _ _ _ _ _
    obtain rfl := cc_of hlo hhi (b := 0) (by kernel_rfl) (by kernel_rfl); clear hlo hhi
    have hb := hb0 rfl
    refine Ops.st_int 0 (hT5.later hb) rfl rfl rfl (by omega) ?_
    intro w9 hT9
    refine Ops.n ?_
    exact AfterT.st rfl hT9
   intro u w6 _ hu
   have hT6 := hu 11 _ rfl (by kernel_rfl)
   have hP6 := hT6.rdI 0 rfl
   have hO6 := hT6.rdI 1 rfl
   refine tQ ?_
   refine Cd.drawN [11] [.ex (.slice (A2) (n) (n)), .ex (.slice (A) (n) (c)), .ex (.int .i64 ((i : Int))), .ex (.int .i64 (((i : Int)) + ((1 : Int)))), .ex (.pointer (ptrAt (A) (((i : Int)) + ((1 : Int))).toNat)), .ex (.int .i64 (gi (xs) (((i : Int)) + ((1 : Int))))), .ex (.slice (A) (n) (c)), .ex (.int .i64 ((i : Int))), .ex (.pointer (ptrAt (A) ((i : Int)).toNat)), .ex (.int .i64 (gi (xs) ((i : Int)))), .ex (.pointer (ptrAt (A2) (gi (xs) (((i : Int)) + ((1 : Int)))).toNat)), .pr (fun _ w' => St w0 w' (CkI 2 A2 n n ((ps.set (gi xs (i : Int)).toNat (gi xs ((i : Int) + 1))).set (gi xs ((i : Int) + 1)).toNat (gi xs (i : Int))) :: CkI 2 A n c xs :: ks.set ix k'))] (by kernel_rfl) (by kernel_rfl) (lx (lx (lx (lx (lx (lx (lx (lx (lx (lx (lx (List.forall_mem_cons.2 ⟨Yd.lasts_pr (fun v w w' h hb => h.later hb), (fun _ h => by cases h)⟩)))))))))))) ⟨?_, ?_, ?_, ?_, ?_, ?_, ?_, ?_, ?_, ?_, ?_, ?_, trivial⟩ ?_
   ·intro e1 w1 cc hlo hhi hb0 hp hun hq
    show Ops _ _ _ _ _ _ _
    refine Ops.ms rfl rfl rfl (Ops.n (n0 rfl (by exact rfl)))
   ·intro e1 w1 cc hlo hhi hb0 hp hun hq
    show Ops _ _ _ _ _ _ _
    refine Ops.ms rfl rfl rfl (Ops.n (n0 rfl (by exact rfl)))
   ·intro e1 w1 cc hlo hhi hb0 hp hun hq
    show Ops _ _ _ _ _ _ _
    refine Ops.mi rfl rfl rfl (Ops.n (n0 rfl (by exact rfl)))
   ·intro e1 w1 cc hlo hhi hb0 hp hun hq
    show Ops _ _ _ _ _ _ _
    refine Ops.add rfl rfl rfl (by omega) (Ops.n (n0 rfl (by exact rfl)))
   ·intro e1 w1 cc hlo hhi hb0 hp hun hq
    show Ops _ _ _ _ _ _ _
    obtain rfl := cc_of hlo hhi (b := 0) (by kernel_rfl) (by kernel_rfl); clear hlo hhi
    have hb := hb0 rfl
    refine Ops.idx (hO6.later hb).2 rfl rfl rfl (by omega) (by omega) (Ops.n (n0 rfl (by exact rfl)))
   ·intro e1 w1 cc hlo hhi hb0 hp hun hq
    show Ops _ _ _ _ _ _ _
    obtain rfl := cc_of hlo hhi (b := 0) (by kernel_rfl) (by kernel_rfl); clear hlo hhi
    have hb := hb0 rfl
    refine Ops.ld_int (hO6.later hb) rfl (by omega) rfl rfl (Ops.n (n0 rfl (by exact rfl)))
   ·intro e1 w1 cc hlo hhi hb0 hp hun hq
    show Ops _ _ _ _ _ _ _
    refine Ops.ms rfl rfl rfl (Ops.n (n0 rfl (by exact rfl)))
   ·intro e1 w1 cc hlo hhi hb0 hp hun hq
    show Ops _ _ _ _ _ _ _
    refine Ops.mi rfl rfl rfl (Ops.n (n0 rfl (by exact rfl)))
   ·intro e1 w1 cc hlo hhi hb0 hp hun hq
    show Ops _ _ _ _ _ _ _
    obtain rfl := cc_of hlo hhi (b := 0) (by kernel_rfl) (by kernel_rfl); clear hlo hhi
    have hb := hb0 rfl
    refine Ops.idx (hO6.later hb).2 rfl rfl rfl (by omega) (by omega) (Ops.n (n0 rfl (by exact rfl)))
   ·intro e1 w1 cc hlo hhi hb0 hp hun hq
    show Ops _ _ _ _ _ _ _
    obtain rfl := cc_of hlo hhi (b := 0) (by kernel_rfl) (by kernel_rfl); clear hlo hhi
    have hb := hb0 rfl
    refine Ops.ld_int (hO6.later hb) rfl (by omega) rfl rfl (Ops.n (n0 rfl (by exact rfl)))
   ·intro e1 w1 cc hlo hhi hb0 hp hun hq
    show Ops _ _ _ _ _ _ _
    obtain rfl := cc_of hlo hhi (b := 0) (by kernel_rfl) (by kernel_rfl); clear hlo hhi
    have hb := hb0 rfl
    refine Ops.idx (hP6.later hb).2 rfl rfl rfl (by omega) (by omega) (Ops.n (n0 rfl (by exact rfl)))
   ·intro e1 w1 cc hlo hhi hb0 hp hun hq
    show Ops _ _ _ _ _ _ _
    obtain rfl := cc_of hlo hhi (b := 0) (by kernel_rfl) (by kernel_rfl); clear hlo hhi
    have hb := hb0 rfl
    refine Ops.st_int 0 (hT6.later hb) rfl rfl rfl (by omega) ?_
    intro w9 hT9
    refine Ops.n ?_
    exact AfterT.st rfl hT9
   intro u2 w7 _ hu2
   have hT7 := hu2 11 _ rfl (by kernel_rfl)
   refine blockQ_n (tQ (Cd.region (Ops.mi rfl rfl rfl (Ops.add rfl rfl rfl (by omega) (Ops.mi rfl rfl rfl (Ops.n (tQ ?_)))))))
   exact ⟨(i + 2, (ps.set (gi xs (i : Int)).toNat (gi xs ((i : Int) + 1))).set (gi xs ((i : Int) + 1)).toNat (gi xs (i : Int))), by show n + 2 - (i + 2) < n + 2 - i; omega, ⟨rfl, rfl, rfl, rfl, trivial⟩, hT7, (hps.set hg1.1 hg1.2).set hg0.1 hg0.2, by show i + 2 ≤ n + 1; omega⟩
  ·refine Cd.exit (thenQ_x (thenQ_x (blockQ_x (tQ (Cd.seq (Cd.region (Ops.ms rfl rfl rfl (Ops.ms rfl rfl rfl (Ops.n ?_)))))))))
   refine tQ (Cd.ret (ret1_s rfl ?_))
   exact ⟨A2, n, ps, k', rfl, hps, hK', hT5.sub (List.Sublist.cons_cons _ (List.sublist_cons_self _ _))⟩
end Go.Proofs.YtbhnfehcpnnjcaaGreatDoor.Vc
/-
 The draws of maniplexes, walked: polygons. Conditions: as each states them.
-/
namespace Go.Proofs.YtbhnfehcpnnjcaaGreatDoor.Vc
open Go.RowKit

/-- rows of numbers in range -/
def GM (N : Nat) (xss : List (List Int)) : Prop := ∀ p ∈ xss, Rg N p
theorem GM.sys {N : Nat} {xss : List (List Int)} (h : GM N xss) : Sys N xss := fun p hp => ⟨(h p hp).1, fun x h0 h1 => (h p hp).gi h0 h1⟩
/-- an answer: a maniplex with so many rows and flags, in memory of its own -/
def AnsG (n N : Nat) (w : World) (v : Value) (w' : World) : Prop := ∃ A c rs xss, v = .agg #[.slice A n c] ∧ rs.length = n ∧ xss.length = n ∧ GM N xss ∧ St w w' (mat 28 2 A n c rs xss)

/-- how far the open statement is -/
structure Po4 (w0 : World) (base : List Ck) (n : Nat) (S : Nat → Bool) (e : Env) (w : World) : Prop where
 f2 : ∃ A, e 2 = .pointer A ∧ base = [Bx 26 1 A [.slice none 0 0]]
 f3 : e 3 = .int .i64 (n : Int)
 p0 : S 0 = true → e 9 = .int .i64 (n : Int)
 p2 : S 2 = true → e 11 = .int .i64 (n : Int)
 mem : ∃ (A1 A2 : Option Addr) (b1 b2 : List Ck), (S 1 = false → b1 = []) ∧ (S 1 = true → e 10 = .slice A1 n n ∧ b1 = [CkI 2 A1 n n (List.replicate n 0)]) ∧ (S 3 = false → b2 = []) ∧ (S 3 = true → e 12 = .slice A2 n n ∧ b2 = [CkI 2 A2 n n (List.replicate n 0)]) ∧ (S 4 = true → e 4 = .slice A1 n n) ∧ (S 5 = true → e 5 = .slice A2 n n) ∧ St w0 w (b1 ++ (b2 ++ base))

theorem l02Polygon_c (p : Nat) (w : World) (hp : 1 ≤ p ∧ p ≤ 100000) : Ret Tryz.prog 125 [.int .i64 (p : Int)] w (AnsG 2 (2 * p) w) := by
 refine Ret.of_cd Tryz.func125 rfl Tryz.ntmps125 rfl (postc rfl rfl) (Cd.seq (Cd.region (Ops.new1 (St.refl w) rfl ?_)))
 intro A2 w1 hS1
 refine Ops.n (tQ (Cd.seq (Cd.region (Ops.mi rfl rfl rfl (Ops.mul rfl rfl rfl (by omega) (Ops.mi rfl rfl rfl (Ops.n (tQ (Cd.seq ?_)))))))))
 have hn : (2 : Int) * (p : Int) = ((2 * p : Nat) : Int) := by omega
 rw [hn]
 generalize hN : 2 * p = n
 have hn2 : 2 ≤ n := by omega
 refine Cd.drawS (by kernel_rfl) (by kernel_rfl) (fun S e1 w1 => Po4 w [Bx 26 1 A2 [.slice none 0 0]] n S e1 w1) (fun w4 hb => ⟨⟨A2, rfl, rfl⟩, rfl, fun h => (nomatch h), fun h => (nomatch h), none, none, [], [], fun _ => rfl, fun h => (nomatch h), fun _ => rfl, fun h => (nomatch h), fun h => (nomatch h), fun h => (nomatch h), hS1.later hb⟩) ?_ ?_
 ·intro S q o e1 w4 hq hSk hd hcl hI
  obtain ⟨f2, f3, p0, p2, A, B, b1, b2, m1, m1', m3, m3', m4, m5, hT⟩ := hI
  match q, hq, hSk with
  | 0, hq, hSk =>
   obtain rfl := Option.some.inj hq
   refine Ops.mi rfl (by exact f3) rfl (Ops.n ?_)
   exact ⟨f2, f3, fun _ => rfl, p2, A, B, b1, b2, m1, m1', m3, m3', m4, m5, hT⟩
  | 1, hq, hSk =>
   obtain rfl := Option.some.inj hq
   obtain rfl := m1 hSk
   have n4 : S 4 = false := by
    cases h : S 4 with
    | false => rfl
    | true => rw [← hSk]; exact (deps_of (hcl 4 _ h rfl) 1 rfl).symm
   refine Ops.mkI n hT (by exact p0 (deps_of hd 0 rfl)) rfl (by omega) ?_
   intro A' w5 hT5
   refine Ops.n ?_
   exact ⟨f2, f3, p0, p2, A', B, [CkI 2 A' n n (List.replicate n 0)], b2, fun h => (nomatch (show true = false from h)), fun _ => ⟨rfl, rfl⟩, m3, m3', fun h => (nomatch n4.symm.trans h), m5, hT5⟩
  | 2, hq, hSk =>
   obtain rfl := Option.some.inj hq
   refine Ops.mi rfl (by exact f3) rfl (Ops.n ?_)
   exact ⟨f2, f3, p0, fun _ => rfl, A, B, b1, b2, m1, m1', m3, m3', m4, m5, hT⟩
  | 3, hq, hSk =>
   obtain rfl := Option.some.inj hq
   obtain rfl := m3 hSk
   have n5 : S 5 = false := by
    cases h : S 5 with
    | false => rfl
    | true => rw [← hSk]; exact (deps_of (hcl 5 _ h rfl) 3 rfl).symm
   refine Ops.mkI n hT (by exact p2 (deps_of hd 2 rfl)) rfl (by omega) ?_
   intro A' w5 hT5
   refine Ops.n ?_
   exact ⟨f2, f3, p0, p2, A, A', b1, [CkI 2 A' n n (List.replicate n 0)], m1, m1', fun h => (nomatch (show true = false from h)), fun _ => ⟨rfl, rfl⟩, m4, fun h => (nomatch n5.symm.trans h), hT5.perm (List.perm_middle (l₁ := b1)).symm⟩
  | 4, hq, hSk =>
   obtain rfl := Option.some.inj hq
   refine Ops.ms rfl (by exact (m1' (deps_of hd 1 rfl)).1) rfl (Ops.n ?_)
   exact ⟨f2, f3, p0, p2, A, B, b1, b2, m1, m1', m3, m3', fun _ => rfl, m5, hT⟩
  | 5, hq, hSk =>
   obtain rfl := Option.some.inj hq
   refine Ops.ms rfl (by exact (m3' (deps_of hd 3 rfl)).1) rfl (Ops.n ?_)
   exact ⟨f2, f3, p0, p2, A, B, b1, b2, m1, m1', m3, m3', m4, fun _ => rfl, hT⟩
  | q + 6, hq, _ => exact (nomatch hq)
 ·intro S e1 w4 hall hI
  obtain ⟨⟨A0, f2, hbase⟩, f3, p0, p2, A, B, b1, b2, m1, m1', m3, m3', m4, m5, hT⟩ := hI
  obtain ⟨_, rfl⟩ := m1' (hall 1 (by decide))
  obtain ⟨_, rfl⟩ := m3' (hall 3 (by decide))
  rw [hbase] at hT
  refine thenQ_ext (F := [(2, .pointer A0), (3, .int .i64 (n : Int)), (4, .slice A n n), (5, .slice B n n)]) ⟨f2, f3, m4 (hall 4 (by decide)), m5 (hall 5 (by decide)), trivial⟩ ?_
  have hT : St w w4 [CkI 2 A n n (List.replicate n 0), CkI 2 B n n (List.replicate n 0), Bx 26 1 A0 [.slice none 0 0]] := hT
  have hz : Rg n (List.replicate n 0) := ⟨by simp, fun x hx => by obtain ⟨h0, rfl⟩ := List.mem_replicate.1 hx; omega⟩
  refine tQ (Cd.seq (Cd.seq (Cd.region (Ops.mi rfl rfl rfl (Ops.n (tQ (Cd.block ?_)))))))
  refine Cd.loop (α := Nat × List Int × List Int) (fun s => [(2, .pointer A0), (3, .int .i64 (n : Int)), (4, .slice A n n), (5, .slice B n n), (6, .int .i64 (s.1 : Int))]) (fun s w' => St w w' [CkI 2 A n n s.2.1, CkI 2 B n n s.2.2, Bx 26 1 A0 [.slice none 0 0]] ∧ Rg n s.2.1 ∧ Rg n s.2.2 ∧ s.1 ≤ n) (fun s => n - s.1) (0, List.replicate n 0, List.replicate n 0) ⟨rfl, rfl, rfl, rfl, rfl, trivial⟩ ⟨hT, hz, hz, Nat.zero_le _⟩ ?_
  rintro ⟨f, xs, ys⟩ e w5 ⟨hT5, hx, hy, hf⟩
  dsimp only at hT5 hx hy hf ⊢
  refine Cd.seq (Cd.seq (Cd.region (Ops.mi rfl rfl rfl (Ops.mi rfl rfl rfl (Ops.lss rfl rfl rfl (Ops.n (tQ ?_)))))))
  refine Cd.cond_p _ rfl (fun h1 => ?_) (fun h1 => ?_)
  ·have hX5 := hT5.rdI 0 rfl
   have hm1 := Int.emod_nonneg ((f : Int) + (n : Int) - 1) (b := (n : Int)) (by omega)
   have hm2 := Int.emod_lt_of_pos ((f : Int) + (n : Int) - 1) (b := (n : Int)) (by omega)
   have hm3 := Int.emod_nonneg ((f : Int) + 1) (b := (n : Int)) (by omega)
   have hm4 := Int.emod_lt_of_pos ((f : Int) + 1) (b := (n : Int)) (by omega)
   refine Cd.skip (tQ (Cd.seq (Cd.block (Cd.seq (Cd.region (Ops.mi rfl rfl rfl (Ops.rem rfl rfl rfl (by omega) (Ops.eql rfl rfl rfl (Ops.n ?_)))))))))
   refine tQ ?_
   refine Cd.cond_p _ rfl (fun h2 => ?_) (fun h2 => ?_)
   ·refine Cd.seq (Cd.region (Ops.ms rfl rfl rfl (Ops.mi rfl rfl rfl (Ops.mi rfl rfl rfl (Ops.add rfl rfl rfl (by omega) (Ops.idx hX5.2 rfl rfl rfl (by omega) (by omega) (Ops.st_int 0 hT5 rfl rfl rfl (by omega) ?_)))))))
    intro w6 hT6
    have hT6 : St w w6 [CkI 2 A n n (xs.set (f : Int).toNat ((f : Int) + 1)), CkI 2 B n n ys, Bx 26 1 A0 [.slice none 0 0]] := hT6
    have hY6 := hT6.rdI 1 rfl
    refine Ops.n (tQ (Cd.region (Ops.ms rfl rfl rfl (Ops.mi rfl rfl rfl (Ops.mi rfl rfl rfl (Ops.mi rfl rfl rfl (Ops.add rfl rfl rfl (by omega) (Ops.sub rfl rfl rfl (by omega) (Ops.mi rfl rfl rfl ?_)))))))))
    refine Ops.rem rfl rfl rfl (by omega) ?_
    skip
    refine Ops.idx hY6.2 rfl rfl rfl (by omega) (by omega) (Ops.st_int 1 hT6 rfl rfl rfl (by omega) ?_)
    intro w7 hT7
    refine Ops.n (blockQ_n (tQ (Cd.region (Ops.mi rfl rfl rfl (Ops.add rfl rfl rfl (by omega) (Ops.mi rfl rfl rfl (Ops.n (tQ ?_))))))))
    exact ⟨(f + 1, xs.set (f : Int).toNat ((f : Int) + 1), ys.set (f : Int).toNat (((f : Int) + (n : Int) - 1) % (n : Int))), by show n - (f + 1) < n - f; omega, ⟨rfl, rfl, rfl, rfl, rfl, trivial⟩, hT7, hx.set (by omega) (by omega), hy.set hm1 hm2, by show f + 1 ≤ n; omega⟩
   ·refine Cd.seq (Cd.region (Ops.ms rfl rfl rfl (Ops.mi rfl rfl rfl (Ops.mi rfl rfl rfl (Ops.sub rfl rfl rfl (by omega) (Ops.idx hX5.2 rfl rfl rfl (by omega) (by omega) (Ops.st_int 0 hT5 rfl rfl rfl (by omega) ?_)))))))
    intro w6 hT6
    have hT6 : St w w6 [CkI 2 A n n (xs.set (f : Int).toNat ((f : Int) - 1)), CkI 2 B n n ys, Bx 26 1 A0 [.slice none 0 0]] := hT6
    have hY6 := hT6.rdI 1 rfl
    refine Ops.n (tQ (Cd.region (Ops.ms rfl rfl rfl (Ops.mi rfl rfl rfl (Ops.mi rfl rfl rfl (Ops.add rfl rfl rfl (by omega) (Ops.mi rfl rfl rfl (Ops.rem rfl rfl rfl (by omega) ?_))))))))
    skip
    refine Ops.idx hY6.2 rfl rfl rfl (by omega) (by omega) (Ops.st_int 1 hT6 rfl rfl rfl (by omega) ?_)
    intro w7 hT7
    refine Ops.n (blockQ_n (tQ (Cd.region (Ops.mi rfl rfl rfl (Ops.add rfl rfl rfl (by omega) (Ops.mi rfl rfl rfl (Ops.n (tQ ?_))))))))
    exact ⟨(f + 1, xs.set (f : Int).toNat ((f : Int) - 1), ys.set (f : Int).toNat (((f : Int) + 1) % (n : Int))), by show n - (f + 1) < n - f; omega, ⟨rfl, rfl, rfl, rfl, rfl, trivial⟩, hT7, hx.set (by omega) (by omega), hy.set hm3 hm4, by show f + 1 ≤ n; omega⟩
  ·refine Cd.exit (thenQ_x (thenQ_x (blockQ_x (tQ (Cd.seq (Cd.region (Ops.ms rfl rfl rfl (Ops.ms rfl rfl rfl (Ops.bs2 hT5 rfl rfl rfl rfl rfl rfl ?_)))))))))
   intro A9 w6 hT6
   skip
   refine Ops.bld1 (by exact inferInstance) rfl rfl rfl rfl (Ops.st_agg 1 3 hT6 rfl rfl rfl rfl rfl rfl rfl ?_)
   intro w7 hT7
   refine Ops.n (tQ (Cd.ret ?_))
   skip
   refine retc_r rfl (hT7.rd 3 rfl) ?_
   refine ⟨A9, 2, [⟨A, n, n⟩, ⟨B, n, n⟩], [xs, ys], rfl, rfl, rfl, fun q hq => ?_, ?_⟩
   ·rcases List.mem_cons.1 hq with rfl | hq
    ·exact hx
    ·rw [List.mem_singleton] at hq; subst hq; exact hy
   ·exact hT7.sub (List.Sublist.cons_cons _ (List.Sublist.cons_cons _ (List.Sublist.cons_cons _ (List.nil_sublist _))))
end Go.Proofs.YtbhnfehcpnnjcaaGreatDoor.Vc
/-
 The reference's coset enumeration, walked: what its functions return if the plain functions do (they have a bound on their steps and say none beyond it). Conditions: as each states them.
-/
namespace Go.Proofs.YtbhnfehcpnnjcaaGreatDoor.Vc
open Go.RowKit

section
variable {P : Program} {N : Nat} {ops : Array Oper} {K : Env → World → Prop} {rest : List Oper} {e : Env} {w0 w w' : World} {ks : List Ck} {d : Nat} {ty : TypeId} {pos : String} {af : Array Edge}
theorem Ops.box3 {el : TypeId} {x : Operand} {v0 v1 v2 : Value} (hS : St w0 w ks) (hx : ev e x = .agg #[v0, v1, v2]) (hb : Nat.blt d N = true)
    (hK : ∀ A w', St w0 w' (Bx el 3 A [v0, v1, v2] :: ks) → Ops P N ops K rest (upd e d (.pointer A)) w') (hM : isM [v0, v1, v2] = false := by rfl) : Ops P N ops K (⟨some d, .box el x, ty, pos, af, none⟩ :: rest) e w := .box_agg hS hx hb rfl hK hM
theorem Ops.new3 {el : TypeId} {v0 v1 v2 : Value} {s b : Nat} [Inf P el (.agg #[v0, v1, v2]) s b] (hS : St w0 w ks) (hb : Nat.blt d N = true)
    (hK : ∀ A w', St w0 w' (Bx el 3 A [v0, v1, v2] :: ks) → Ops P N ops K rest (upd e d (.pointer A)) w') (hM : isM [v0, v1, v2] = false := by rfl) : Ops P N ops K (⟨some d, .alloc el, ty, pos, af, none⟩ :: rest) e w := .new (el := el) (z := .agg #[v0, v1, v2]) (s := s) (b := b) hS hb rfl hK hM
end

/-! plain -/
structure PS where
 im : List (List Int)
 ls : List Int
def findP (ls : List Int) : Nat → Int → Option Int
 | 0, _ => none
 | k + 1, c => if 0 ≤ c ∧ c < (ls.length : Int) then (if gi ls c = c then some c else findP ls k (gi ls c)) else none
def imageP (x : PS) (c g : Int) : Option Int :=
 if 0 ≤ c ∧ c < (x.im.length : Int) ∧ 0 ≤ g ∧ g < ((gl x.im c).length : Int) then (if gi (gl x.im c) g < 0 then some (-1) else findP x.ls 2000 (gi (gl x.im c) g)) else none
def defP (x : PS) (gens : Nat) : Option PS :=
 if x.ls.length = x.im.length ∧ x.ls.length < 2000 ∧ gens ≤ 100 then some ⟨x.im ++ [List.replicate gens (-1)], x.ls ++ [(x.ls.length : Int)]⟩ else none

/-! memory -/
structure LS where
 A : Option Addr
 n : Nat
 c : Nat
 rs : List SlV
 im : List (List Int)
 B : Option Addr
 m : Nat
 cB : Nat
 ls : List Int
def LS.ok (x : LS) : Prop := x.rs.length = x.n ∧ x.im.length = x.n ∧ x.ls.length = x.m
abbrev LS.cks (x : LS) : List Ck := CkI 2 x.B x.m x.cB x.ls :: mat 28 2 x.A x.n x.c x.rs x.im
abbrev LS.cells (x : LS) : List Value := [.slice x.A x.n x.c, .slice x.B x.m x.cB, .bool false]
abbrev LS.val (x : LS) : Value := .agg #[.slice x.A x.n x.c, .slice x.B x.m x.cB, .bool false]
def LS.p (x : LS) : PS := ⟨x.im, x.ls⟩

theorem l11Find_c {A B : Option Addr} {n c m cB : Nat} {b : Bool} (ls : List Int) (k0 : Nat) (c0 d : Int) (w : World) (hR : RdI w B m ls) (hf : findP ls k0 c0 = some d) :
  Ret Tryz.prog 152 [.agg #[.slice A n c, .slice B m cB, .bool b], .int .i64 c0] w (fun v w' => v = .int .i64 d ∧ St w w' []) := by
 have hl := hR.1
 refine Ret.of_cd Tryz.func152 rfl Tryz.ntmps152 rfl (post1 rfl) (Cd.seq (Cd.region (Ops.box3 (St.refl w) rfl rfl ?_)))
 intro Ab w1 hS
 refine Ops.mi rfl rfl rfl (Ops.n (tQ (Cd.seq (Cd.block ?_))))
 refine Cd.loop (α := Int × Nat) (fun s => [(1, .int .i64 s.1), (2, .pointer Ab)]) (fun s w' => St w w' [Bx 145 3 Ab [.slice A n c, .slice B m cB, .bool b]] ∧ findP ls s.2 s.1 = some d) (fun s => s.2) (c0, k0) ⟨rfl, rfl, trivial⟩ ⟨hS, hf⟩ ?_
 rintro ⟨c, k⟩ e w1 ⟨hS, hf⟩
 obtain ⟨q, rfl⟩ : ∃ q, k = q + 1 := by cases k with | zero => cases hf | succ q => exact ⟨q, rfl⟩
 have hf : (if 0 ≤ c ∧ c < (ls.length : Int) then (if gi ls c = c then some c else findP ls q (gi ls c)) else none) = some d := hf
 split at hf
 case isFalse => cases hf
 rename_i hc
 have hR1 := hS.oldI hR
 refine Cd.seq (Cd.seq (Cd.region (Ops.fld (hS.rd 0 rfl) rfl rfl rfl rfl inferInstance (Ops.ldf_s (hS.rd 0 rfl) rfl rfl rfl rfl rfl (Ops.mi rfl rfl rfl (Ops.idx hR1.2 rfl rfl rfl (by omega) (by omega) (Ops.ld_int hR1 rfl (by omega) rfl rfl (Ops.mi rfl rfl rfl (Ops.neq rfl rfl rfl ?_)))))))))
 refine Ops.n (tQ ?_)
 refine Cd.cond_p _ rfl (fun h1 => ?_) (fun h1 => ?_)
 ·rw [if_neg h1] at hf
  refine Cd.skip (tQ (Cd.block (Cd.region (Ops.fld (hS.rd 0 rfl) rfl rfl rfl rfl inferInstance (Ops.ldf_s (hS.rd 0 rfl) rfl rfl rfl rfl rfl (Ops.mi rfl rfl rfl (Ops.idx hR1.2 rfl rfl rfl (by omega) (by omega) (Ops.ld_int hR1 rfl (by omega) rfl rfl (Ops.mi rfl rfl rfl ?_)))))))))
  refine Ops.n (blockQ_n (tQ ?_))
  exact ⟨(gi ls c, q), Nat.lt_succ_self q, ⟨rfl, rfl, trivial⟩, hS, hf⟩
 ·have h1 : gi ls c = c := Decidable.not_not.1 h1
  rw [if_pos h1] at hf
  obtain rfl := Option.some.inj hf
  refine Cd.exit (thenQ_x (thenQ_x (blockQ_x (tQ (Cd.seq (Cd.region (Ops.mi rfl rfl rfl (Ops.mi rfl rfl rfl (Ops.n ?_)))))))))
  refine tQ (Cd.ret (ret1_i rfl ?_))
  exact ⟨rfl, hS.none⟩

theorem l11Image_c {A B : Option Addr} {n c m cB : Nat} {b : Bool} (rs : List SlV) (im : List (List Int)) (ls : List Int) (c0 g d : Int) (w : World) (hI : RowsI w A n rs im) (hR : RdI w B m ls) (hf : imageP ⟨im, ls⟩ c0 g = some d) :
  Ret Tryz.prog 145 [.agg #[.slice A n c, .slice B m cB, .bool b], .int .i64 c0, .int .i64 g] w (fun v w' => v = .int .i64 d ∧ St w w' []) := by
 have hl := hI.len
 have hf : (if 0 ≤ c0 ∧ c0 < (im.length : Int) ∧ 0 ≤ g ∧ g < ((gl im c0).length : Int) then (if gi (gl im c0) g < 0 then some (-1) else findP ls 2000 (gi (gl im c0) g)) else none) = some d := hf
 split at hf
 case isFalse => cases hf
 rename_i hc
 have hrow := hI.at_ (i := c0) hc.1 (by omega)
 have hrl := hrow.1
 refine Ret.of_cd Tryz.func145 rfl Tryz.ntmps145 rfl (post1 rfl) (Cd.seq (Cd.region (Ops.box3 (St.refl w) rfl rfl ?_)))
 intro Ab w1 hS
 have hI1 := hS.oldRows hI
 have hrow1 := hS.oldI hrow
 have hR1 := hS.oldI hR
 refine Ops.mi rfl rfl rfl (Ops.n (tQ (Cd.seq (Cd.region (Ops.fld (hS.rd 0 rfl) rfl rfl rfl rfl inferInstance (Ops.ldf_s (hS.rd 0 rfl) rfl rfl rfl rfl rfl (Ops.mi rfl rfl rfl (Ops.idx hI1.top.2 rfl rfl rfl (by omega) (by omega) (Ops.ld_sl hI1.top rfl (by omega) rfl rfl ?_)))))))))
 refine Ops.mi rfl rfl rfl (Ops.idx hrow1.2 rfl rfl rfl (by omega) (by omega) (Ops.ld_int hrow1 rfl (by omega) rfl rfl (Ops.mi rfl rfl rfl (Ops.n (tQ (Cd.seq (Cd.seq (Cd.region (Ops.mi rfl rfl rfl ?_)))))))))
 refine Ops.lss rfl rfl rfl (Ops.n (tQ ?_))
 refine Cd.cond_p _ rfl (fun h1 => ?_) (fun h1 => ?_)
 ·rw [if_pos h1] at hf
  obtain rfl := Option.some.inj hf
  refine Cd.seq (Cd.region (Ops.mi rfl rfl rfl (Ops.n (tQ (Cd.ret (thenQ_r (ret1_i rfl ?_)))))))
  exact ⟨rfl, hS.none⟩
 ·rw [if_neg h1] at hf
  refine Cd.skip (tQ (Cd.seq (Cd.region (Ops.ld_agg 2 (hS.rd 0 rfl) rfl rfl rfl (Ops.mi rfl rfl rfl (Ops.call (l11Find_c ls 2000 _ d _ hR1 hf) rfl rfl rfl ?_))))))
  rintro _ w2 ⟨rfl, hst⟩
  refine Ops.mi rfl rfl rfl (Ops.n (tQ (Cd.ret (ret1_i rfl ?_))))
  exact ⟨rfl, (hS.later hst.below).none⟩

theorem l11Define_c {w0 w : World} {ks : List Ck} (x : LS) (gens : Nat) (y : PS) (hok : x.ok) (hS : St w0 w (x.cks ++ ks)) (hp : defP x.p gens = some y) :
  Ret Tryz.prog 149 [x.val, .int .i64 (gens : Int)] w (fun v w' => ∃ x' : LS, x'.ok ∧ x'.p = y ∧ v = .tuple #[x'.val, .int .i64 (x.m : Int)] ∧ St w0 w' (x'.cks ++ ks)) := by
 obtain ⟨A, n, c, rs, im, B, m, cB, ls⟩ := x
 obtain ⟨h1, h2, h3⟩ := hok
 have h1 : rs.length = n := h1
 have h2 : im.length = n := h2
 have h3 : ls.length = m := h3
 have hp : (if ls.length = im.length ∧ ls.length < 2000 ∧ gens ≤ 100 then some (⟨im ++ [List.replicate gens (-1)], ls ++ [(ls.length : Int)]⟩ : PS) else none) = some y := hp
 split at hp
 case isFalse => cases hp
 rename_i hc
 have hp := Option.some.inj hp
 have hS : St w0 w (CkI 2 B m cB ls :: CkR 28 A n c rs :: (rowsCk 2 rs im ++ ks)) := hS
 refine Ret.of_cd Tryz.func149 rfl Tryz.ntmps149 rfl (postc2 rfl rfl) (Cd.seq (Cd.region (Ops.box3 hS rfl rfl ?_)))
 intro Ab w1 hS1
 skip
 refine Ops.new3 hS1 rfl ?_
 intro Ac w2 hS2
 have hS2 : St w0 w2 (Bx 145 3 Ac [.slice none 0 0, .slice none 0 0, .bool false] :: Bx 145 3 Ab [.slice A n c, .slice B m cB, .bool false] :: CkI 2 B m cB ls :: CkR 28 A n c rs :: (rowsCk 2 rs im ++ ks)) := hS2
 refine Ops.mi rfl rfl rfl (Ops.n (tQ (Cd.seq (Cd.region (Ops.fld (hS2.rd 1 rfl) rfl rfl rfl rfl inferInstance (Ops.ldf_s (hS2.rd 1 rfl) rfl rfl rfl rfl rfl (Ops.len rfl rfl (Ops.mi rfl rfl rfl (Ops.n ?_)))))))))
 refine tQ (Cd.seq (Cd.seq (Cd.region (Ops.mi rfl rfl rfl (Ops.eql rfl rfl rfl (Ops.n (tQ (Cd.cond_pf rfl (by omega) (Cd.skip ?_)))))))))
 refine tQ (Cd.seq (Cd.region (Ops.bs0 hS2 rfl ?_)))
 intro A3 w3 hS3
 refine Ops.ms rfl rfl rfl (Ops.n (tQ (Cd.seq (Cd.seq (Cd.region (Ops.mi rfl rfl rfl (Ops.n (tQ (Cd.block ?_)))))))))
 refine Cd.loop (α := Nat × Option Addr × Nat) (fun s => [(1, .int .i64 (gens : Int)), (2, .pointer Ab), (4, .pointer Ac), (6, .int .i64 (m : Int)), (7, .slice s.2.1 s.1 s.2.2), (8, .int .i64 (s.1 : Int))]) (fun s w' => St w0 w' (CkI 2 s.2.1 s.1 s.2.2 (List.replicate s.1 (-1)) :: Bx 145 3 Ac [.slice none 0 0, .slice none 0 0, .bool false] :: Bx 145 3 Ab [.slice A n c, .slice B m cB, .bool false] :: CkI 2 B m cB ls :: CkR 28 A n c rs :: (rowsCk 2 rs im ++ ks)) ∧ s.1 ≤ gens) (fun s => gens - s.1) (0, A3, 0) ⟨rfl, rfl, rfl, rfl, rfl, rfl, trivial⟩ ⟨hS3, Nat.zero_le _⟩ ?_
 rintro ⟨k, A4, c4⟩ e w4 ⟨hS4, hk⟩
 dsimp only at hS4 hk
 refine Cd.seq (Cd.seq (Cd.region (Ops.mi rfl rfl rfl (Ops.mi rfl rfl rfl (Ops.lss rfl rfl rfl (Ops.n (tQ ?_)))))))
 refine Cd.cond_p _ rfl (fun h4 => ?_) (fun h4 => ?_)
 ·refine Cd.skip (tQ (Cd.seq (Cd.block (Cd.region (Ops.ms rfl rfl rfl (Ops.bs1I hS4 rfl rfl rfl ?_))))))
  intro A5 w5 hS5
  refine Ops.appI 1 hS5 rfl (hS5.rdI 0 rfl) rfl rfl rfl (by omega) (by omega) rfl ?_
  intro A6 c6 w6 hS6
  refine Ops.ms rfl rfl rfl (Ops.n (blockQ_n (tQ (Cd.region (Ops.mi rfl rfl rfl (Ops.add rfl rfl rfl (by omega) (Ops.mi rfl rfl rfl (Ops.n (tQ ?_)))))))))
  refine ⟨(k + 1, A6, c6), by show gens - (k + 1) < gens - k; omega, ⟨rfl, rfl, rfl, rfl, rfl, rfl, trivial⟩, ?_, by show k + 1 ≤ gens; omega⟩
  have h5 := hS6.tail
  rw [← List.replicate_succ'] at h5
  exact h5
 ·have hkg : k = gens := by omega
  subst hkg
  refine Cd.exit (thenQ_x (thenQ_x (blockQ_x (tQ (Cd.seq (Cd.region (Ops.fld (hS4.rd 2 rfl) rfl rfl rfl rfl inferInstance (Ops.ldf_s (hS4.rd 2 rfl) rfl rfl rfl rfl rfl (Ops.ms rfl rfl rfl ?_)))))))))
  refine Ops.bs1R hS4 rfl rfl rfl ?_
  intro A5 w5 hS5
  refine Ops.appR 5 hS5 rfl (hS5.rdR 0 rfl) rfl rfl rfl (by omega) (by omega) rfl ?_
  intro A6 c6 w6 hS6
  have hS6 : St w0 w6 (CkI 2 A4 k c4 (List.replicate k (-1)) :: Bx 145 3 Ac [.slice none 0 0, .slice none 0 0, .bool false] :: Bx 145 3 Ab [.slice A n c, .slice B m cB, .bool false] :: CkI 2 B m cB ls :: CkR 28 A6 (n + 1) c6 (rs ++ [⟨A4, k, c4⟩]) :: (rowsCk 2 rs im ++ ks)) := hS6.tail
  skip
  refine Ops.fld (hS6.rd 2 rfl) rfl rfl rfl rfl inferInstance (Ops.stf 2 hS6 rfl rfl rfl rfl rfl ?_)
  intro w7 hS7
  have hS7 : St w0 w7 (CkI 2 A4 k c4 (List.replicate k (-1)) :: Bx 145 3 Ac [.slice none 0 0, .slice none 0 0, .bool false] :: Bx 145 3 Ab [.slice A6 (n + 1) c6, .slice B m cB, .bool false] :: CkI 2 B m cB ls :: CkR 28 A6 (n + 1) c6 (rs ++ [⟨A4, k, c4⟩]) :: (rowsCk 2 rs im ++ ks)) := hS7
  refine Ops.n (tQ (Cd.seq (Cd.region (Ops.fld (hS7.rd 2 rfl) rfl rfl rfl rfl inferInstance (Ops.ldf_s (hS7.rd 2 rfl) rfl rfl rfl rfl rfl (Ops.mi rfl rfl rfl (Ops.bs1I hS7 rfl rfl rfl ?_)))))))
  intro A8 w8 hS8
  refine Ops.appI 4 hS8 rfl (hS8.rdI 0 rfl) rfl rfl rfl (by omega) (by omega) rfl ?_
  intro A9 c9 w9 hS9
  have hS9 : St w0 w9 (CkI 2 A4 k c4 (List.replicate k (-1)) :: Bx 145 3 Ac [.slice none 0 0, .slice none 0 0, .bool false] :: Bx 145 3 Ab [.slice A6 (n + 1) c6, .slice B m cB, .bool false] :: CkI 2 A9 (m + 1) c9 (ls ++ [(m : Int)]) :: CkR 28 A6 (n + 1) c6 (rs ++ [⟨A4, k, c4⟩]) :: (rowsCk 2 rs im ++ ks)) := hS9.tail
  skip
  refine Ops.fld (hS9.rd 2 rfl) rfl rfl rfl rfl inferInstance (Ops.stf 2 hS9 rfl rfl rfl rfl rfl ?_)
  intro w10 hS10
  have hS10 : St w0 w10 (CkI 2 A4 k c4 (List.replicate k (-1)) :: Bx 145 3 Ac [.slice none 0 0, .slice none 0 0, .bool false] :: Bx 145 3 Ab [.slice A6 (n + 1) c6, .slice A9 (m + 1) c9, .bool false] :: CkI 2 A9 (m + 1) c9 (ls ++ [(m : Int)]) :: CkR 28 A6 (n + 1) c6 (rs ++ [⟨A4, k, c4⟩]) :: (rowsCk 2 rs im ++ ks)) := hS10
  refine Ops.n (tQ (Cd.seq (Cd.region (Ops.ld_agg 2 (hS10.rd 2 rfl) rfl rfl rfl (Ops.mi rfl rfl rfl (Ops.st_agg 3 1 hS10 rfl rfl rfl rfl rfl rfl rfl ?_))))))
  intro w11 hS11
  have hS11 : St w0 w11 (CkI 2 A4 k c4 (List.replicate k (-1)) :: Bx 145 3 Ac [.slice A6 (n + 1) c6, .slice A9 (m + 1) c9, .bool false] :: Bx 145 3 Ab [.slice A6 (n + 1) c6, .slice A9 (m + 1) c9, .bool false] :: CkI 2 A9 (m + 1) c9 (ls ++ [(m : Int)]) :: CkR 28 A6 (n + 1) c6 (rs ++ [⟨A4, k, c4⟩]) :: (rowsCk 2 rs im ++ ks)) := hS11
  refine Ops.mi rfl rfl rfl (Ops.n (tQ (Cd.ret ?_)))
  skip
  refine retc2_r rfl (hS11.rd 1 rfl) rfl ?_
  refine ⟨⟨A6, n + 1, c6, rs ++ [⟨A4, k, c4⟩], im ++ [List.replicate k (-1)], A9, m + 1, c9, ls ++ [(m : Int)]⟩, ⟨by simp [h1], by simp [h2], by simp [h3]⟩, ?_, rfl, ?_⟩
  ·rw [← hp, h3]; rfl
  ·have h5 := (hS11.sub ((((List.Sublist.refl _).cons _).cons _).cons_cons _))
   show St w0 w11 (CkI 2 A9 (m + 1) c9 (ls ++ [(m : Int)]) :: CkR 28 A6 (n + 1) c6 (rs ++ [⟨A4, k, c4⟩]) :: (rowsCk 2 (rs ++ [⟨A4, k, c4⟩]) (im ++ [List.replicate k (-1)]) ++ ks))
   rw [rowsCk_append (by omega), List.append_assoc]
   refine h5.perm ((List.perm_middle (l₁ := [_, _]) (a := CkI 2 A4 k c4 (List.replicate k (-1)))).symm.trans ?_)
   refine List.Perm.cons _ (List.Perm.cons _ ?_)
   exact List.perm_middle.symm
end Go.Proofs.YtbhnfehcpnnjcaaGreatDoor.Vc
/-
 The reference's coset enumeration, walked: the next image. Conditions: as each states them.
-/
namespace Go.Proofs.YtbhnfehcpnnjcaaGreatDoor.Vc
open Go.RowKit

def setI (M : List (List Int)) (c g v : Int) : List (List Int) := M.set c.toNat ((gl M c).set g.toNat v)
def nextP (x : PS) (c g : Int) : Option (PS × Int) :=
 match imageP x c g with
 | none => none
 | some d => if 0 ≤ d then some (x, d) else
  match defP x (gl x.im 0).length with
  | none => none
  | some y => if g < ((gl x.im 0).length : Int) then some (⟨setI (setI y.im c g (x.ls.length : Int)) (x.ls.length : Int) g c, y.ls⟩, (x.ls.length : Int)) else none

theorem St.toBack {w0 w : World} {pre a ks : List Ck} (h : St w0 w (pre ++ (a ++ ks))) : St w0 w (a ++ (pre ++ ks)) := h.perm (by
 rw [← List.append_assoc, ← List.append_assoc]
 exact List.perm_append_comm.append_right ks)
/-- the state of a struct with its memory -/
def LSt (w0 : World) (pre : List Ck) (ks : List Ck) (y : PS) (x : LS) (w : World) : Prop := x.ok ∧ x.p = y ∧ St w0 w (pre ++ (x.cks ++ ks))
theorem LS.rowsI {w0 w : World} {pre ks : List Ck} {x : LS} (hok : x.ok) (h : St w0 w (pre ++ (x.cks ++ ks))) : RowsI w x.A x.n x.rs x.im := by
 have h1 : St w0 w (x.cks ++ (pre ++ ks)) := h.toBack
 have h2 : St w0 w (mat 28 2 x.A x.n x.c x.rs x.im ++ (pre ++ ks)) := h1.tail
 exact h2.rowsI hok.2.1
theorem LS.rdI {w0 w : World} {pre ks : List Ck} {x : LS} (h : St w0 w (pre ++ (x.cks ++ ks))) : RdI w x.B x.m x.ls := by
 have h1 : St w0 w (x.cks ++ (pre ++ ks)) := h.toBack
 exact h1.rdI 0 rfl
theorem l11Next_c {w0 w : World} {ks : List Ck} (x : LS) (c g : Int) (y : PS) (d : Int) (hok : x.ok) (hS : St w0 w (x.cks ++ ks)) (hp : nextP x.p c g = some (y, d)) :
  Ret Tryz.prog 151 [x.val, .int .i64 c, .int .i64 g] w (fun v w' => ∃ x' : LS, x'.ok ∧ x'.p = y ∧ v = .tuple #[x'.val, .int .i64 d] ∧ St w0 w' (x'.cks ++ ks)) := by
 unfold nextP at hp
 split at hp
 case h_1 => cases hp
 rename_i d0 hd0
 have hcc : 0 ≤ c ∧ c < (x.im.length : Int) ∧ 0 ≤ g ∧ g < ((gl x.im c).length : Int) := by
  have hd1 : (if 0 ≤ c ∧ c < (x.im.length : Int) ∧ 0 ≤ g ∧ g < ((gl x.im c).length : Int) then (if gi (gl x.im c) g < 0 then some (-1) else findP x.ls 2000 (gi (gl x.im c) g)) else none) = some d0 := hd0
  split at hd1
  case isFalse => cases hd1
  rename_i h; exact h
 obtain ⟨ci, rfl⟩ : ∃ ci : Nat, c = ci := ⟨c.toNat, by omega⟩
 have hR0 := LS.rdI (pre := []) hS
 have hI0 := LS.rowsI (pre := []) hok hS
 refine Ret.of_cd Tryz.func151 rfl Tryz.ntmps151 rfl (postc2 rfl rfl) (Cd.seq (Cd.region (Ops.box3 hS rfl rfl ?_)))
 intro Ab w1 hS1
 skip
 refine Ops.new3 hS1 rfl ?_
 intro Ac w2 hS2
 have hS2 : St w0 w2 ([Bx 145 3 Ac [.slice none 0 0, .slice none 0 0, .bool false], Bx 145 3 Ab x.cells] ++ (x.cks ++ ks)) := hS2
 have hR2 := LS.rdI hS2
 have hI2 := LS.rowsI hok hS2
 refine Ops.mi rfl rfl rfl (Ops.n (tQ (Cd.seq (Cd.seq (Cd.region (Ops.ld_agg 2 (hS2.rd 1 rfl) rfl rfl rfl (Ops.mi rfl rfl rfl (Ops.mi rfl rfl rfl (Ops.call (l11Image_c x.rs x.im x.ls (ci : Int) g d0 _ hI2 hR2 hd0) rfl rfl rfl ?_)))))))))
 rintro _ w3 ⟨rfl, hst⟩
 have hS3 := hS2.later hst.below
 refine Ops.mi rfl rfl rfl (Ops.n (tQ (Cd.seq (Cd.region (Ops.mi rfl rfl rfl (Ops.geq rfl rfl rfl (Ops.n (tQ ?_))))))))
 refine Cd.cond_p _ rfl (fun h1 => ?_) (fun h1 => ?_)
 ·rw [if_pos h1] at hp
  obtain ⟨rfl, rfl⟩ := Prod.mk.inj (Option.some.inj hp)
  refine Cd.seq (Cd.region (Ops.ld_agg 2 (hS3.rd 1 rfl) rfl rfl rfl (Ops.mi rfl rfl rfl (Ops.st_agg 3 0 hS3 rfl rfl rfl rfl rfl rfl rfl ?_))))
  intro w4 hS4
  refine Ops.mi rfl rfl rfl (Ops.n (tQ (Cd.ret (thenQ_r ?_))))
  skip
  refine retc2_r rfl (hS4.rd 0 rfl) rfl ?_
  exact ⟨x, hok, rfl, rfl, (hS4.sub ((List.Sublist.refl _).cons _)).sub ((List.Sublist.refl _).cons _)⟩
 ·rw [if_neg h1] at hp
  split at hp
  case h_1 => cases hp
  rename_i y1 hy1
  split at hp
  case isFalse => cases hp
  rename_i hg
  obtain ⟨e1, e2⟩ := Prod.mk.inj (Option.some.inj hp)
  have hI3 := hI2.later hst.below
  have hn : 0 < x.n := by have := hok.2.1; omega
  have hrow := hI3.at_ (i := 0) (Int.le_refl _) (by omega)
  have hrl : (rg x.rs 0).n = (gl x.im 0).length := hrow.1.symm
  refine Cd.skip (tQ (Cd.seq ?_))
  refine Cd.drawP [6, 10] [.ex (.agg #[.slice (x.A) (x.n) (x.c), .slice (x.B) (x.m) (x.cB), .bool (false)]), .ex (.pointer (ptrAt (Ab) 0)), .ex (.slice (x.A) (x.n) (x.c)), .ex (.pointer (ptrAt (x.A) ((0 : Int)).toNat)), .ex (.slice ((rg (x.rs) ((0 : Int))).a) ((rg (x.rs) ((0 : Int))).n) ((rg (x.rs) ((0 : Int))).c)), .ex (.int .i64 ((((rg (x.rs) ((0 : Int))).n : Nat) : Int))), .pr (fun v w' => ∃ x' : LS, v = .tuple #[x'.val, .int .i64 (x.m : Int)] ∧ LSt w0 [Bx 145 3 Ac [.slice none 0 0, .slice none 0 0, .bool false], Bx 145 3 Ab x.cells] ks y1 x' w'), .al (fun v => ∃ u0, v = .tuple #[u0, .int .i64 (x.m : Int)]) (fun v w' => ∃ x' : LS, v = .tuple #[x'.val, .int .i64 (x.m : Int)] ∧ LSt w0 [Bx 145 3 Ac [.slice none 0 0, .slice none 0 0, .bool false], Bx 145 3 Ab x.cells] ks y1 x' w'), .pr (fun v w' => ∃ x' : LS, v = x'.val ∧ LSt w0 [Bx 145 3 Ac [.slice none 0 0, .slice none 0 0, .bool false], Bx 145 3 Ab x.cells] ks y1 x' w'), .ex (.int .i64 (x.m : Int)), .pr (fun _ w' => ∃ x' : LS, LSt w0 [Bx 145 3 Ac [.slice none 0 0, .slice none 0 0, .bool false], Bx 145 3 Ab x'.cells] ks y1 x' w'), .ex (.int .i64 (x.m : Int))] (by kernel_rfl) (by kernel_rfl) (ly (ly (ly (ly (ly (ly (List.forall_mem_cons.2 ⟨Ye.lasts_pr (fun v w w' h hb => by obtain ⟨x', hv, h1, h2, h3⟩ := h; exact ⟨x', hv, h1, h2, h3.later hb⟩), (List.forall_mem_cons.2 ⟨Ye.lasts_al (fun v w w' h hb => by obtain ⟨x', hv, h1, h2, h3⟩ := h; exact ⟨x', hv, h1, h2, h3.later hb⟩), (List.forall_mem_cons.2 ⟨Ye.lasts_pr (fun v w w' h hb => by obtain ⟨x', hv, h1, h2, h3⟩ := h; exact ⟨x', hv, h1, h2, h3.later hb⟩), (ly (List.forall_mem_cons.2 ⟨Ye.lasts_pr (fun v w w' h hb => by obtain ⟨x', h1, h2, h3⟩ := h; exact ⟨x', h1, h2, h3.later hb⟩), (ly (fun _ h => by cases h))⟩))⟩)⟩)⟩))))))) ⟨?_, ?_, ?_, ?_, ?_, ?_, ?_, ?_, ?_, ?_, ?_, ?_, trivial⟩ ?_
  ·intro e1 w1 cc hlo hhi hb0 hp hun hq
   show Ops _ _ _ _ _ _ _
   obtain rfl := cc_of hlo hhi (b := 0) (by kernel_rfl) (by kernel_rfl); clear hlo hhi
   have hb := hb0 rfl
   refine Ops.ld_agg 2 ((hS3.rd 1 rfl).below hb) rfl rfl rfl (Ops.n (p0_ rfl (by exact rfl)))
  ·intro e1 w1 cc hlo hhi hb0 hp hun hq
   show Ops _ _ _ _ _ _ _
   obtain rfl := cc_of hlo hhi (b := 0) (by kernel_rfl) (by kernel_rfl); clear hlo hhi
   have hb := hb0 rfl
   refine Ops.fld ((hS3.rd 1 rfl).below hb) rfl rfl rfl rfl inferInstance (Ops.n (p0_ rfl (by exact rfl)))
  ·intro e1 w1 cc hlo hhi hb0 hp hun hq
   show Ops _ _ _ _ _ _ _
   obtain rfl := cc_of hlo hhi (b := 0) (by kernel_rfl) (by kernel_rfl); clear hlo hhi
   have hb := hb0 rfl
   refine Ops.ldf_s ((hS3.rd 1 rfl).below hb) rfl rfl rfl rfl rfl (Ops.n (p0_ rfl (by exact rfl)))
  ·intro e1 w1 cc hlo hhi hb0 hp hun hq
   show Ops _ _ _ _ _ _ _
   obtain rfl := cc_of hlo hhi (b := 0) (by kernel_rfl) (by kernel_rfl); clear hlo hhi
   have hb := hb0 rfl
   refine Ops.idx (hI3.top.later hb).2 rfl rfl rfl (by omega) (by omega) (Ops.n (p0_ rfl (by exact rfl)))
  ·intro e1 w1 cc hlo hhi hb0 hp hun hq
   show Ops _ _ _ _ _ _ _
   obtain rfl := cc_of hlo hhi (b := 0) (by kernel_rfl) (by kernel_rfl); clear hlo hhi
   have hb := hb0 rfl
   refine Ops.ld_sl (hI3.top.later hb) rfl (by omega) rfl rfl (Ops.n (p0_ rfl (by exact rfl)))
  ·intro e1 w1 cc hlo hhi hb0 hp hun hq
   show Ops _ _ _ _ _ _ _
   refine Ops.len rfl rfl (Ops.n (p0_ rfl (by exact rfl)))
  ·intro e1 w1 cc hlo hhi hb0 hp hun hq
   show Ops _ _ _ _ _ _ _
   obtain rfl := cc_of hlo hhi (b := 0) (by kernel_rfl) (by kernel_rfl); clear hlo hhi
   have hb := hb0 rfl
   refine Ops.call (l11Define_c x (gl x.im 0).length y1 hok ((hS3.later (hb0 rfl)).toBack (pre := [_, _])) hy1) rfl (by rw [← hrl]; rfl) rfl ?_
   rintro _ w4 ⟨x', hok', hp', rfl, hT⟩
   refine Ops.n ?_
   exact AfterU.dn rfl ⟨x', rfl, hok', hp', hT.toBack⟩
  ·intro e1 w1 cc hlo hhi hb0 hp hun hq
   show Ops _ _ _ _ _ _ _
   obtain rfl := cc_of hlo hhi (b := 1) (by kernel_rfl) (by kernel_rfl); clear hlo hhi
   have hph := hp 6 _ _ (by kernel_rfl) rfl rfl (by kernel_rfl)
   obtain ⟨x', hv, hT⟩ := (hp 6 _ _ (by kernel_rfl) rfl rfl (by kernel_rfl))
   refine Ops.mv_tup rfl (by exact hv) rfl (Ops.n ?_)
   exact AfterP.dn rfl (Below.refl _ _) ⟨⟨_, rfl⟩, x', rfl, hT⟩
  ·intro e1 w1 cc hlo hhi hb0 hp hun hq
   show Ops _ _ _ _ _ _ _
   obtain rfl := cc_of hlo hhi (b := 1) (by kernel_rfl) (by kernel_rfl); clear hlo hhi
   have hph := hp 6 _ _ (by kernel_rfl) rfl rfl (by kernel_rfl)
   obtain ⟨x', hv, hT⟩ := ((hp 7 _ _ (by kernel_rfl) rfl rfl).2 (by kernel_rfl))
   refine Ops.extract (by exact hv) rfl rfl (Ops.n ?_)
   exact AfterP.dn rfl (Below.refl _ _) ⟨x', rfl, hT⟩
  ·intro e1 w1 cc hlo hhi hb0 hp hun hq
   show Ops _ _ _ _ _ _ _
   obtain ⟨u0, hv⟩ := (hp 7 _ _ (by kernel_rfl) rfl rfl).1
   refine Ops.extract (by exact hv) rfl rfl (Ops.n ?_)
   exact AfterP.dn rfl (Below.refl _ _) rfl
  ·intro e1 w1 cc hlo hhi hb0 hp hun hq
   show Ops _ _ _ _ _ _ _
   obtain rfl := cc_of hlo hhi (b := 1) (by kernel_rfl) (by kernel_rfl); clear hlo hhi
   have hph := hp 6 _ _ (by kernel_rfl) rfl rfl (by kernel_rfl)
   obtain ⟨x', hv, h1, h2, h3⟩ := (hp 8 _ _ (by kernel_rfl) rfl rfl (by kernel_rfl))
   refine Ops.st_agg 3 1 h3 rfl rfl (by exact hv) rfl rfl rfl rfl ?_
   intro w11 hT11
   refine Ops.n ?_
   exact AfterU.st rfl ⟨x', h1, h2, hT11⟩
  ·intro e1 w1 cc hlo hhi hb0 hp hun hq
   show Ops _ _ _ _ _ _ _
   refine Ops.mi rfl rfl rfl (Ops.n (p0_ rfl (by exact rfl)))
  intro u w5 _ hu _ _
  obtain ⟨x', hok', hp', hT⟩ := hu 10 _ rfl (by kernel_rfl)
  have hxm : x.ls.length = x.m := hok.2.2
  have hy2 := hy1
  have hy1 : (if x.ls.length = x.im.length ∧ x.ls.length < 2000 ∧ (gl x.im 0).length ≤ 100 then some (⟨x.im ++ [List.replicate (gl x.im 0).length (-1)], x.ls ++ [(x.ls.length : Int)]⟩ : PS) else none) = some y1 := hy1
  split at hy1
  case isFalse => cases hy1
  rename_i hb1
  obtain rfl := Option.some.inj hy1
  have him : x'.im = x.im ++ [List.replicate (gl x.im 0).length (-1)] := congrArg PS.im hp'
  have hls : x'.ls = x.ls ++ [(x.ls.length : Int)] := congrArg PS.ls hp'
  have hgg : g < ((gl x.im 0).length : Int) := hg
  have hn' : x'.n = x.n + 1 := by have := hok'.2.1; rw [him, List.length_append] at this; have h5 := hok.2.1; simp at this; omega
  have hT0 : St w0 w5 ([Bx 145 3 Ac [.slice none 0 0, .slice none 0 0, .bool false], Bx 145 3 Ab x'.cells] ++ (x'.cks ++ ks)) := hT
  have hT5 : St w0 w5 ([Bx 145 3 Ac [.slice none 0 0, .slice none 0 0, .bool false], Bx 145 3 Ab x'.cells, CkI 2 x'.B x'.m x'.cB x'.ls] ++ (mat 28 2 x'.A x'.n x'.c x'.rs x'.im ++ ks)) := hT
  have hI5 := LS.rowsI hok' hT0
  have hin : x.im.length = x.n := hok.2.1
  have hrow5 := hI5.at_ (i := (ci : Int)) hcc.1 (by omega)
  have egl : gl x'.im (ci : Int) = gl x.im (ci : Int) := by
   rw [him]
   simp only [gl, Int.toNat_natCast, List.getD_eq_getElem?_getD]
   rw [List.getElem?_append_left (by omega)]
  have egm : gl x'.im (x.m : Int) = List.replicate (gl x.im 0).length (-1) := by
   rw [him]
   simp only [gl, Int.toNat_natCast, List.getD_eq_getElem?_getD]
   rw [List.getElem?_append_right (by omega)]
   simp [show x.m - x.im.length = 0 by omega]
  have hr5 : (rg x'.rs (ci : Int)).n = (gl x.im (ci : Int)).length := by rw [← hrow5.1, egl]
  have hrl' : x'.rs.length = x'.im.length := by rw [hok'.1, hok'.2.1]
  refine tQ (Cd.seq (Cd.seq (Cd.region (Ops.fld (hT5.rd 1 rfl) rfl rfl rfl rfl inferInstance (Ops.ldf_b (hT5.rd 1 rfl) rfl rfl rfl rfl rfl (Ops.n (tQ (Cd.cond_f rfl (Cd.skip ?_)))))))))
  refine tQ (Cd.seq (Cd.region (Ops.fld (hT5.rd 1 rfl) rfl rfl rfl rfl inferInstance (Ops.ldf_s (hT5.rd 1 rfl) rfl rfl rfl rfl rfl (Ops.mi rfl rfl rfl (Ops.idx hI5.top.2 rfl rfl rfl (by omega) (by omega) (Ops.ld_sl hI5.top rfl (by omega) rfl rfl (Ops.mi rfl rfl rfl (Ops.mi rfl rfl rfl ?_)))))))))
  refine Ops.idx hrow5.2 rfl rfl rfl (by omega) (by omega) ?_
  skip
  refine Ops.st_row ci hT5 hrl' (by rw [hok'.1]; omega) rfl rfl (by omega) ?_
  intro w6 hT6
  have hok6 : ({ x' with im := x'.im.set ci ((gl x'.im (ci : Int)).set g.toNat (x.m : Int)) } : LS).ok := ⟨hok'.1, by show (x'.im.set _ _).length = _; rw [List.length_set]; exact hok'.2.1, hok'.2.2⟩
  generalize hx6 : ({ x' with im := x'.im.set ci ((gl x'.im (ci : Int)).set g.toNat (x.m : Int)) } : LS) = x6 at hok6
  have hA6 : x6.A = x'.A ∧ x6.n = x'.n ∧ x6.c = x'.c ∧ x6.rs = x'.rs ∧ x6.B = x'.B ∧ x6.m = x'.m ∧ x6.cB = x'.cB ∧ x6.ls = x'.ls ∧ x6.im = x'.im.set ci ((gl x'.im (ci : Int)).set g.toNat (x.m : Int)) := by subst hx6; exact ⟨rfl, rfl, rfl, rfl, rfl, rfl, rfl, rfl, rfl⟩
  obtain ⟨q1, q2, q3, q4, q5, q6, q7, q8, q9⟩ := hA6
  have hT6' : St w0 w6 ([Bx 145 3 Ac [.slice none 0 0, .slice none 0 0, .bool false], Bx 145 3 Ab x'.cells] ++ (x6.cks ++ ks)) := by
   show St w0 w6 ([Bx _ 3 Ac _, Bx _ 3 Ab x'.cells] ++ ((CkI _ x6.B x6.m x6.cB x6.ls :: mat _ _ x6.A x6.n x6.c x6.rs x6.im) ++ ks))
   rw [q1, q2, q3, q4, q5, q6, q7, q8, q9]
   exact hT6
  have hI6 := LS.rowsI hok6 hT6'
  have hrow6 := hI6.at_ (i := (x.m : Int)) (by omega) (by omega)
  have eg6 : gl x6.im (x.m : Int) = List.replicate (gl x.im 0).length (-1) := by
   rw [q9, gl_set (by rw [him, List.length_append]; omega), if_neg (by omega), egm]
  have hr6 : (rg x6.rs (x.m : Int)).n = (gl x.im 0).length := by rw [← hrow6.1, eg6, List.length_replicate]
  refine Ops.n (tQ (Cd.seq (Cd.region (Ops.fld (hT6'.rd 1 rfl) rfl rfl rfl rfl inferInstance (Ops.ldf_s (hT6'.rd 1 rfl) rfl rfl rfl rfl rfl (Ops.mi rfl rfl rfl ?_))))))
  rw [q1, q2, q4] at hI6
  rw [q4] at hrow6 hr6
  refine Ops.idx hI6.top.2 rfl rfl rfl (by omega) (by omega) (Ops.ld_sl hI6.top rfl (by omega) rfl rfl (Ops.mi rfl rfl rfl (Ops.mi rfl rfl rfl (Ops.idx hrow6.2 rfl rfl rfl (by omega) (by omega) ?_))))
  skip
  have hT7 : St w0 w6 ([Bx 145 3 Ac [.slice none 0 0, .slice none 0 0, .bool false], Bx 145 3 Ab x'.cells, CkI 2 x'.B x'.m x'.cB x'.ls] ++ (mat 28 2 x'.A x'.n x'.c x'.rs x6.im ++ ks)) := by
   rw [q9]; exact hT6
  refine Ops.st_row x.m hT7 (by rw [q9, List.length_set]; exact hrl') (by rw [hok'.1]; omega) rfl rfl (by omega) ?_
  intro w8 hT8
  refine Ops.n (tQ (Cd.seq (Cd.region (Ops.ld_agg 2 (hT8.rd 1 rfl) rfl rfl rfl (Ops.mi rfl rfl rfl (Ops.st_agg 3 0 hT8 rfl rfl rfl rfl rfl rfl rfl ?_))))))
  intro w9 hT9
  refine Ops.mi rfl rfl rfl (Ops.n (tQ (Cd.ret ?_)))
  skip
  refine retc2_r rfl (hT9.rd 0 rfl) rfl ?_
  refine ⟨{ x' with im := x6.im.set x.m ((gl x6.im (x.m : Int)).set g.toNat (ci : Int)) }, ⟨hok'.1, by show (x6.im.set _ _).length = _; rw [List.length_set, q9, List.length_set]; exact hok'.2.1, hok'.2.2⟩, ?_, ?_, (hT9.sub ((List.Sublist.refl _).cons _)).sub ((List.Sublist.refl _).cons _)⟩
  ·rw [← e1]
   show (⟨x6.im.set x.m ((gl x6.im (x.m : Int)).set g.toNat (ci : Int)), x'.ls⟩ : PS) = _
   rw [q9, him, hls]
   unfold setI
   simp only [Int.toNat_natCast]
   have e9 : x.p.ls.length = x.m := hxm
   rw [e9]
  ·rw [← e2]
   have e9 : x.p.ls.length = x.m := hxm
   rw [e9]
   rfl
end Go.Proofs.YtbhnfehcpnnjcaaGreatDoor.Vc
/-
 The reference's coset enumeration, walked: cosets identified. Conditions: as each states them.
-/
namespace Go.Proofs.YtbhnfehcpnnjcaaGreatDoor.Vc
open Go.RowKit

/-- one row's images given over -/
def idRowP (lo hi : Int) : Nat → Nat → List (List Int) → List Int → List Int → Option (List (List Int) × List Int × List Int)
 | 0, _, _, _, _ => none
 | k + 1, g, im, one, two =>
  if g < (gl im hi).length then
   if gi (gl im hi) g < 0 then idRowP lo hi k (g + 1) im one two
   else if g < (gl im lo).length then
    if 0 ≤ gi (gl im lo) g then (if one.length < 1000000 ∧ two.length < 1000000 then idRowP lo hi k (g + 1) im (one ++ [gi (gl im hi) g]) (two ++ [gi (gl im lo) g]) else none)
    else idRowP lo hi k (g + 1) (setI im lo g (gi (gl im hi) g)) one two
   else none
  else some (im, one, two)
def identP : Nat → Nat → PS → List Int → List Int → Option PS
 | 0, _, _, _, _ => none
 | k + 1, i, x, one, two =>
  if i < one.length then
   if i < two.length then
    match findP x.ls 2000 (gi one i), findP x.ls 2000 (gi two i) with
    | some a, some b =>
     if a = b then identP k (i + 1) x one two
     else
      if 0 ≤ (if b < a then b else a) ∧ (if b < a then a else b) < (x.im.length : Int) ∧ (if b < a then a else b) < (x.ls.length : Int) ∧ x.im.length ≤ 2000 then
       match idRowP (if b < a then b else a) (if b < a then a else b) 1000 0 x.im one two with
       | some (im, one', two') => identP k (i + 1) ⟨im, x.ls.set (if b < a then a else b).toNat (if b < a then b else a)⟩ one' two'
       | none => none
      else none
    | _, _ => none
   else none
  else some x
structure IdS where
 i : Nat
 k : Nat
 A7 : Option Addr
 c7 : Nat
 one : List Int
 A8 : Option Addr
 c8 : Nat
 two : List Int
 im : List (List Int)
 ls : List Int

theorem l11Identify_c {w0 w : World} {ks : List Ck} (x : LS) (c d : Int) (y : PS) (k0 : Nat) (hok : x.ok) (hS : St w0 w (x.cks ++ ks)) (hp : identP k0 0 x.p [c] [d] = some y) :
    Ret Tryz.prog 153 [x.val, .int .i64 c, .int .i64 d] w (fun v w' => ∃ x' : LS, x'.ok ∧ x'.p = y ∧ v = x'.val ∧ St w0 w' (x'.cks ++ ks)) := by
  obtain ⟨A, n, cc, rs, im, B, m, cB, ls⟩ := x
  obtain ⟨h1, h2, h3⟩ := hok
  have h1 : rs.length = n := h1
  have h2 : im.length = n := h2
  have h3 : ls.length = m := h3
  refine Ret.of_cd Tryz.func153 rfl Tryz.ntmps153 rfl (postc rfl rfl) (Cd.seq (Cd.region (Ops.box3 hS rfl rfl ?_)))
  intro Ab w1 hS1
  skip
  refine Ops.new3 hS1 rfl ?_
  intro Ac w2 hS2
  refine Ops.n (tQ (Cd.seq (Cd.region (Ops.mi rfl rfl rfl (Ops.bs1I hS2 rfl rfl rfl ?_)))))
  intro A7 w3 hS3
  refine Ops.mi rfl rfl rfl (Ops.bs1I hS3 rfl rfl rfl ?_)
  intro A8 w4 hS4
  have hS4 : St w0 w4 ([CkI 2 A8 1 1 [d], CkI 2 A7 1 1 [c], Bx 145 3 Ac [.slice none 0 0, .slice none 0 0, .bool false], Bx 145 3 Ab [.slice A n cc, .slice B m cB, .bool false], CkI 2 B m cB ls] ++ (mat 28 2 A n cc rs im ++ ks)) := hS4
  refine Ops.ms rfl rfl rfl (Ops.ms rfl rfl rfl (Ops.n (tQ (Cd.seq (Cd.seq (Cd.region (Ops.mi rfl rfl rfl (Ops.n (tQ ?_)))))))))
  refine Cd.block ?_
  refine Cd.loop (α := IdS) (fun s => [(3, .pointer Ab), (6, .pointer Ac), (7, .slice s.A7 s.one.length s.c7), (8, .slice s.A8 s.two.length s.c8), (9, .int .i64 (s.i : Int))])
    (fun s w' => St w0 w' ([CkI 2 s.A8 s.two.length s.c8 s.two, CkI 2 s.A7 s.one.length s.c7 s.one, Bx 145 3 Ac [.slice none 0 0, .slice none 0 0, .bool false], Bx 145 3 Ab [.slice A n cc, .slice B m cB, .bool false], CkI 2 B m cB s.ls] ++ (mat 28 2 A n cc rs s.im ++ ks)) ∧ s.im.length = n ∧ s.ls.length = m ∧ identP s.k s.i ⟨s.im, s.ls⟩ s.one s.two = some y) (fun s => s.k)
    ⟨0, k0, A7, 1, [c], A8, 1, [d], im, ls⟩ ⟨rfl, rfl, rfl, rfl, rfl, trivial⟩ ⟨hS4, h2, h3, hp⟩ ?_
  rintro ⟨i, k, A7, c7, one, A8, c8, two, im, ls⟩ e w5 ⟨hS5, h2, h3, hf⟩
  dsimp only at hS5 h2 h3 hf ⊢
  obtain ⟨q, rfl⟩ : ∃ q, k = q + 1 := by cases k with | zero => cases hf | succ q => exact ⟨q, rfl⟩
  rw [identP] at hf
  have hc1 := hS5.cap 1 rfl
  dsimp only [CkI] at hc1
  simp only [maxLen] at hc1
  refine Cd.seq (Cd.seq (Cd.region (Ops.mi rfl rfl rfl (Ops.ms rfl rfl rfl (Ops.len rfl rfl (Ops.lss rfl rfl rfl (Ops.n (tQ ?_))))))))
  refine Cd.cond_p _ rfl (fun hi => ?_) (fun hi => ?_)
  · rw [if_pos (by omega)] at hf
    split at hf
    case isFalse => cases hf
    rename_i hi2
    split at hf
    case h_2 => cases hf
    rename_i a b hfa hfb
    have hR5 : RdI w5 B m ls := hS5.rdI 4 rfl
    refine Cd.skip (tQ (Cd.seq (Cd.block (Cd.seq ?_))))
    refine Cd.draw [.ex (.agg #[.slice (A) (n) (cc), .slice (B) (m) (cB), .bool (false)]), .ex (.slice (A7) (one.length) (c7)), .ex (.int .i64 ((i : Int))), .ex (.pointer (ptrAt (A7) ((i : Int)).toNat)), .ex (.int .i64 (gi (one) ((i : Int)))), .ex (.int .i64 (a)), .ex (.agg #[.slice (A) (n) (cc), .slice (B) (m) (cB), .bool (false)]), .ex (.slice (A8) (two.length) (c8)), .ex (.int .i64 ((i : Int))), .ex (.pointer (ptrAt (A8) ((i : Int)).toNat)), .ex (.int .i64 (gi (two) ((i : Int)))), .ex (.int .i64 (b)), .ex (.int .i64 (a)), .ex (.int .i64 (b))] (by kernel_rfl) (by kernel_rfl) rfl (lx (lx (lx (lx (lx (lx (lx (lx (lx (lx (lx (lx (lx (lx (fun _ h => by cases h))))))))))))))) ⟨?_, ?_, ?_, ?_, ?_, ?_, ?_, ?_, ?_, ?_, ?_, ?_, ?_, ?_, trivial⟩ ?_
    · intro e1 w1 hb hp hun
      refine Ops.ld_agg 2 ((hS5.rd 3 rfl).below hb) rfl rfl rfl (Ops.n (d0 (by exact rfl)))
    · intro e1 w1 hb hp hun
      refine Ops.ms rfl rfl rfl (Ops.n (d0 (by exact rfl)))
    · intro e1 w1 hb hp hun
      refine Ops.mi rfl rfl rfl (Ops.n (d0 (by exact rfl)))
    · intro e1 w1 hb hp hun
      refine Ops.idx ((hS5.rdI 1 rfl).later hb).2 rfl rfl rfl (by omega) (by omega) (Ops.n (d0 (by exact rfl)))
    · intro e1 w1 hb hp hun
      refine Ops.ld_int ((hS5.rdI 1 rfl).later hb) rfl (by omega) rfl rfl (Ops.n (d0 (by exact rfl)))
    · intro e1 w1 hb hp hun
      refine Ops.call (l11Find_c ls 2000 _ a _ (hR5.later hb) hfa) rfl rfl rfl ?_
      rintro _ w2 ⟨rfl, hst⟩
      refine Ops.n ?_
      exact After.dn hst.below (by exact rfl)
    · intro e1 w1 hb hp hun
      refine Ops.ld_agg 2 ((hS5.rd 3 rfl).below hb) rfl rfl rfl (Ops.n (d0 (by exact rfl)))
    · intro e1 w1 hb hp hun
      refine Ops.ms rfl rfl rfl (Ops.n (d0 (by exact rfl)))
    · intro e1 w1 hb hp hun
      refine Ops.mi rfl rfl rfl (Ops.n (d0 (by exact rfl)))
    · intro e1 w1 hb hp hun
      refine Ops.idx ((hS5.rdI 0 rfl).later hb).2 rfl rfl rfl (by omega) (by omega) (Ops.n (d0 (by exact rfl)))
    · intro e1 w1 hb hp hun
      refine Ops.ld_int ((hS5.rdI 0 rfl).later hb) rfl (by omega) rfl rfl (Ops.n (d0 (by exact rfl)))
    · intro e1 w1 hb hp hun
      refine Ops.call (l11Find_c ls 2000 _ b _ (hR5.later hb) hfb) rfl rfl rfl ?_
      rintro _ w2 ⟨rfl, hst⟩
      refine Ops.n ?_
      exact After.dn hst.below (by exact rfl)
    · intro e1 w1 hb hp hun
      refine Ops.mi rfl rfl rfl (Ops.n (d0 (by exact rfl)))
    · intro e1 w1 hb hp hun
      refine Ops.mi rfl rfl rfl (Ops.n (d0 (by exact rfl)))
    intro u w6 hb6 _
    have hS6 := hS5.later hb6
    refine tQ (Cd.seq (Cd.seq (Cd.region (Ops.mi rfl rfl rfl (Ops.mi rfl rfl rfl (Ops.eql rfl rfl rfl (Ops.n (tQ ?_))))))))
    refine Cd.cond_p _ rfl (fun hab => ?_) (fun hab => ?_)
    · rw [if_pos hab] at hf
      refine Cd.exit (thenQ_x (blockQ_x (tQ (Cd.region (Ops.mi rfl rfl rfl (Ops.add rfl rfl rfl (by omega) (Ops.mi rfl rfl rfl (Ops.n (tQ ?_)))))))))
      exact ⟨⟨i + 1, q, A7, c7, one, A8, c8, two, im, ls⟩, Nat.lt_succ_self q, ⟨rfl, rfl, rfl, rfl, rfl, trivial⟩, hS6, h2, h3, hf⟩
    · rw [if_neg hab] at hf
      refine Cd.skip (tQ ?_)
      refine Cd.join (α := Unit) (fun _ => [(3, .pointer Ab), (6, .pointer Ac), (7, .slice A7 one.length c7), (8, .slice A8 two.length c8), (9, .int .i64 (i : Int)), (10, .int .i64 (if b < a then b else a)), (11, .int .i64 (if b < a then a else b))]) (fun _ w' => w' = w6) ?_ ?_
      · refine Cd.seq (Cd.region (Ops.mi rfl rfl rfl (Ops.mi rfl rfl rfl (Ops.gtr rfl rfl rfl (Ops.n (tQ ?_))))))
        refine Cd.cond_p _ rfl (fun hlt => ?_) (fun hlt => ?_)
        · refine Cd.region (Ops.mi rfl rfl rfl (Ops.mi rfl rfl rfl (Ops.mi rfl rfl rfl (Ops.mi rfl rfl rfl (Ops.n (tQ ?_))))))
          exact ⟨(), ⟨rfl, rfl, rfl, rfl, rfl, by show Value.int .i64 _ = .int .i64 _; rw [if_pos hlt], by show Value.int .i64 _ = .int .i64 _; rw [if_pos hlt], trivial⟩, rfl⟩
        · refine Cd.skip (tQ ?_)
          exact ⟨(), ⟨rfl, rfl, rfl, rfl, rfl, by show Value.int .i64 _ = .int .i64 _; rw [if_neg hlt], by show Value.int .i64 _ = .int .i64 _; rw [if_neg hlt], trivial⟩, rfl⟩
      · rintro _ e w7 rfl
        have hlh : (if b < a then b else a) < (if b < a then a else b) := by split <;> omega
        generalize (if b < a then b else a) = lo at hf hlh ⊢
        generalize (if b < a then a else b) = hi' at hf hlh ⊢
        split at hf
        case isFalse => cases hf
        rename_i hbd
        dsimp only at hbd
        split at hf
        case h_2 => cases hf
        rename_i im' one' two' hrowp
        obtain ⟨loN, rfl⟩ : ∃ q : Nat, lo = q := ⟨lo.toNat, by omega⟩
        obtain ⟨hiN, rfl⟩ : ∃ q : Nat, hi' = q := ⟨hi'.toNat, by omega⟩
        rw [Int.toNat_natCast] at hf
        have hRr := hS6.rdI 4 rfl
        refine Cd.seq (Cd.region (Ops.fld (hS6.rd 3 rfl) rfl rfl rfl rfl inferInstance (Ops.ldf_s (hS6.rd 3 rfl) rfl rfl rfl rfl rfl (Ops.mi rfl rfl rfl (Ops.mi rfl rfl rfl (Ops.idx hRr.2 rfl rfl rfl (by omega) (by omega) ?_))))))
        skip
        refine Ops.st_int 4 hS6 rfl rfl rfl (by omega) ?_
        intro w8 hS8
        have hS8 : St w0 w8 ([CkI 2 A8 two.length c8 two, CkI 2 A7 one.length c7 one, Bx 145 3 Ac [.slice none 0 0, .slice none 0 0, .bool false], Bx 145 3 Ab [.slice A n cc, .slice B m cB, .bool false], CkI 2 B m cB (ls.set hiN (loN : Int))] ++ (mat 28 2 A n cc rs im ++ ks)) := hS8
        refine Ops.n (tQ (Cd.seq (Cd.region (Ops.mi rfl rfl rfl (Ops.n (tQ (Cd.block ?_)))))))
        refine Cd.loop (α := IdS) (fun s => [(3, .pointer Ab), (6, .pointer Ac), (7, .slice s.A7 s.one.length s.c7), (8, .slice s.A8 s.two.length s.c8), (9, .int .i64 (i : Int)), (10, .int .i64 (loN : Int)), (11, .int .i64 (hiN : Int)), (12, .int .i64 (s.i : Int))])
          (fun s w' => St w0 w' ([CkI 2 s.A8 s.two.length s.c8 s.two, CkI 2 s.A7 s.one.length s.c7 s.one, Bx 145 3 Ac [.slice none 0 0, .slice none 0 0, .bool false], Bx 145 3 Ab [.slice A n cc, .slice B m cB, .bool false], CkI 2 B m cB (ls.set hiN (loN : Int))] ++ (mat 28 2 A n cc rs s.im ++ ks)) ∧ s.im.length = n ∧ idRowP (loN : Int) (hiN : Int) s.k s.i s.im s.one s.two = some (im', one', two') ∧ s.i + s.k ≤ 1000) (fun s => s.k)
          ⟨0, 1000, A7, c7, one, A8, c8, two, im, ls⟩ ⟨rfl, rfl, rfl, rfl, rfl, rfl, rfl, rfl, trivial⟩ ⟨hS8, h2, hrowp, Nat.le_refl _⟩ ?_
        rintro ⟨g, k, A7, c7, one, A8, c8, two, im, ls0⟩ e w9 ⟨hS9, h2, hg, hgk⟩
        dsimp only at hS9 h2 hg hgk ⊢
        obtain ⟨r, rfl⟩ : ∃ q, k = q + 1 := by cases k with | zero => cases hg | succ q => exact ⟨q, rfl⟩
        rw [idRowP] at hg
        have hI9 : RowsI w9 A n rs im := LS.rowsI (x := ⟨A, n, cc, rs, im, B, m, cB, ls.set hiN (loN : Int)⟩) ⟨h1, h2, by rw [List.length_set]; exact h3⟩ (pre := [CkI 2 A8 two.length c8 two, CkI 2 A7 one.length c7 one, Bx 145 3 Ac [.slice none 0 0, .slice none 0 0, .bool false], Bx 145 3 Ab [.slice A n cc, .slice B m cB, .bool false]]) hS9
        have hrh := hI9.at_ (i := (hiN : Int)) (by omega) (by omega)
        have hrlo := hI9.at_ (i := (loN : Int)) (by omega) (by omega)
        have hh1 := hrh.1
        have hl1 := hrlo.1
        refine Cd.seq (Cd.seq (Cd.region (Ops.mi rfl rfl rfl (Ops.fld (hS9.rd 3 rfl) rfl rfl rfl rfl inferInstance (Ops.ldf_s (hS9.rd 3 rfl) rfl rfl rfl rfl rfl (Ops.mi rfl rfl rfl (Ops.idx hI9.top.2 rfl rfl rfl (by omega) (by omega) (Ops.ld_sl hI9.top rfl (by omega) rfl rfl (Ops.len rfl rfl ?_)))))))))
        refine Ops.lss rfl rfl rfl (Ops.n (tQ ?_))
        refine Cd.cond_p _ rfl (fun hgl => ?_) (fun hgl => ?_)
        · rw [if_pos (by omega)] at hg
          refine Cd.skip (tQ (Cd.seq (Cd.block (Cd.seq (Cd.region (Ops.fld (hS9.rd 3 rfl) rfl rfl rfl rfl inferInstance (Ops.ldf_s (hS9.rd 3 rfl) rfl rfl rfl rfl rfl (Ops.mi rfl rfl rfl (Ops.idx hI9.top.2 rfl rfl rfl (by omega) (by omega) ?_)))))))))
          refine Ops.ld_sl hI9.top rfl (by omega) rfl rfl (Ops.mi rfl rfl rfl (Ops.idx hrh.2 rfl rfl rfl (by omega) (by omega) (Ops.ld_int hrh rfl (by omega) rfl rfl (Ops.mi rfl rfl rfl (Ops.n (tQ (Cd.seq (Cd.seq (Cd.region ?_)))))))))
          refine Ops.mi rfl rfl rfl (Ops.lss rfl rfl rfl (Ops.n (tQ ?_)))
          refine Cd.cond_p _ rfl (fun he => ?_) (fun he => ?_)
          · rw [if_pos he] at hg
            refine Cd.exit (thenQ_x (blockQ_x (tQ (Cd.region (Ops.mi rfl rfl rfl (Ops.add rfl rfl rfl (by omega) (Ops.mi rfl rfl rfl (Ops.n (tQ ?_)))))))))
            exact ⟨⟨g + 1, r, A7, c7, one, A8, c8, two, im, ls0⟩, Nat.lt_succ_self r, ⟨rfl, rfl, rfl, rfl, rfl, rfl, rfl, rfl, trivial⟩, hS9, h2, hg, by show g + 1 + r ≤ 1000; omega⟩
          · rw [if_neg he] at hg
            split at hg
            case isFalse => cases hg
            rename_i hgl2
            refine Cd.skip (tQ (Cd.seq (Cd.region (Ops.fld (hS9.rd 3 rfl) rfl rfl rfl rfl inferInstance (Ops.ldf_s (hS9.rd 3 rfl) rfl rfl rfl rfl rfl (Ops.mi rfl rfl rfl (Ops.idx hI9.top.2 rfl rfl rfl (by omega) (by omega) (Ops.ld_sl hI9.top rfl (by omega) rfl rfl (Ops.mi rfl rfl rfl ?_)))))))))
            refine Ops.idx hrlo.2 rfl rfl rfl (by omega) (by omega) (Ops.ld_int hrlo rfl (by omega) rfl rfl (Ops.mi rfl rfl rfl (Ops.n (tQ (Cd.seq (Cd.region (Ops.mi rfl rfl rfl (Ops.geq rfl rfl rfl (Ops.n ?_)))))))))
            refine tQ ?_
            refine Cd.cond_p _ rfl (fun hf0 => ?_) (fun hf0 => ?_)
            · rw [if_pos hf0] at hg
              split at hg
              case isFalse => cases hg
              rename_i hlen
              refine Cd.seq (Cd.region (Ops.ms rfl rfl rfl (Ops.mi rfl rfl rfl (Ops.bs1I hS9 rfl rfl rfl ?_))))
              intro A10 w10 hS10
              refine Ops.appI 2 hS10 rfl (hS10.rdI 0 rfl) rfl rfl rfl (by omega) (by omega) rfl ?_
              intro A11 c11 w11 hS11
              have hS11 : St w0 w11 ([CkI 2 A8 two.length c8 two, CkI 2 A11 (one.length + 1) c11 (one ++ [gi (gl im (hiN : Int)) (g : Int)]), Bx 145 3 Ac [.slice none 0 0, .slice none 0 0, .bool false], Bx 145 3 Ab [.slice A n cc, .slice B m cB, .bool false], CkI 2 B m cB (ls.set hiN (loN : Int))] ++ (mat 28 2 A n cc rs im ++ ks)) := hS11.tail
              refine Ops.ms rfl rfl rfl (Ops.n (tQ (Cd.region (Ops.ms rfl rfl rfl (Ops.mi rfl rfl rfl (Ops.bs1I hS11 rfl rfl rfl ?_))))))
              intro A12 w12 hS12
              refine Ops.appI 1 hS12 rfl (hS12.rdI 0 rfl) rfl rfl rfl (by omega) (by omega) rfl ?_
              intro A13 c13 w13 hS13
              have hS13 : St w0 w13 ([CkI 2 A13 (two.length + 1) c13 (two ++ [gi (gl im (loN : Int)) (g : Int)]), CkI 2 A11 (one.length + 1) c11 (one ++ [gi (gl im (hiN : Int)) (g : Int)]), Bx 145 3 Ac [.slice none 0 0, .slice none 0 0, .bool false], Bx 145 3 Ab [.slice A n cc, .slice B m cB, .bool false], CkI 2 B m cB (ls.set hiN (loN : Int))] ++ (mat 28 2 A n cc rs im ++ ks)) := hS13.tail
              refine Ops.ms rfl rfl rfl (Ops.n (blockQ_n (tQ (Cd.region (Ops.mi rfl rfl rfl (Ops.add rfl rfl rfl (by omega) (Ops.mi rfl rfl rfl (Ops.n (tQ ?_)))))))))
              refine ⟨⟨g + 1, r, A11, c11, one ++ [gi (gl im (hiN : Int)) (g : Int)], A13, c13, two ++ [gi (gl im (loN : Int)) (g : Int)], im, ls0⟩, Nat.lt_succ_self r, ⟨rfl, rfl, by show Value.slice _ _ _ = .slice _ _ _; rw [List.length_append]; rfl, by show Value.slice _ _ _ = .slice _ _ _; rw [List.length_append]; rfl, rfl, rfl, rfl, rfl, trivial⟩, ?_, h2, hg, by show g + 1 + r ≤ 1000; omega⟩
              dsimp only
              rw [List.length_append, List.length_append]
              exact hS13
            · rw [if_neg hf0] at hg
              refine Cd.region (Ops.fld (hS9.rd 3 rfl) rfl rfl rfl rfl inferInstance (Ops.ldf_s (hS9.rd 3 rfl) rfl rfl rfl rfl rfl (Ops.mi rfl rfl rfl (Ops.idx hI9.top.2 rfl rfl rfl (by omega) (by omega) (Ops.ld_sl hI9.top rfl (by omega) rfl rfl (Ops.mi rfl rfl rfl (Ops.mi rfl rfl rfl (Ops.idx hrlo.2 rfl rfl rfl (by omega) (by omega) ?_))))))))
              skip
              refine Ops.st_row loN hS9 (by omega) (by omega) rfl rfl (by omega) ?_
              intro w10 hS10
              refine Ops.n (blockQ_n (tQ (Cd.region (Ops.mi rfl rfl rfl (Ops.add rfl rfl rfl (by omega) (Ops.mi rfl rfl rfl (Ops.n (tQ ?_))))))))
              exact ⟨⟨g + 1, r, A7, c7, one, A8, c8, two, im.set loN ((gl im (loN : Int)).set g (gi (gl im (hiN : Int)) (g : Int))), ls0⟩, Nat.lt_succ_self r, ⟨rfl, rfl, rfl, rfl, rfl, rfl, rfl, rfl, trivial⟩, hS10, by show (im.set _ _).length = n; rw [List.length_set]; exact h2, hg, by show g + 1 + r ≤ 1000; omega⟩
        · rw [if_neg (by omega)] at hg
          have hg := Option.some.inj hg
          simp only [Prod.mk.injEq] at hg
          obtain ⟨rfl, rfl, rfl⟩ := hg
          refine Cd.exit (thenQ_x (thenQ_x (blockQ_x (blockQ_n (tQ (Cd.region (Ops.mi rfl rfl rfl (Ops.add rfl rfl rfl (by omega) (Ops.mi rfl rfl rfl ?_)))))))))
          refine Ops.n (tQ ?_)
          exact ⟨⟨i + 1, q, A7, c7, one, A8, c8, two, im, ls.set hiN (loN : Int)⟩, Nat.lt_succ_self q, ⟨rfl, rfl, rfl, rfl, rfl, trivial⟩, hS9, h2, by show (ls.set _ _).length = m; rw [List.length_set]; exact h3, hf⟩
  · rw [if_neg (by omega)] at hf
    obtain rfl := Option.some.inj hf
    refine Cd.exit (thenQ_x (thenQ_x (blockQ_x (tQ (Cd.seq (Cd.region (Ops.ld_agg 2 (hS5.rd 3 rfl) rfl rfl rfl ?_)))))))
    skip
    refine Ops.st_agg 3 2 hS5 rfl rfl rfl rfl rfl rfl rfl ?_
    intro w6 hS6
    refine Ops.n (tQ (Cd.ret ?_))
    skip
    refine retc_r rfl (hS6.rd 2 rfl) ?_
    exact ⟨⟨A, n, cc, rs, im, B, m, cB, ls⟩, ⟨h1, h2, h3⟩, rfl, rfl, hS6.sub (((((List.Sublist.refl _).cons _).cons _).cons _).cons _)⟩
end Go.Proofs.YtbhnfehcpnnjcaaGreatDoor.Vc
/-
 The reference's coset enumeration, walked: a word closed at a coset. Conditions: as each states them.
-/
namespace Go.Proofs.YtbhnfehcpnnjcaaGreatDoor.Vc
open Go.RowKit

def closeW (x : PS) (d : Int) : List Int → Option (PS × Int × Int)
 | [] => none
 | [g] => some (x, d, g)
 | g :: g' :: r => match nextP x d g with
  | none => none
  | some (y, e) => closeW y e (g' :: r)
def closeP (x : PS) (c : Int) (ws : List Int) : Option PS :=
 match ws with
 | [] => some x
 | g :: r => match closeW x c (g :: r) with
  | none => none
  | some (y, d, g) => match imageP y d g, imageP y c g with
   | some e, some f => if 0 ≤ e then identP 100000 0 y [e] [c] else if 0 ≤ f then identP 100000 0 y [f] [d] else some ⟨setI (setI y.im d g c) c g d, y.ls⟩
   | _, _ => none

/-- how far the open statement is -/
structure Cl4 (w0 : World) (ks : List Ck) (Ab Ac Aw : Option Addr) (nw cw : Nat) (ws : List Int) (c d : Int) (i : Nat) (x : LS) (y : PS) (d' : Int) (S : Nat → Bool) (e : Env) (w : World) : Prop where
  f1 : e 1 = .int .i64 c
  f2 : e 2 = .slice Aw nw cw
  f3 : e 3 = .pointer Ab
  f6 : e 6 = .pointer Ac
  f7 : e 7 = .int .i64 d
  f8 : e 8 = .int .i64 (i : Int)
  p0 : S 0 = true → e 27 = x.val
  p1 : S 1 = true → e 28 = .int .i64 d
  p2 : S 2 = true → e 29 = .slice Aw nw cw
  p3 : S 3 = true → e 30 = .int .i64 (i : Int)
  p4 : S 4 = true → e 31 = .pointer (ptrAt Aw (i : Int).toNat)
  p5 : S 5 = true → e 32 = .int .i64 (gi ws (i : Int))
  mem : ∃ (X : LS) (bs : List Ck) (Ad : Option Addr), X.ok ∧ (S 6 = false → X = x) ∧ (S 6 = true → X.p = y ∧ e 33 = .tuple #[X.val, .int .i64 d']) ∧ (S 7 = true → e 26 = .tuple #[X.val, .int .i64 d']) ∧ (S 8 = true → e 34 = X.val) ∧ (S 9 = true → e 35 = .int .i64 d') ∧ (S 10 = false → bs = []) ∧
    (S 10 = true → e 9 = .pointer Ad ∧ ((S 11 = false ∧ bs = [Bx 145 3 Ad [.slice none 0 0, .slice none 0 0, .bool false]]) ∨ (S 11 = true ∧ bs = [Bx 145 3 Ad X.cells]))) ∧ (S 12 = true → e 10 = .int .i64 d') ∧
    St w0 w (bs ++ ([Bx 145 3 Ac [.slice none 0 0, .slice none 0 0, .bool false], Bx 145 3 Ab x.cells] ++ (X.cks ++ ks)))

theorem LS.back {w0 w : World} {bs pre ks : List Ck} {x : LS} (h : St w0 w (bs ++ (pre ++ (x.cks ++ ks)))) : St w0 w (x.cks ++ ((bs ++ pre) ++ ks)) := by
 rw [← List.append_assoc] at h
 exact h.toBack
theorem LS.front {w0 w : World} {pre ks : List Ck} {x : LS} (h : St w0 w (x.cks ++ (pre ++ ks))) : St w0 w (pre ++ (x.cks ++ ks)) := h.toBack
theorem LS.front2 {w0 w : World} {bs pre ks : List Ck} {x : LS} (h : St w0 w (x.cks ++ ((bs ++ pre) ++ ks))) : St w0 w (bs ++ (pre ++ (x.cks ++ ks))) := by
 have := h.toBack
 rwa [List.append_assoc] at this
theorem drop_two {l : List Int} {i : Nat} (h : i + 1 < l.length) : l.drop i = gi l (i : Int) :: gi l ((i + 1 : Nat) : Int) :: l.drop (i + 2) := by
 rw [List.drop_eq_getElem_cons (by omega), List.drop_eq_getElem_cons (i := i + 1) (by omega), gi_mem (by omega), gi_mem (by omega)]
theorem drop_one {l : List Int} {i : Nat} (h : i + 1 = l.length) : l.drop i = [gi l (i : Int)] := by
 rw [List.drop_eq_getElem_cons (by omega), gi_mem (by omega), List.drop_eq_nil_of_le (by omega)]

theorem l11Close_c {w0 w : World} {ks : List Ck} (x : LS) (c : Int) (Aw : Option Addr) (nw cw : Nat) (ws : List Int) (y : PS) (hok : x.ok) (hS : St w0 w (x.cks ++ ks)) (hW : ∀ w', St w0 w' ks → RdI w' Aw nw ws) (hnw : nw ≤ 1000000) (hp : closeP x.p c ws = some y) :
  Ret Tryz.prog 150 [x.val, .int .i64 c, .slice Aw nw cw] w (fun v w' => ∃ x' : LS, x'.ok ∧ x'.p = y ∧ v = x'.val ∧ St w0 w' (x'.cks ++ ks)) := by
 have hwl : ws.length = nw := (hW w (hS.sub (List.sublist_append_right _ _))).1
 refine Ret.of_cd Tryz.func150 rfl Tryz.ntmps150 rfl (postc rfl rfl) (Cd.seq (Cd.region (Ops.box3 hS rfl rfl ?_)))
 intro Ab w1 hS1
 skip
 refine Ops.new3 hS1 rfl ?_
 intro Ac w2 hS2
 have hS2 : St w0 w2 ([Bx 145 3 Ac [.slice none 0 0, .slice none 0 0, .bool false], Bx 145 3 Ab x.cells] ++ (x.cks ++ ks)) := hS2
 refine Ops.n (tQ (Cd.seq (Cd.seq (Cd.region (Ops.ms rfl rfl rfl (Ops.len rfl rfl (Ops.eql rfl rfl rfl (Ops.n (tQ ?_)))))))))
 refine Cd.cond_p _ rfl (fun h1 => ?_) (fun h1 => ?_)
 ·have : ws = [] := List.eq_nil_of_length_eq_zero (by omega)
  subst this
  obtain rfl := Option.some.inj hp
  refine Cd.seq (Cd.region (Ops.ld_agg 2 (hS2.rd 1 rfl) rfl rfl rfl ?_))
  skip
  refine Ops.st_agg 3 0 hS2 rfl rfl rfl rfl rfl rfl rfl ?_
  intro w3 hS3
  refine Ops.n (tQ (Cd.ret (thenQ_r ?_)))
  skip
  refine retc_r rfl (hS3.rd 0 rfl) ?_
  exact ⟨x, hok, rfl, rfl, (hS3.sub ((List.Sublist.refl _).cons _)).sub ((List.Sublist.refl _).cons _)⟩
 ·obtain ⟨z, d', g', hcw, hfin⟩ : ∃ z d' g', closeW x.p c (ws.drop 0) = some (z, d', g') ∧ (match imageP z d' g', imageP z c g' with
   | some e, some f => if 0 ≤ e then identP 100000 0 z [e] [c] else if 0 ≤ f then identP 100000 0 z [f] [d'] else some ⟨setI (setI z.im d' g' c) c g' d', z.ls⟩
   | _, _ => none) = some y := by
   cases ws with
   | nil => exact absurd (by simpa using hwl.symm) (by omega)
   | cons a r =>
    simp only [closeP] at hp
    split at hp
    ·cases hp
    ·rename_i z d' g' hz
     exact ⟨z, d', g', hz, hp⟩
  clear hp
  refine Cd.skip (tQ (Cd.seq (Cd.region (Ops.mi rfl rfl rfl (Ops.mi rfl rfl rfl (Ops.n (tQ (Cd.seq (Cd.seq ?_)))))))))
  refine Cd.region (Ops.mi rfl rfl rfl (Ops.n (tQ (Cd.block ?_))))
  refine Cd.loop (α := Nat × LS × Int) (fun s => [(1, .int .i64 c), (2, .slice Aw nw cw), (3, .pointer Ab), (6, .pointer Ac), (7, .int .i64 s.2.2), (8, .int .i64 (s.1 : Int))]) (fun s w' => s.2.1.ok ∧ s.1 < nw ∧ closeW s.2.1.p s.2.2 (ws.drop s.1) = some (z, d', g') ∧ St w0 w' ([Bx 145 3 Ac [.slice none 0 0, .slice none 0 0, .bool false], Bx 145 3 Ab s.2.1.cells] ++ (s.2.1.cks ++ ks))) (fun s => nw - s.1) (0, x, c) ⟨rfl, rfl, rfl, rfl, rfl, rfl, trivial⟩ ⟨hok, by show 0 < nw; omega, hcw, hS2⟩ ?_
  rintro ⟨i, x, d⟩ e w3 ⟨hok, hi, hcw, hS3⟩
  dsimp only at hok hi hcw hS3 ⊢
  refine Cd.seq (Cd.seq (Cd.region (Ops.mi rfl rfl rfl (Ops.add rfl rfl rfl (by omega) (Ops.ms rfl rfl rfl (Ops.len rfl rfl (Ops.lss rfl rfl rfl (Ops.n (tQ ?_)))))))))
  refine Cd.cond_p _ rfl (fun h2 => ?_) (fun h2 => ?_)
  ·rw [drop_two (by omega)] at hcw
   simp only [closeW] at hcw
   split at hcw
   case h_1 => cases hcw
   rename_i y1 d1 hn
   refine Cd.skip (tQ (Cd.seq (Cd.block (Cd.seq ?_))))
   refine Cd.drawS (by kernel_rfl) (by kernel_rfl) (fun S e1 w1 => Cl4 w0 ks Ab Ac Aw nw cw ws c d i x y1 d1 S e1 w1) (fun w4 hb => ⟨rfl, rfl, rfl, rfl, rfl, rfl, fun h => (nomatch h), fun h => (nomatch h), fun h => (nomatch h), fun h => (nomatch h), fun h => (nomatch h), fun h => (nomatch h), x, [], none, hok, fun _ => rfl, fun h => (nomatch h), fun h => (nomatch h), fun h => (nomatch h), fun h => (nomatch h), fun _ => rfl, fun h => (nomatch h), fun h => (nomatch h), hS3.later hb⟩) ?_ ?_
   ·intro S k o e1 w4 hk hSk hd hcl hI
    obtain ⟨f1, f2, f3, f6, f7, f8, p0, p1, p2, p3, p4, p5, X, bs, Ad, m0, m1, m2, m3, m4, m5, m6, m7, m8, hT⟩ := hI
    have hRw : RdI w4 Aw nw ws := hW w4 (((hT.sub (List.sublist_append_right _ _)).sub (List.sublist_append_right _ _)).sub (List.sublist_append_right _ _))
    match k, hk, hSk with
    | 0, hk, hSk =>
     obtain rfl := Option.some.inj hk
     refine Ops.ld_agg 2 ((hT.sub (List.sublist_append_right bs _)).rd 1 rfl) (by exact f3) rfl rfl (Ops.n ?_)
     exact ⟨f1, f2, f3, f6, f7, f8, fun _ => rfl, p1, p2, p3, p4, p5, X, bs, Ad, m0, m1, m2, m3, m4, m5, m6, m7, m8, hT⟩
    | 1, hk, hSk =>
     obtain rfl := Option.some.inj hk
     refine Ops.mi rfl (by exact f7) rfl (Ops.n ?_)
     exact ⟨f1, f2, f3, f6, f7, f8, p0, fun _ => rfl, p2, p3, p4, p5, X, bs, Ad, m0, m1, m2, m3, m4, m5, m6, m7, m8, hT⟩
    | 2, hk, hSk =>
     obtain rfl := Option.some.inj hk
     refine Ops.ms rfl (by exact f2) rfl (Ops.n ?_)
     exact ⟨f1, f2, f3, f6, f7, f8, p0, p1, fun _ => rfl, p3, p4, p5, X, bs, Ad, m0, m1, m2, m3, m4, m5, m6, m7, m8, hT⟩
    | 3, hk, hSk =>
     obtain rfl := Option.some.inj hk
     refine Ops.mi rfl (by exact f8) rfl (Ops.n ?_)
     exact ⟨f1, f2, f3, f6, f7, f8, p0, p1, p2, fun _ => rfl, p4, p5, X, bs, Ad, m0, m1, m2, m3, m4, m5, m6, m7, m8, hT⟩
    | 4, hk, hSk =>
     obtain rfl := Option.some.inj hk
     refine Ops.idx hRw.2 (by exact p2 (deps_of hd 2 rfl)) (by exact p3 (deps_of hd 3 rfl)) rfl (by omega) (by omega) (Ops.n ?_)
     exact ⟨f1, f2, f3, f6, f7, f8, p0, p1, p2, p3, fun _ => rfl, p5, X, bs, Ad, m0, m1, m2, m3, m4, m5, m6, m7, m8, hT⟩
    | 5, hk, hSk =>
     obtain rfl := Option.some.inj hk
     refine Ops.ld_int hRw (by exact p4 (deps_of hd 4 rfl)) (by omega) rfl rfl (Ops.n ?_)
     exact ⟨f1, f2, f3, f6, f7, f8, p0, p1, p2, p3, p4, fun _ => rfl, X, bs, Ad, m0, m1, m2, m3, m4, m5, m6, m7, m8, hT⟩
    | 6, hk, hSk =>
     obtain rfl := Option.some.inj hk
     obtain rfl := m1 hSk
     have n7 : S 7 = false := by
      cases h : S 7 with
      | false => rfl
      | true => rw [← hSk]; exact (deps_of (hcl 7 _ h rfl) 6 rfl).symm
     have n8 : S 8 = false := by
      cases h : S 8 with
      | false => rfl
      | true => rw [← n7]; exact (deps_of (hcl 8 _ h rfl) 7 rfl).symm
     have n9 : S 9 = false := by
      cases h : S 9 with
      | false => rfl
      | true => rw [← n7]; exact (deps_of (hcl 9 _ h rfl) 7 rfl).symm
     have n11 : S 11 = false := by
      cases h : S 11 with
      | false => rfl
      | true => rw [← hSk]; exact (deps_of (hcl 11 _ h rfl) 6 rfl).symm
     have n12 : S 12 = false := by
      cases h : S 12 with
      | false => rfl
      | true => rw [← n11]; exact (deps_of (hcl 12 _ h rfl) 11 rfl).symm
     refine Ops.call (l11Next_c X d (gi ws (i : Int)) y1 d1 m0 (LS.back hT) hn) rfl (by show [e1 27, e1 28, e1 32] = _; rw [p0 (deps_of hd 0 rfl), p1 (deps_of hd 1 rfl), p5 (deps_of hd 5 rfl)]) rfl ?_
     rintro _ w5 ⟨x', hok', hp', rfl, hT'⟩
     refine Ops.n ?_
     refine ⟨f1, f2, f3, f6, f7, f8, p0, p1, p2, p3, p4, p5, x', bs, Ad, hok', fun h => (nomatch (show true = false from h)), fun _ => ⟨hp', rfl⟩, fun h => ?_, fun h => ?_, fun h => ?_, m6, fun h => ?_, fun h => ?_, LS.front2 hT'⟩
     ·exact (nomatch n7.symm.trans h)
     ·exact (nomatch n8.symm.trans h)
     ·exact (nomatch n9.symm.trans h)
     ·obtain ⟨h9, h10⟩ := m7 h
      refine ⟨h9, .inl ⟨n11, ?_⟩⟩
      rcases h10 with h10 | h10
      ·exact h10.2
      ·exact (nomatch n11.symm.trans h10.1)
     ·exact (nomatch n12.symm.trans h)
    | 7, hk, hSk =>
     obtain rfl := Option.some.inj hk
     refine Ops.mv_tup rfl (by exact (m2 (deps_of hd 6 rfl)).2) rfl (Ops.n ?_)
     exact ⟨f1, f2, f3, f6, f7, f8, p0, p1, p2, p3, p4, p5, X, bs, Ad, m0, m1, m2, fun _ => rfl, m4, m5, m6, m7, m8, hT⟩
    | 8, hk, hSk =>
     obtain rfl := Option.some.inj hk
     refine Ops.extract (by exact m3 (deps_of hd 7 rfl)) rfl rfl (Ops.n ?_)
     exact ⟨f1, f2, f3, f6, f7, f8, p0, p1, p2, p3, p4, p5, X, bs, Ad, m0, m1, m2, m3, fun _ => rfl, m5, m6, m7, m8, hT⟩
    | 9, hk, hSk =>
     obtain rfl := Option.some.inj hk
     refine Ops.extract (by exact m3 (deps_of hd 7 rfl)) rfl rfl (Ops.n ?_)
     exact ⟨f1, f2, f3, f6, f7, f8, p0, p1, p2, p3, p4, p5, X, bs, Ad, m0, m1, m2, m3, m4, fun _ => rfl, m6, m7, m8, hT⟩
    | 10, hk, hSk =>
     obtain rfl := Option.some.inj hk
     obtain rfl := m6 hSk
     have n11 : S 11 = false := by
      cases h : S 11 with
      | false => rfl
      | true => rw [← hSk]; exact (deps_of (hcl 11 _ h rfl) 10 rfl).symm
     refine Ops.new3 hT rfl ?_
     intro Ae w5 hT5
     refine Ops.n ?_
     exact ⟨f1, f2, f3, f6, f7, f8, p0, p1, p2, p3, p4, p5, X, [Bx 145 3 Ae [.slice none 0 0, .slice none 0 0, .bool false]], Ae, m0, m1, m2, m3, m4, m5, fun h => (nomatch (show true = false from h)), fun _ => ⟨rfl, .inl ⟨n11, rfl⟩⟩, m8, hT5⟩
    | 11, hk, hSk =>
     obtain rfl := Option.some.inj hk
     have hs10 := deps_of hd 10 rfl
     obtain ⟨h9, h10⟩ := m7 hs10
     rcases h10 with ⟨_, rfl⟩ | h10
     ·refine Ops.st_agg 3 0 hT rfl (by exact h9) (by exact m4 (deps_of hd 8 rfl)) rfl rfl rfl rfl ?_
      intro w5 hT5
      refine Ops.n ?_
      exact ⟨f1, f2, f3, f6, f7, f8, p0, p1, p2, p3, p4, p5, X, [Bx 145 3 Ad X.cells], Ad, m0, m1, m2, m3, m4, m5, fun h => (nomatch hs10.symm.trans h), fun _ => ⟨h9, .inr ⟨rfl, rfl⟩⟩, m8, hT5⟩
     ·exact (nomatch hSk.symm.trans h10.1)
    | 12, hk, hSk =>
     obtain rfl := Option.some.inj hk
     refine Ops.mi rfl (by exact m5 (deps_of hd 9 rfl)) rfl (Ops.n ?_)
     exact ⟨f1, f2, f3, f6, f7, f8, p0, p1, p2, p3, p4, p5, X, bs, Ad, m0, m1, m2, m3, m4, m5, m6, m7, fun _ => rfl, hT⟩
    | q + 13, hk, _ => exact (nomatch hk)
   ·intro S e1 w4 hall hI
    obtain ⟨f1, f2, f3, f6, f7, f8, p0, p1, p2, p3, p4, p5, X, bs, Ad, m0, m1, m2, m3, m4, m5, m6, m7, m8, hT⟩ := hI
    obtain ⟨h9, h10⟩ := m7 (hall 10 (by decide))
    rcases h10 with h10 | ⟨_, rfl⟩
    ·exact (nomatch (hall 11 (by decide)).symm.trans h10.1)
    have hy1 := (m2 (hall 6 (by decide))).1
    refine thenQ_ext (F := [(1, .int .i64 c), (2, .slice Aw nw cw), (3, .pointer Ab), (6, .pointer Ac), (7, .int .i64 d), (8, .int .i64 (i : Int)), (9, .pointer Ad), (10, .int .i64 d1)]) ⟨f1, f2, f3, f6, f7, f8, h9, m8 (hall 12 (by decide)), trivial⟩ ?_
    refine tQ (Cd.seq (Cd.region (Ops.ld_agg 2 (hT.rd 0 rfl) rfl rfl rfl ?_)))
    skip
    refine Ops.st_agg 3 2 hT rfl rfl rfl rfl rfl rfl rfl ?_
    intro w5 hT5
    have hT5 : St w0 w5 (Bx 145 3 Ad X.cells :: ([Bx 145 3 Ac [.slice none 0 0, .slice none 0 0, .bool false], Bx 145 3 Ab X.cells] ++ (X.cks ++ ks))) := hT5
    have hT6 := hT5.tail
    refine Ops.n (tQ (Cd.seq (Cd.region (Ops.mi rfl rfl rfl (Ops.mi rfl rfl rfl (Ops.n (tQ (Cd.seq (Cd.region ?_)))))))))
    refine Ops.fld (hT6.rd 1 rfl) rfl rfl rfl rfl inferInstance (Ops.ldf_b (hT6.rd 1 rfl) rfl rfl rfl rfl rfl (Ops.n (tQ (Cd.cond_f rfl (Cd.skip (blockQ_n (tQ (Cd.region (Ops.mi rfl rfl rfl ?_)))))))))
    refine Ops.add rfl rfl rfl (by omega) (Ops.mi rfl rfl rfl (Ops.n (tQ ?_)))
    refine ⟨(i + 1, X, d1), by show nw - (i + 1) < nw - i; omega, ⟨rfl, rfl, rfl, rfl, rfl, rfl, trivial⟩, m0, by show i + 1 < nw; omega, ?_, hT6⟩
    show closeW X.p d1 (ws.drop (i + 1)) = _
    rw [hy1, List.drop_eq_getElem_cons (by omega), ← gi_mem (by omega)]
    exact hcw
  ·rw [drop_one (by omega)] at hcw
   have hcw := Option.some.inj hcw
   simp only [Prod.mk.injEq] at hcw
   obtain ⟨rfl, rfl, rfl⟩ := hcw
   have hRw : RdI w3 Aw nw ws := hW w3 ((hS3.sub (List.sublist_append_right _ _)).sub (List.sublist_append_right _ _))
   split at hfin
   case h_2 => cases hfin
   rename_i a b ha hb0
   have hI3 := LS.rowsI hok hS3
   have hR3 := LS.rdI hS3
   refine Cd.exit (thenQ_x (thenQ_x (blockQ_x (tQ (Cd.seq (Cd.region (Ops.ms rfl rfl rfl (Ops.ms rfl rfl rfl (Ops.len rfl rfl ?_)))))))))
   refine Ops.sub rfl rfl rfl (by omega) (Ops.idx hRw.2 rfl rfl rfl (by omega) (by omega) ?_)
   have hin : ((nw : Nat) : Int) - 1 = (i : Nat) := by omega
   refine Ops.ld_int hRw rfl (by omega) rfl rfl ?_
   rw [hin]
   generalize gi ws (i : Int) = g at *
   refine Ops.mi rfl rfl rfl (Ops.n (tQ (Cd.seq ?_)))
   refine Cd.draw [.ex (.agg #[.slice (x.A) (x.n) (x.c), .slice (x.B) (x.m) (x.cB), .bool (false)]), .ex (.int .i64 (d)), .ex (.int .i64 (g)), .ex (.int .i64 (a)), .ex (.agg #[.slice (x.A) (x.n) (x.c), .slice (x.B) (x.m) (x.cB), .bool (false)]), .ex (.int .i64 (c)), .ex (.int .i64 (g)), .ex (.int .i64 (b)), .ex (.int .i64 (a)), .ex (.int .i64 (b))] (by kernel_rfl) (by kernel_rfl) rfl (lx (lx (lx (lx (lx (lx (lx (lx (lx (lx (fun _ h => by cases h))))))))))) ⟨?_, ?_, ?_, ?_, ?_, ?_, ?_, ?_, ?_, ?_, trivial⟩ ?_
   ·intro e1 w1 hb hp hun
    refine Ops.ld_agg 2 ((hS3.rd 1 rfl).below hb) rfl rfl rfl (Ops.n (d0 (by exact rfl)))
   ·intro e1 w1 hb hp hun
    refine Ops.mi rfl rfl rfl (Ops.n (d0 (by exact rfl)))
   ·intro e1 w1 hb hp hun
    refine Ops.mi rfl rfl rfl (Ops.n (d0 (by exact rfl)))
   ·intro e1 w1 hb hp hun
    refine Ops.call (l11Image_c x.rs x.im x.ls d g a _ (hI3.later hb) (hR3.later hb) ha) rfl rfl rfl ?_
    rintro _ w2 ⟨rfl, hst⟩
    refine Ops.n ?_
    exact After.dn hst.below (by exact rfl)
   ·intro e1 w1 hb hp hun
    refine Ops.ld_agg 2 ((hS3.rd 1 rfl).below hb) rfl rfl rfl (Ops.n (d0 (by exact rfl)))
   ·intro e1 w1 hb hp hun
    refine Ops.mi rfl rfl rfl (Ops.n (d0 (by exact rfl)))
   ·intro e1 w1 hb hp hun
    refine Ops.mi rfl rfl rfl (Ops.n (d0 (by exact rfl)))
   ·intro e1 w1 hb hp hun
    refine Ops.call (l11Image_c x.rs x.im x.ls c g b _ (hI3.later hb) (hR3.later hb) hb0) rfl rfl rfl ?_
    rintro _ w2 ⟨rfl, hst⟩
    refine Ops.n ?_
    exact After.dn hst.below (by exact rfl)
   ·intro e1 w1 hb hp hun
    refine Ops.mi rfl rfl rfl (Ops.n (d0 (by exact rfl)))
   ·intro e1 w1 hb hp hun
    refine Ops.mi rfl rfl rfl (Ops.n (d0 (by exact rfl)))
   intro u w4 hb4 _
   have hS4 := hS3.later hb4
   refine tQ (Cd.seq (Cd.block (Cd.seq (Cd.region (Ops.mi rfl rfl rfl (Ops.geq rfl rfl rfl (Ops.mb rfl rfl rfl (Ops.n (tQ ?_)))))))))
   refine Cd.cond_p _ rfl (fun h3 => ?_) (fun h3 => ?_)
   ·rw [if_pos h3] at hfin
    refine Cd.seq (Cd.region (Ops.ld_agg 2 (hS4.rd 1 rfl) rfl rfl rfl (Ops.mi rfl rfl rfl (Ops.mi rfl rfl rfl (Ops.call (l11Identify_c x a c y 100000 hok (hS4.toBack (pre := [_, _])) hfin) rfl rfl rfl ?_)))))
    rintro _ w5 ⟨x', hok', hp', rfl, hT⟩
    have hT := hT.toBack
    refine Ops.st_agg 3 0 hT rfl rfl rfl rfl rfl rfl rfl ?_
    intro w6 hT6
    refine Ops.n (tQ (Cd.ret (blockQ_r (thenQ_r ?_))))
    skip
    refine retc_r rfl (hT6.rd 0 rfl) ?_
    exact ⟨x', hok', hp', rfl, (hT6.sub ((List.Sublist.refl _).cons _)).sub ((List.Sublist.refl _).cons _)⟩
   ·rw [if_neg h3] at hfin
    refine Cd.seq (Cd.region (Ops.mi rfl rfl rfl (Ops.geq rfl rfl rfl (Ops.mb rfl rfl rfl (Ops.n (tQ ?_))))))
    refine Cd.cond_p _ rfl (fun h4 => ?_) (fun h4 => ?_)
    ·rw [if_pos h4] at hfin
     refine Cd.seq (Cd.region (Ops.ld_agg 2 (hS4.rd 1 rfl) rfl rfl rfl (Ops.mi rfl rfl rfl (Ops.mi rfl rfl rfl (Ops.call (l11Identify_c x b d y 100000 hok (hS4.toBack (pre := [_, _])) hfin) rfl rfl rfl ?_)))))
     rintro _ w5 ⟨x', hok', hp', rfl, hT⟩
     have hT := hT.toBack
     refine Ops.st_agg 3 0 hT rfl rfl rfl rfl rfl rfl rfl ?_
     intro w6 hT6
     refine Ops.n (tQ (Cd.ret (blockQ_r (thenQ_r ?_))))
     skip
     refine retc_r rfl (hT6.rd 0 rfl) ?_
     exact ⟨x', hok', hp', rfl, (hT6.sub ((List.Sublist.refl _).cons _)).sub ((List.Sublist.refl _).cons _)⟩
    ·rw [if_neg h4] at hfin
     obtain rfl := Option.some.inj hfin
     have bd : ∀ {z : PS} {c g r : Int}, imageP z c g = some r → 0 ≤ c ∧ c < (z.im.length : Int) ∧ 0 ≤ g ∧ g < ((gl z.im c).length : Int) := fun {z c g r} h => by
      unfold imageP at h
      split at h
      case isFalse => cases h
      rename_i h'; exact h'
     have b1 := bd ha
     have b2 := bd hb0
     have b1 : 0 ≤ d ∧ d < (x.im.length : Int) ∧ 0 ≤ g ∧ g < ((gl x.im d).length : Int) := b1
     have b2 : 0 ≤ c ∧ c < (x.im.length : Int) ∧ 0 ≤ g ∧ g < ((gl x.im c).length : Int) := b2
     have hxn := hok.2.1
     have hxr := hok.1
     obtain ⟨dN, rfl⟩ : ∃ q : Nat, d = q := ⟨d.toNat, by omega⟩
     obtain ⟨cN, rfl⟩ : ∃ q : Nat, c = q := ⟨c.toNat, by omega⟩
     have hI4 := LS.rowsI hok hS4
     have hrd := hI4.at_ (i := (dN : Int)) (by omega) (by omega)
     have hrd1 := hrd.1
     have hS5 : St w0 w4 ([Bx 145 3 Ac [.slice none 0 0, .slice none 0 0, .bool false], Bx 145 3 Ab x.cells, CkI 2 x.B x.m x.cB x.ls] ++ (mat 28 2 x.A x.n x.c x.rs x.im ++ ks)) := hS4
     refine Cd.skip (blockQ_n (tQ (Cd.seq (Cd.region (Ops.fld (hS4.rd 1 rfl) rfl rfl rfl rfl inferInstance (Ops.ldf_s (hS4.rd 1 rfl) rfl rfl rfl rfl rfl (Ops.mi rfl rfl rfl (Ops.idx hI4.top.2 rfl rfl rfl (by omega) (by omega) (Ops.ld_sl hI4.top rfl (by omega) rfl rfl ?_)))))))))
     refine Ops.mi rfl rfl rfl (Ops.mi rfl rfl rfl (Ops.idx hrd.2 rfl rfl rfl (by omega) (by omega) ?_))
     skip
     refine Ops.st_row dN hS5 (by omega) (by omega) rfl rfl (by omega) ?_
     intro w6 hT6
     have hok6 : ({ x with im := x.im.set dN ((gl x.im (dN : Int)).set g.toNat (cN : Int)) } : LS).ok := ⟨hok.1, by show (x.im.set _ _).length = _; rw [List.length_set]; exact hok.2.1, hok.2.2⟩
     generalize hx6 : ({ x with im := x.im.set dN ((gl x.im (dN : Int)).set g.toNat (cN : Int)) } : LS) = x6 at hok6
     have hA6 : x6.A = x.A ∧ x6.n = x.n ∧ x6.c = x.c ∧ x6.rs = x.rs ∧ x6.B = x.B ∧ x6.m = x.m ∧ x6.cB = x.cB ∧ x6.ls = x.ls ∧ x6.im = x.im.set dN ((gl x.im (dN : Int)).set g.toNat (cN : Int)) := by subst hx6; exact ⟨rfl, rfl, rfl, rfl, rfl, rfl, rfl, rfl, rfl⟩
     obtain ⟨q1, q2, q3, q4, q5, q6, q7, q8, q9⟩ := hA6
     have hT6' : St w0 w6 ([Bx 145 3 Ac [.slice none 0 0, .slice none 0 0, .bool false], Bx 145 3 Ab x.cells] ++ (x6.cks ++ ks)) := by
      show St w0 w6 ([Bx _ 3 Ac _, Bx _ 3 Ab x.cells] ++ ((CkI _ x6.B x6.m x6.cB x6.ls :: mat _ _ x6.A x6.n x6.c x6.rs x6.im) ++ ks))
      rw [q1, q2, q3, q4, q5, q6, q7, q8, q9]
      exact hT6
     have hI6 := LS.rowsI hok6 hT6'
     have hrow6 := hI6.at_ (i := (cN : Int)) (by omega) (by omega)
     have eg6 : (gl x6.im (cN : Int)).length = (gl x.im (cN : Int)).length := by
      rw [q9, gl_set (by omega)]
      split
      ·rename_i e; subst e; rw [List.length_set]
      ·rfl
     have hr6 : (rg x6.rs (cN : Int)).n = (gl x.im (cN : Int)).length := by rw [← hrow6.1, eg6]
     refine Ops.n (tQ (Cd.seq (Cd.region (Ops.fld (hT6'.rd 1 rfl) rfl rfl rfl rfl inferInstance (Ops.ldf_s (hT6'.rd 1 rfl) rfl rfl rfl rfl rfl (Ops.mi rfl rfl rfl ?_))))))
     rw [q1, q2, q4] at hI6
     rw [q4] at hrow6 hr6
     refine Ops.idx hI6.top.2 rfl rfl rfl (by omega) (by omega) (Ops.ld_sl hI6.top rfl (by omega) rfl rfl (Ops.mi rfl rfl rfl (Ops.mi rfl rfl rfl (Ops.idx hrow6.2 rfl rfl rfl (by omega) (by omega) ?_))))
     skip
     have hT7 : St w0 w6 ([Bx 145 3 Ac [.slice none 0 0, .slice none 0 0, .bool false], Bx 145 3 Ab x.cells, CkI 2 x.B x.m x.cB x.ls] ++ (mat 28 2 x.A x.n x.c x.rs x6.im ++ ks)) := by
      rw [q9]; exact hT6
     refine Ops.st_row cN hT7 (by rw [q9, List.length_set]; omega) (by omega) rfl rfl (by omega) ?_
     intro w8 hT8
     refine Ops.n (tQ (Cd.seq (Cd.region (Ops.ld_agg 2 (hT8.rd 1 rfl) rfl rfl rfl ?_))))
     skip
     refine Ops.st_agg 3 0 hT8 rfl rfl rfl rfl rfl rfl rfl ?_
     intro w9 hT9
     refine Ops.n (tQ (Cd.ret ?_))
     skip
     refine retc_r rfl (hT9.rd 0 rfl) ?_
     refine ⟨{ x with im := x6.im.set cN ((gl x6.im (cN : Int)).set g.toNat (dN : Int)) }, ⟨hok.1, by show (x6.im.set _ _).length = _; rw [List.length_set, q9, List.length_set]; exact hok.2.1, hok.2.2⟩, ?_, rfl, (hT9.sub ((List.Sublist.refl _).cons _)).sub ((List.Sublist.refl _).cons _)⟩
     show (⟨x6.im.set cN ((gl x6.im (cN : Int)).set g.toNat (dN : Int)), x.ls⟩ : PS) = _
     rw [q9]
     rfl
end Go.Proofs.YtbhnfehcpnnjcaaGreatDoor.Vc
