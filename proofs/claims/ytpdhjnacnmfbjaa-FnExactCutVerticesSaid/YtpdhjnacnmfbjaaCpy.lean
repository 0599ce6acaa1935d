/-
  Copies, the least of two numbers, and unsigned arithmetic. Conditions: as each rule names them.
-/
import Derived.Test.YtpdhjnacnmfbjaaDrw
import Derived.Laws.IdiomCopy
import Derived.Shelf.Bits.Mul64
namespace Go.Proofs.Ytpdhjnacnmfbjaa.Vc
open Go.RowKit
section
variable {P : Program} {N : Nat} {ops : Array Oper} {K : Env → World → Prop} {rest : List Oper} {e : Env} {w0 w w' : World} {ks : List Ck} {d : Nat} {ty : TypeId} {pos : String} {af : Array Edge}

theorem Cd.cond_pt {Q : Post} {c : Operand} {x y : Code} {p : Prop} [Decidable p] (hc : ev e c = .bool (decide p)) (hp : p) (h1 : Cd P N x Q e w) : Cd P N (.cond c x y) Q e w := .cond_t (by rw [hc, decide_eq_true hp]) h1
theorem Cd.cond_pf {Q : Post} {c : Operand} {x y : Code} {p : Prop} [Decidable p] (hc : ev e c = .bool (decide p)) (hp : ¬ p) (h1 : Cd P N y Q e w) : Cd P N (.cond c x y) Q e w := .cond_f (by rw [hc, decide_eq_false hp]) h1

theorem cutAt_zero (A : Option Addr) (c : Nat) : cutAt A c 0 = A := by
  unfold cutAt
  split
  · rfl
  · cases A <;> simp [ptrAt, Addr.add]

theorem run_copy_st {t t' el : TypeId} {z : Value} {b : Nat} [hU : Und P t (.slice el)] [Inf P el z 1 b] {k : Ck} (i l : Nat) (hS : St w0 w ks) (hk : ks[i]? = some k) (hl : l ≤ k.n) {A' : Option Addr} {m dc c' : Nat} {f : Nat → Value} (hR : Rd w A' m f) (h1 : ∀ j, j < m → (f j).oneCell' = true) (ty : TypeId) (q : Nat) (hq : q = min m (k.n - l)) :
    ∃ w', (Builtin.copy_ #[t, t'] ty #[.slice (cutAt k.A k.c l) (k.n - l) dc, .slice A' m c']).run P w = .ok (.int .i64 (q : Int)) w' ∧ St w0 w' (ks.set i { k with vs := k.vs.take l ++ (List.range q).map f ++ k.vs.drop (l + q) }) := by
  obtain ⟨inf, hi, hz0, hs, hby⟩ := Inf.get P el
  have hown := hS.get hk
  obtain ⟨hvl, hnc, hcm, h4⟩ := hown
  have hilt := (List.getElem?_eq_some_iff.1 hk).1
  have hs' : (P.info? el).map (·.size) = some 1 := by simp [hi, hs]
  by_cases hq0 : q = 0
  · have hr := run_copy_none (P := P) w t t' ty el (cutAt k.A k.c l) A' (k.n - l) dc m c' hU.out hs' (by show min m (k.n - l) = 0; omega)
    refine ⟨w, by rw [hr, hq0]; rfl, ?_⟩
    have h5 : ({ k with vs := k.vs.take l ++ (List.range q).map f ++ k.vs.drop (l + q) } : Ck) = k := by subst hq0; simp [List.take_append_drop]
    have : ks.set i { k with vs := k.vs.take l ++ (List.range q).map f ++ k.vs.drop (l + q) } = ks := by
      rw [h5]
      apply List.ext_getElem?
      intro j
      rw [List.getElem?_set]
      split
      · rename_i e; subst e; rw [hk]
        try simp [hilt]
      · rfl
    rw [this]; exact hS
  · obtain ⟨a, rfl⟩ : ∃ a, A' = some a := by
      obtain ⟨p, hp, _⟩ := hR 0 (by omega)
      cases A' with | none => simp [ptrAt] at hp | some q => exact ⟨q, rfl⟩
    rcases h4 with ⟨hA, h0⟩ | ⟨g, o, cur, hA, hg, hh, hsz, hc⟩
    · omega
    have hD : cutAt k.A k.c l = some ⟨g, o + l, none⟩ := by
      unfold cutAt
      rw [if_neg (by omega), hA]
      simp [ptrAt, add_none]
    have hnl : ((List.range q).map f).length = q := by simp
    have hnews : ∀ j v, ((List.range q).map f)[j]? = some v → w.cell? (a.add j) = some v := by
      intro j v hj
      have hjm : j < q := by have := (List.getElem?_eq_some_iff.1 hj).1; simpa using this
      obtain ⟨p, hp, hc⟩ := hR j (by omega)
      simp only [ptrAt, Option.map_some, Option.some.injEq] at hp
      rw [hp, hc, ← hj]
      simp [hjm]
    have h1' : ∀ u ∈ (List.range q).map f, u.oneCell' = true := by
      intro u hu
      obtain ⟨j, hj, rfl⟩ := List.mem_map.1 hu
      have hjq : j < q := by simpa using hj
      exact h1 j (by omega)
    have hr := run_copy_row (P := P) w t t' ty el g (o + l) (k.n - l) dc a m c' cur k.e ((List.range q).map f) hU.out hs' hh (by rw [hnl, hq]) hnews (by rw [hnl]; omega) h1'
    rw [hnl] at hr
    rw [hD]
    refine ⟨w.setRow g (cur.toList.take (o + l) ++ (List.range q).map f ++ cur.toList.drop (o + l + q)).toArray, hr, hS.turn (k := k) (k' := { k with vs := k.vs.take l ++ (List.range q).map f ++ k.vs.drop (l + q) }) (g := g) hk (by simp [Ck.blk, hA]) (by simp [Ck.blk, hA]) ⟨rfl, rfl, rfl, by simp, fun x _ hx => setRow_other w g x _ (fun e => hx (by rw [e]))⟩ ?_⟩
    refine ⟨by simp [hvl]; omega, hnc, hcm, .inr ⟨g, o, _, hA, hg, setRow_heap w g cur _ k.e _ hh, ?_, fun j hj => ?_⟩⟩
    · simp; omega
    · have hj' : j < k.n := hj
      have hcl : cur.toList.length = cur.size := by simp
      show ((cur.toList.take (o + l) ++ (List.range q).map f ++ cur.toList.drop (o + l + q)).toArray)[o + j]? = (k.vs.take l ++ (List.range q).map f ++ k.vs.drop (l + q))[j]?
      rw [List.getElem?_toArray, List.append_assoc, List.append_assoc]
      by_cases hjl : j < l
      · rw [List.getElem?_append_left (by simp; omega), List.getElem?_take, if_pos (by omega), List.getElem?_append_left (by simp; omega), List.getElem?_take, if_pos hjl, Array.getElem?_toList]
        exact hc j hj'
      · have e1 : o + j - (cur.toList.take (o + l)).length = j - l := by simp; omega
        have e2 : j - (k.vs.take l).length = j - l := by simp; omega
        have e3 : (cur.toList.take (o + l) ++ ((List.range q).map f ++ cur.toList.drop (o + l + q)))[o + j]? = ((List.range q).map f ++ cur.toList.drop (o + l + q))[j - l]? := by
          rw [List.getElem?_append_right (by simp; omega), e1]
        have e4 : (k.vs.take l ++ ((List.range q).map f ++ k.vs.drop (l + q)))[j]? = ((List.range q).map f ++ k.vs.drop (l + q))[j - l]? := by
          rw [List.getElem?_append_right (by simp; omega), e2]
        rw [e3, e4]
        by_cases hjq : j - l < q
        · rw [List.getElem?_append_left (by simpa using hjq), List.getElem?_append_left (by simpa using hjq)]
        · rw [List.getElem?_append_right (by rw [hnl]; omega), List.getElem?_append_right (by rw [hnl]; omega), hnl, List.getElem?_drop, List.getElem?_drop, Array.getElem?_toList, show o + l + q + (j - l - q) = o + j by omega, show l + q + (j - l - q) = j by omega]
          exact hc j hj'

theorem Ops.cp {t t' el : TypeId} {z : Value} {b : Nat} [hU : Und P t (.slice el)] [Inf P el z 1 b] {x y : Operand} {k : Ck} (i l : Nat) {A' : Option Addr} {m dc c' : Nat} {f : Nat → Value} (q : Nat) (hS : St w0 w ks) (hk : ks[i]? = some k) (hR : Rd w A' m f) (hl : l ≤ k.n) (hx : ev e x = .slice (cutAt k.A k.c l) (k.n - l) dc) (hy : ev e y = .slice A' m c') (h1 : ∀ j, j < m → (f j).oneCell' = true) (hq : q = min m (k.n - l)) (hb : Nat.blt d N = true)
    (hK : ∀ w', St w0 w' (ks.set i { k with vs := k.vs.take l ++ (List.range q).map f ++ k.vs.drop (l + q) }) → Ops P N ops K rest (upd e d (.int .i64 (q : Int))) w') :
    Ops P N ops K (⟨some d, .call ⟨.builtin .copy, #[x, y], #[t, t']⟩, ty, pos, af, none⟩ :: rest) e w := by
  obtain ⟨w', hr, hS'⟩ := run_copy_st (P := P) (t := t) (t' := t') (dc := dc) (c' := c') i l hS hk hl hR h1 ty q hq
  refine .val (w' := w') ?_ hb (hK _ hS')
  simp [execOp, resolve, invoke, builtin, hx, hy, hr]

theorem Ops.minI {x y : Operand} {t t' : TypeId} {i j : Int} (hx : ev e x = .int .i64 i) (hy : ev e y = .int .i64 j) (hb : Nat.blt d N = true) (hK : Ops P N ops K rest (upd e d (.int .i64 (min i j))) w) :
    Ops P N ops K (⟨some d, .call ⟨.builtin .min, #[x, y], #[t, t']⟩, ty, pos, af, none⟩ :: rest) e w := by
  have hm : (if j < i then j else i) = min i j := by split <;> omega
  refine .val (w' := w) ?_ hb hK
  simp [execOp, resolve, invoke, builtin, hx, hy, Builtin.min_, Builtin.min2, hm]

section
variable {x y : Operand} {xt yt : TypeId} {i j : Int}
theorem wrap_u64_in (i : Int) (h : 0 ≤ i ∧ i ≤ 18446744073709551615) : IntKind.u64.wrap i = i := by rw [IntKind.wrap_u64]; omega
theorem Ops.addU (r : Int) (hx : ev e x = .int .u64 i) (hy : ev e y = .int .u64 j) (hb : Nat.blt d N = true) (he : i + j = r) (hr : 0 ≤ r ∧ r ≤ 18446744073709551615) (hK : Ops P N ops K rest (upd e d (.int .u64 r)) w) :
    Ops P N ops K (⟨some d, .binOp .add xt x y yt, ty, pos, af, none⟩ :: rest) e w :=
  .val (by simp [execOp, hx, hy, eqGuard, binOp, Op.intArith, he, wrap_u64_in _ hr]) hb hK
theorem Ops.mulU (r : Int) (hx : ev e x = .int .u64 i) (hy : ev e y = .int .u64 j) (hb : Nat.blt d N = true) (he : i * j = r) (hr : 0 ≤ r ∧ r ≤ 18446744073709551615) (hK : Ops P N ops K rest (upd e d (.int .u64 r)) w) :
    Ops P N ops K (⟨some d, .binOp .mul xt x y yt, ty, pos, af, none⟩ :: rest) e w :=
  .val (by simp [execOp, hx, hy, eqGuard, binOp, Op.intArith, he, wrap_u64_in _ hr]) hb hK
theorem Ops.andU (r : Int) (hx : ev e x = .int .u64 i) (hy : ev e y = .int .u64 4294967295) (hb : Nat.blt d N = true) (hr : 0 ≤ i ∧ i ≤ 18446744073709551615) (he : i % 4294967296 = r) (hK : Ops P N ops K rest (upd e d (.int .u64 r)) w) :
    Ops P N ops K (⟨some d, .binOp .and xt x y yt, ty, pos, af, none⟩ :: rest) e w := by
  subst he
  obtain ⟨a, rfl⟩ : ∃ a : Nat, i = a := ⟨i.toNat, by omega⟩
  have h := Mul64.maskN a (by omega)
  rw [show ((a % 4294967296 : Nat) : Int) = (a : Int) % 4294967296 by omega] at h
  refine .val ?_ hb hK
  simp only [execOp, hx, hy, eqGuard, binOp, intBits_and, h]; simp
theorem Ops.shrU (r : Int) (hx : ev e x = .int .u64 i) (hy : ev e y = .int .u64 32) (hb : Nat.blt d N = true) (hr : 0 ≤ i) (he : i / 4294967296 = r) (hK : Ops P N ops K rest (upd e d (.int .u64 r)) w) :
    Ops P N ops K (⟨some d, .binOp .shr xt x y yt, ty, pos, af, none⟩ :: rest) e w := by
  subst he
  refine .val ?_ hb hK
  have e1 : min 32 IntKind.u64.bits = 32 := by decide
  have e2 : i.fdiv (2 ^ 32) = i / 4294967296 := by rw [Int.fdiv_eq_ediv_of_nonneg _ (by decide)]; rfl
  have e2' : i.fdiv 4294967296 = i / 4294967296 := e2
  simp [execOp, hx, hy, eqGuard, binOp, Op.shift, e1, e2']
theorem Ops.convK {k k' : IntKind} [Und P yt (.int k')] (hx : ev e x = .int k i) (hb : Nat.blt d N = true) (hw : k'.wrap i = i) {u : TypeDesc} [Und P xt u] (hK : Ops P N ops K rest (upd e d (.int k' i)) w) :
    Ops P N ops K (⟨some d, .convert xt yt x, ty, pos, af, none⟩ :: rest) e w :=
  .val (by simp [execOp, hx, convert, run_underlying (Und.out (P := P) (t := xt)), run_underlying (Und.out (P := P) (t := yt)), Conv.intToInt, hw]) hb hK
end
end
end Go.Proofs.Ytpdhjnacnmfbjaa.Vc
