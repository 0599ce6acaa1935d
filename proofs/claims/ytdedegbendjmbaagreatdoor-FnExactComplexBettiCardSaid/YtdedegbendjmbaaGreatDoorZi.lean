/-
  The texts Rk2, Rk3, Rk4, Co18, Co20, Rk5, Co22, Co24, Co25, Rk6, Rk7 in one. Conditions: as each part states them.
-/
import Derived.Test.YtdedegbendjmbaaGreatDoorZh
import Derived.Test.YtdedegbendjmbaaGreatDoorZg
import Derived.Test.YtdedegbendjmbaaGreatDoorZf
import Derived.Test.YtdedegbendjmbaaGreatDoorZb
import Derived.Test.YtdedegbendjmbaaGreatDoorZc
/-
  Plain mathematics: lists of numbers as sets modulo two, boundaries of faces, their matrix. Conditions: none.
-/
namespace Go.Proofs.YtdedegbendjmbaaGreatDoor.Vc

def mkb (l : List Int) : Nat := l.foldr (fun e a => 2 ^ e.toNat ^^^ a) 0
theorem mkb_nil : mkb [] = 0 := rfl
theorem mkb_cons (a : Int) (l : List Int) : mkb (a :: l) = 2 ^ a.toNat ^^^ mkb l := rfl
theorem mkb_append : ∀ (a b : List Int), mkb (a ++ b) = mkb a ^^^ mkb b
  | [], b => by simp [mkb_nil]
  | x :: a, b => by rw [List.cons_append, mkb_cons, mkb_cons, mkb_append a b, Nat.xor_assoc]
theorem mkb_perm {a b : List Int} (h : a.Perm b) : mkb a = mkb b := by
  induction h with
  | nil => rfl
  | cons x _ ih => rw [mkb_cons, mkb_cons, ih]
  | swap x y l => rw [mkb_cons, mkb_cons, mkb_cons, mkb_cons, ← Nat.xor_assoc, ← Nat.xor_assoc, Nat.xor_comm (2 ^ y.toNat)]
  | trans _ _ h1 h2 => exact h1.trans h2
def odS (out : List Int) (e : Int) : List Int := if out.getLast? = some e then out.dropLast else out ++ [e]
def oddP (l : List Int) : List Int := l.foldl odS []
theorem oddP_snoc (l : List Int) (e : Int) : oddP (l ++ [e]) = odS (oddP l) e := by simp [oddP]
theorem getLast_snoc {l : List Int} {e : Int} (h : l.getLast? = some e) : l = l.dropLast ++ [e] := by
  have hne : l ≠ [] := fun h' => by rw [h'] at h; cases h
  rw [List.getLast?_eq_some_getLast hne] at h
  injection h with h
  rw [← h]; exact (List.dropLast_concat_getLast hne).symm
theorem oddP_inv : ∀ (n : Nat) (l : List Int), l.length = n → Asc l → SA (oddP l) ∧ (∀ x ∈ oddP l, x ∈ l) ∧ mkb (oddP l) = mkb l
  | 0, l, hl, _ => by obtain rfl := List.eq_nil_of_length_eq_zero hl; exact ⟨List.Pairwise.nil, fun _ h => h, rfl⟩
  | n + 1, l, hl, ha => by
    obtain ⟨l0, e, rfl⟩ : ∃ l0 e, l = l0 ++ [e] := ⟨l.dropLast, l.getLast (fun h => by rw [h] at hl; simp at hl), (List.dropLast_concat_getLast _).symm⟩
    have ha' : Asc l0 ∧ ∀ x ∈ l0, x ≤ e := by
      rw [Asc, List.pairwise_append] at ha
      exact ⟨ha.1, fun x hx => ha.2.2 x hx e (by simp)⟩
    obtain ⟨h1, h2, h3⟩ := oddP_inv n l0 (by simpa using hl) ha'.1
    rw [oddP_snoc, odS]
    by_cases hg : (oddP l0).getLast? = some e
    · rw [if_pos hg]
      refine ⟨List.Pairwise.sublist (List.dropLast_sublist _) h1, fun x hx => List.mem_append_left _ (h2 x ((List.dropLast_sublist _).subset hx)), ?_⟩
      have e1 := getLast_snoc hg
      rw [mkb_append, ← h3]
      conv => rhs; rw [e1]
      rw [mkb_append, Nat.xor_assoc, Nat.xor_self, Nat.xor_zero]
    · rw [if_neg hg]
      refine ⟨?_, fun x hx => ?_, by rw [mkb_append, mkb_append, h3]⟩
      · rw [SA, List.pairwise_append]
        refine ⟨h1, List.pairwise_singleton _ _, fun x hx y hy => ?_⟩
        obtain rfl : y = e := by simpa using hy
        have hle := ha'.2 x (h2 x hx)
        refine Int.lt_iff_le_and_ne.2 ⟨hle, fun hxe => hg ?_⟩
        subst hxe
        have hne : oddP l0 ≠ [] := fun h' => by rw [h'] at hx; cases hx
        rw [List.getLast?_eq_some_getLast hne]
        congr 1
        have hgl := List.getLast_mem hne
        have hgle := ha'.2 _ (h2 _ hgl)
        have e2 : oddP l0 = (oddP l0).dropLast ++ [(oddP l0).getLast hne] := (List.dropLast_concat_getLast hne).symm
        have h1' := h1
        rw [e2, SA, List.pairwise_append] at h1'
        rw [e2] at hx
        rcases List.mem_append.1 hx with hx | hx
        · have := h1'.2.2 x hx _ (List.mem_singleton.2 rfl)
          omega
        · exact (List.mem_singleton.1 hx).symm
      · rcases List.mem_append.1 hx with hx | hx
        · exact List.mem_append_left _ (h2 x hx)
        · exact List.mem_append_right _ hx
/-- a set of numbers: ascending, not negative -/
def OkX (x : List Int) : Prop := SA x ∧ ∀ e ∈ x, 0 ≤ e
theorem mkb_bit : ∀ {x : List Int}, x.Nodup → (∀ e ∈ x, 0 ≤ e) → ∀ j, (mkb x).testBit j = decide ((j : Int) ∈ x)
  | [], _, _, j => by simp [mkb_nil]
  | a :: l, hn, h0, j => by
    rw [List.nodup_cons] at hn
    have ih := mkb_bit hn.2 (fun e he => h0 e (List.mem_cons_of_mem _ he)) j
    have ha := h0 a (by simp)
    rw [mkb_cons, Nat.testBit_xor, ih, Nat.testBit_two_pow]
    by_cases e : (j : Int) = a
    · have hj : ¬ (j : Int) ∈ l := by rw [e]; exact hn.1
      have h1 : a.toNat = j := by omega
      simp [e, h1, hn.1]
    · have h1 : a.toNat ≠ j := by omega
      simp [e, h1]
theorem OkX.odd {l : List Int} (ha : Asc l) (h0 : ∀ e ∈ l, 0 ≤ e) : OkX (oddP l) := by
  obtain ⟨h1, h2, _⟩ := oddP_inv _ l rfl ha
  exact ⟨h1, fun e he => h0 e (h2 e he)⟩
theorem OkX.top {x : List Int} (h : OkX x) {t : Int} (ht : x.getLast? = some t) : Top (mkb x) t.toNat := by
  have e1 := getLast_snoc ht
  have h2 := h.1
  rw [e1, SA, List.pairwise_append] at h2
  have htm : t ∈ x := by rw [e1]; simp
  have h0 := h.2 t htm
  refine ⟨?_, fun j hj => ?_⟩
  · rw [mkb_bit h.1.nodup h.2]; simpa [Int.toNat_of_nonneg h0] using htm
  · rw [mkb_bit h.1.nodup h.2]
    simp only [decide_eq_false_iff_not]
    intro hm
    rw [e1] at hm
    rcases List.mem_append.1 hm with hm | hm
    · have := h2.2.2 _ hm t (by simp); omega
    · have := List.mem_singleton.1 hm; omega
theorem OkX.last_le {x : List Int} (h : OkX x) {t : Int} (ht : x.getLast? = some t) : ∀ e ∈ x, e ≤ t := by
  have e1 := getLast_snoc ht
  have h2 := h.1
  rw [e1, SA, List.pairwise_append] at h2
  intro e he
  rw [e1] at he
  rcases List.mem_append.1 he with he | he
  · have := h2.2.2 e he t (by simp); omega
  · have := List.mem_singleton.1 he; omega
/-- a step of the reduction -/
def stX (x y : List Int) : List Int := oddP (srt (x ++ y))
theorem stX_ok {x y : List Int} (hx : OkX x) (hy : OkX y) : OkX (stX x y) := OkX.odd (srt_asc _) fun e he => by
  rcases List.mem_append.1 ((srt_perm _).subset he) with h | h
  · exact hx.2 e h
  · exact hy.2 e h
theorem stX_mkb (x y : List Int) : mkb (stX x y) = mkb x ^^^ mkb y := by
  rw [stX, (oddP_inv _ _ rfl (srt_asc _)).2.2, mkb_perm (srt_perm _), mkb_append]
theorem stX_sub {x y : List Int} : ∀ e ∈ stX x y, e ∈ x ∨ e ∈ y := fun e he => List.mem_append.1 ((srt_perm _).subset ((oddP_inv _ _ rfl (srt_asc _)).2.1 e he))
theorem stX_lt {x y : List Int} (hx : OkX x) (hy : OkX y) {t : Int} (h1 : x.getLast? = some t) (h2 : y.getLast? = some t) : ∀ e ∈ stX x y, e < t := by
  intro e he
  have hle : e ≤ t := by rcases stX_sub e he with h | h; exact hx.last_le h1 e h; exact hy.last_le h2 e h
  refine Int.lt_iff_le_and_ne.2 ⟨hle, fun h => ?_⟩
  subst h
  have hok := stX_ok hx hy
  have h0 := hok.2 e he
  have hb := mkb_bit hok.1.nodup hok.2 e.toNat
  rw [stX_mkb, Nat.testBit_xor, (hx.top h1).1, (hy.top h2).1] at hb
  simp [Int.toNat_of_nonneg h0, he] at hb
/-- a bounded set has few elements -/
theorem OkX.len {x : List Int} (h : OkX x) {b : Nat} (hb : ∀ e ∈ x, e < b) : x.length ≤ b := nodup_le_int h.1.nodup fun e he => ⟨h.2 e he, hb e he⟩

/-- the numbers of faces -/
def numF (G : List (List Int)) : List (ByteArray × Int) := (List.range G.length).map fun (i : Nat) => (keyB (gl G (i : Int)), (i : Int))
theorem numF_take {G : List (List Int)} {i : Nat} (h : i < G.length) : numF (G.take (i + 1)) = numF (G.take i) ++ [(keyB (gl G (i : Int)), (i : Int))] := by
  have e1 : (G.take (i + 1)).length = i + 1 := by simp; omega
  have e2 : (G.take i).length = i := by simp; omega
  unfold numF
  rw [e1, e2, List.range_succ, List.map_append]
  congr 1
  · refine List.map_congr_left fun j hj => ?_
    have hj := List.mem_range.1 hj
    have : gl (G.take (i + 1)) (j : Int) = gl (G.take i) (j : Int) := by
      simp only [gl, Int.toNat_natCast, List.getD_eq_getElem?_getD]
      rw [List.getElem?_take_of_lt (by omega), List.getElem?_take_of_lt hj]
    rw [this]
  · have : gl (G.take (i + 1)) (i : Int) = gl G (i : Int) := by
      simp only [gl, Int.toNat_natCast, List.getD_eq_getElem?_getD]
      rw [List.getElem?_take_of_lt (by omega)]
    simp [this]
theorem getA_none_mem {κ ν : Type} [DecidableEq κ] : ∀ {L : List (κ × ν)} {x : κ}, getA L x = none → ∀ p ∈ L, p.1 ≠ x
  | [], _, _ => by simp
  | (z, w) :: r, x, h => by
    simp only [getA] at h
    by_cases e : z = x
    · rw [if_pos e] at h; cases h
    · rw [if_neg e] at h
      intro p hp
      rcases List.mem_cons.1 hp with rfl | hp
      · exact e
      · exact getA_none_mem h p hp
theorem getA_some_mem {κ ν : Type} [DecidableEq κ] : ∀ {L : List (κ × ν)} {x : κ} {u : ν}, getA L x = some u → (x, u) ∈ L
  | (z, w) :: r, x, u, h => by
    simp only [getA] at h
    by_cases e : z = x
    · rw [if_pos e] at h; injection h with h; subst e h; simp
    · rw [if_neg e] at h; exact List.mem_cons_of_mem _ (getA_some_mem h)
theorem putA_new {κ ν : Type} [DecidableEq κ] {L : List (κ × ν)} {x : κ} {u : ν} (h : ∀ p ∈ L, p.1 ≠ x) : putA L x u = L ++ [(x, u)] := by
  induction L with
  | nil => rfl
  | cons p r ih =>
    obtain ⟨z, w⟩ := p
    simp only [putA]
    rw [if_neg (h (z, w) (by simp)), ih fun p hp => h p (List.mem_cons_of_mem _ hp)]; rfl
theorem getA_of_mem {κ ν : Type} [DecidableEq κ] : ∀ {L : List (κ × ν)} {x : κ} {u : ν}, (L.map (·.1)).Nodup → (x, u) ∈ L → getA L x = some u
  | (z, w) :: r, x, u, hn, h => by
    simp only [List.map_cons, List.nodup_cons] at hn
    simp only [getA]
    rcases List.mem_cons.1 h with h | h
    · injection h with h1 h2; subst h1 h2; rw [if_pos rfl]
    · rw [if_neg fun e => hn.1 (by rw [e]; exact List.mem_map.2 ⟨_, h, rfl⟩)]
      exact getA_of_mem hn.2 h
theorem nodup_at {G : List (List Int)} (hn : G.Nodup) {i j : Nat} (hi : i < G.length) (hj : j < G.length) (h : gl G (i : Int) = gl G (j : Int)) : i = j := by
  rw [gl_mem hi, gl_mem hj] at h
  exact (List.getElem_inj hn).1 h
theorem numF_nodup {G : List (List Int)} (hn : G.Nodup) : ((numF G).map (·.1)).Nodup := by
  unfold numF
  rw [List.map_map, List.Nodup, List.pairwise_map]
  refine List.Pairwise.imp_of_mem (R := (· ≠ ·)) ?_ List.nodup_range
  intro i j hi hj hne e
  exact hne (nodup_at hn (List.mem_range.1 hi) (List.mem_range.1 hj) (keyB_inj e))
theorem numF_new {G : List (List Int)} (hn : G.Nodup) {i : Nat} (h : i < G.length) : ∀ p ∈ numF (G.take i), p.1 ≠ keyB (gl G (i : Int)) := by
  intro p hp e
  have h2 := numF_nodup (G := G.take (i + 1)) (hn.sublist (List.take_sublist _ _))
  rw [numF_take h, List.map_append, List.nodup_append] at h2
  exact h2.2.2 p.1 (List.mem_map.2 ⟨p, hp, rfl⟩) (keyB (gl G (i : Int))) (by simp) e
/-- a face's number -/
def nmb (G : List (List Int)) (x : List Int) : Int := (getA (numF G) (keyB x)).getD 0
theorem nmb_at {G : List (List Int)} (hn : G.Nodup) {i : Nat} (h : i < G.length) : nmb G (gl G (i : Int)) = i := by
  unfold nmb
  rw [getA_of_mem (numF_nodup hn) (u := (i : Int)) (List.mem_map.2 ⟨i, List.mem_range.2 h, rfl⟩)]; rfl
theorem nmb_of {G : List (List Int)} (hn : G.Nodup) {x : List Int} (h : x ∈ G) : ∃ i, i < G.length ∧ gl G (i : Int) = x ∧ nmb G x = i := by
  obtain ⟨i, hi, e⟩ := List.mem_iff_getElem.1 h
  have e2 : gl G (i : Int) = x := by rw [gl_mem hi]; exact e
  exact ⟨i, hi, e2, by rw [← e2]; exact nmb_at hn hi⟩
/-- a boundary's numbers -/
def bdN (G : List (List Int)) (x : List Int) : List Int := (ptsP x (x.length - 1)).map (nmb G)
/-- the matrix' row of a face -/
def rwB (G : List (List Int)) (x : List Int) : List Int := G.map fun y => if Ins y x then 1 else 0
def rowM : List Int → Nat
  | [] => 0
  | a :: l => (if a = 1 then 1 else 0) + 2 * rowM l
theorem rowM_bit : ∀ (l : List Int) (j : Nat), (rowM l).testBit j = decide (l[j]? = some 1)
  | [], j => by simp [rowM]
  | a :: l, 0 => by
    rw [rowM, Nat.testBit_zero]
    by_cases e : a = 1 <;> simp [e] <;> omega
  | a :: l, j + 1 => by
    rw [rowM, Nat.testBit_succ]
    have : ((if a = 1 then 1 else 0) + 2 * rowM l) / 2 = rowM l := by split <;> omega
    rw [this, rowM_bit l j]
    simp
/-- both matrices' rows are the same numbers -/
theorem bd_row {G : List (List Int)} {x : List Int} {k : Nat} (hn : G.Nodup) (hs : ∀ y ∈ G, SA y ∧ y.length = k) (hx : SA x) (hl : x.length = k + 1) (hG : ∀ p ∈ ptsP x k, p ∈ G) : mkb (oddP (srt (bdN G x))) = rowM (rwB G x) ∧ OkX (oddP (srt (bdN G x))) := by
  have hk : x.length - 1 = k := by omega
  have h0 : ∀ e ∈ bdN G x, 0 ≤ e := fun e he => by
    unfold bdN at he
    rw [hk] at he
    obtain ⟨p, hp, rfl⟩ := List.mem_map.1 he
    obtain ⟨i, _, _, h3⟩ := nmb_of hn (hG p hp)
    omega
  have hnd : (bdN G x).Nodup := by
    unfold bdN
    rw [hk, List.Nodup, List.pairwise_map]
    refine List.Pairwise.imp_of_mem (R := (· ≠ ·)) ?_ (ptsP_SL hx).nodup
    intro p q hp hq hne e
    obtain ⟨i, hi, h2, h3⟩ := nmb_of hn (hG p hp)
    obtain ⟨j, hj, h4, h5⟩ := nmb_of hn (hG q hq)
    have : i = j := by omega
    subst this
    exact hne (h2.symm.trans h4)
  refine ⟨?_, OkX.odd (srt_asc _) fun e he => h0 e ((srt_perm _).subset he)⟩
  rw [(oddP_inv _ _ rfl (srt_asc _)).2.2, mkb_perm (srt_perm _)]
  apply Nat.eq_of_testBit_eq
  intro j
  rw [mkb_bit hnd h0, rowM_bit]
  apply decide_eq_decide.2
  unfold rwB
  rw [List.getElem?_map]
  constructor
  · intro hj
    unfold bdN at hj
    rw [hk] at hj
    obtain ⟨p, hp, e⟩ := List.mem_map.1 hj
    obtain ⟨i, hi, h2, h3⟩ := nmb_of hn (hG p hp)
    obtain rfl : i = j := by omega
    rw [List.getElem?_eq_getElem hi]
    have e2 : G[i] = p := by rw [← gl_mem hi]; exact h2
    rw [e2, Option.map_some, if_pos (Ins.of_sub (ptsP_mem.1 hp).1)]
  · intro hj
    by_cases hjl : j < G.length
    · rw [List.getElem?_eq_getElem hjl, Option.map_some] at hj
      by_cases hI : Ins G[j] x
      · have hy := hs G[j] (List.getElem_mem _)
        have hp : gl G (j : Int) ∈ ptsP x k := by
          rw [gl_mem hjl]
          exact ptsP_mem.2 ⟨Ins.sub hy.1 hx hI, hy.2⟩
        unfold bdN
        rw [hk]
        exact List.mem_map.2 ⟨_, hp, nmb_at hn hjl⟩
      · rw [if_neg hI] at hj; cases hj
    · rw [List.getElem?_eq_none (by omega)] at hj; cases hj
end Go.Proofs.YtdedegbendjmbaaGreatDoor.Vc
/-
  Lists modulo two and lists joined, walked. Conditions: as each states them.
-/
namespace Go.Proofs.YtdedegbendjmbaaGreatDoor.Vc
open Go.RowKit

theorem oddP_take {l : List Int} {k : Nat} (h : k < l.length) : oddP (l.take (k + 1)) = odS (oddP (l.take k)) (gi l (k : Int)) := by rw [take_succ_gi h, oddP_snoc]
theorem oddP_len (l : List Int) : (oddP l).length ≤ l.length := by
  have gen : ∀ l acc : List Int, (l.foldl odS acc).length ≤ acc.length + l.length := by
    intro l
    induction l with
    | nil => intro acc; simp
    | cons a t ih =>
      intro acc
      have h1 := ih (odS acc a)
      have h2 : (odS acc a).length ≤ acc.length + 1 := by unfold odS; split <;> simp <;> omega
      simp only [List.foldl_cons, List.length_cons]; omega
  simpa [oddP] using gen l []
theorem last_gi {l : List Int} {k : Nat} (h : l.length = k + 1) : l.getLast? = some (gi l (k : Int)) := by
  rw [List.getLast?_eq_getElem?, h, Nat.add_sub_cancel, gi_mem (by omega), List.getElem?_eq_getElem]

set_option maxHeartbeats 1000000 in
theorem oddOf_c {w0 w : World} {ks : List Ck} (i : Nat) {A : Option Addr} {n c : Nat} {xs : List Int} (hS : St w0 w ks) (hk : ks[i]? = some (CkI 2 A n c xs)) (hn : n ≤ 1000000000) :
    Ret Tryz.prog 161 [.slice A n c] w (fun v w' => ∃ A' c', v = .slice A' (oddP (srt xs)).length c' ∧ St w0 w' (CkI 2 A' (oddP (srt xs)).length c' (oddP (srt xs)) :: ks.set i (CkI 2 A n c (srt xs)))) := by
  have hxl := hS.lenI i hk
  have hsl : (srt xs).length = n := by rw [(srt_perm xs).length_eq]; exact hxl
  refine Ret.of_cd Tryz.func161 rfl Tryz.ntmps161 rfl (post1 rfl) ?_
  refine Cd.seq ?_
  refine Cd.region ?_
  refine Ops.mv_sl rfl rfl rfl ?_
  refine Ops.nil ?_
  refine thenQ_n ?_
  refine Cd.seq ?_
  refine Cd.region ?_
  refine Ops.mv_sl rfl rfl rfl ?_
  refine Ops.call (sort0_c i hS hk hn) rfl rfl rfl ?_
  rintro _ w1 ⟨rfl, hS1⟩
  have hk1 : (ks.set i (CkI 2 A n c (srt xs)))[i]? = some (CkI 2 A n c (srt xs)) := by rw [List.getElem?_set_self (List.getElem?_eq_some_iff.1 hk).1]
  generalize ks.set i (CkI 2 A n c (srt xs)) = ks1 at *
  generalize hys : srt xs = ys at *
  clear hS hk
  refine Ops.nil ?_
  refine thenQ_n ?_
  refine Cd.seq ?_
  refine Cd.region ?_
  refine Ops.mv_sl rfl rfl rfl ?_
  refine Ops.nil ?_
  refine thenQ_n ?_
  refine Cd.seq ?_
  refine Cd.seq ?_
  refine Cd.region ?_
  refine Ops.mv_sl rfl rfl rfl ?_
  refine Ops.len rfl rfl ?_
  refine Ops.mv_int rfl rfl rfl ?_
  refine Ops.nil ?_
  refine thenQ_n ?_
  refine Cd.block ?_
  refine Cd.loop (α := Nat × Option Addr × Nat) (fun z => [(3, .slice z.2.1 (oddP (ys.take z.1)).length z.2.2), (8, .slice A n c), (9, .int .i64 (n : Int)), (10, .int .i64 (z.1 : Int))])
    (fun z w' => z.1 ≤ n ∧ St w0 w' (CkI 2 z.2.1 (oddP (ys.take z.1)).length z.2.2 (oddP (ys.take z.1)) :: ks1)) (fun z => n - z.1) (0, none, 0) ⟨rfl, rfl, rfl, rfl, trivial⟩ ⟨Nat.zero_le _, hS1.nil _⟩ ?_
  clear hS1
  rintro ⟨k, A3, c3⟩ e w2 ⟨hk, hS⟩
  dsimp only at hk hS ⊢
  refine Cd.seq ?_
  refine Cd.region ?_
  refine Ops.lss rfl rfl rfl ?_
  refine Ops.nil ?_
  refine thenQ_n ?_
  refine Cd.seq ?_
  refine Cd.cond_p _ rfl (fun h1 => ?_) (fun h1 => ?_)
  · have hstep := oddP_take (l := ys) (k := k) (by omega)
    have hol := oddP_len (ys.take k)
    rw [List.length_take] at hol
    have hR := hS.rdI (i + 1) (by rw [List.getElem?_cons_succ]; exact hk1)
    generalize hout : oddP (ys.take k) = out at *
    generalize hel : gi ys (k : Int) = el at *
    refine Cd.skip ?_
    refine thenQ_n ?_
    refine Cd.seq ?_
    refine Cd.block ?_
    refine Cd.seq ?_
    refine Cd.region ?_
    refine Ops.idx hR.2 rfl rfl rfl (by omega) (by omega) ?_
    refine Ops.ld_int hR rfl (by omega) rfl rfl ?_
    rw [hel]
    refine Ops.mv_int rfl rfl rfl ?_
    refine Ops.nil ?_
    refine thenQ_n ?_
    refine Cd.seq ?_
    refine Cd.region ?_
    refine Ops.mv_sl rfl rfl rfl ?_
    refine Ops.len rfl rfl ?_
    refine Ops.gtr rfl rfl rfl ?_
    refine Ops.mv_bool rfl rfl rfl ?_
    refine Ops.split_p 17 rfl (fun h2 => ?_) (fun h2 => ?_)
    · obtain ⟨m, hm⟩ : ∃ m, out.length = m + 1 := ⟨out.length - 1, by omega⟩
      have hgl := last_gi hm
      have e1 : ((out.length : Int) - 1) = (m : Int) := by omega
      have h0 : RdI w2 A3 out.length out := hS.rdI 0 rfl
      refine Ops.rung rfl rfl rfl ?_
      refine Ops.mv_sl rfl rfl rfl ?_
      refine Ops.rung rfl rfl rfl ?_
      refine Ops.mv_sl rfl rfl rfl ?_
      refine Ops.rung rfl rfl rfl ?_
      refine Ops.len rfl rfl ?_
      refine Ops.rung rfl rfl rfl ?_
      refine Ops.sub rfl rfl rfl (by omega) ?_
      refine Ops.rung rfl rfl rfl ?_
      refine Ops.idx h0.2 rfl rfl rfl (by omega) (by omega) ?_
      refine Ops.rung rfl rfl rfl ?_
      refine Ops.ld_int h0 rfl (by omega) rfl rfl ?_
      rw [e1]
      refine Ops.rung rfl rfl rfl ?_
      refine Ops.mv_int rfl rfl rfl ?_
      refine Ops.rung rfl rfl rfl ?_
      refine Ops.eql rfl rfl rfl ?_
      refine Ops.pick_t rfl rfl rfl ?_
      refine Ops.nil ?_
      refine thenQ_n ?_
      refine Cd.cond_p _ rfl (fun h3 => ?_) (fun h3 => ?_)
      · have hod : odS out el = out.take m := by
          unfold odS
          rw [if_pos (by rw [hgl, h3]), List.dropLast_eq_take, hm, Nat.add_sub_cancel]
        have hlen : (out.take m).length = m := by simp; omega
        have hcp : out.length ≤ c3 := (hS.cap 0 rfl).1
        refine Cd.region ?_
        refine Ops.mv_sl rfl rfl rfl ?_
        refine Ops.mv_sl rfl rfl rfl ?_
        refine Ops.len rfl rfl ?_
        refine Ops.sub rfl rfl rfl (by omega) ?_
        refine Ops.cut_h rfl rfl rfl (by omega) ?_
        refine Ops.mv_sl rfl rfl rfl ?_
        refine Ops.nil ?_
        refine blockQ_n ?_
        refine thenQ_n ?_
        refine Cd.region ?_
        refine Ops.add rfl rfl rfl (by omega) ?_
        refine Ops.mv_int rfl rfl rfl ?_
        refine Ops.nil ?_
        refine thenQ_n ?_
        refine ⟨(k + 1, A3, c3), by show n - (k + 1) < n - k; omega, ⟨?_, rfl, rfl, rfl, trivial⟩, by show k + 1 ≤ n; omega, ?_⟩
        · show Value.slice A3 (((out.length : Int) - 1).toNat) c3 = .slice A3 (oddP (ys.take (k + 1))).length c3
          rw [hstep, hod, hlen, e1]; rfl
        · show St w0 _ (CkI 2 A3 (oddP (ys.take (k + 1))).length c3 (oddP (ys.take (k + 1))) :: ks1)
          rw [hstep, hod, hlen]
          exact hS.shrinkI 0 rfl m (by omega)
      · have hod : odS out el = out ++ [el] := by
          unfold odS
          rw [if_neg (by rw [hgl]; intro h; exact h3 (Option.some.inj h))]
        refine Cd.region ?_
        refine Ops.mv_sl rfl rfl rfl ?_
        refine Ops.mv_int rfl rfl rfl ?_
        refine Ops.bs1I hS rfl rfl rfl ?_
        intro A4 w3 hS3
        refine Ops.appI 1 hS3 rfl (hS3.rdI 0 rfl) rfl rfl rfl (by omega) (by omega) rfl ?_
        intro A5 c5 w4 hS4
        refine Ops.mv_sl rfl rfl rfl ?_
        refine Ops.nil ?_
        refine blockQ_n ?_
        refine thenQ_n ?_
        refine Cd.region ?_
        refine Ops.add rfl rfl rfl (by omega) ?_
        refine Ops.mv_int rfl rfl rfl ?_
        refine Ops.nil ?_
        refine thenQ_n ?_
        refine ⟨(k + 1, A5, c5), by show n - (k + 1) < n - k; omega, ⟨?_, rfl, rfl, rfl, trivial⟩, by show k + 1 ≤ n; omega, ?_⟩
        · show Value.slice A5 (out.length + 1) c5 = .slice A5 (oddP (ys.take (k + 1))).length c5
          rw [hstep, hod, List.length_append]; rfl
        · show St w0 _ (CkI 2 A5 (oddP (ys.take (k + 1))).length c5 (oddP (ys.take (k + 1))) :: ks1)
          rw [hstep, hod, List.length_append]
          exact St.tail hS4
    · have hnil : out = [] := List.eq_nil_of_length_eq_zero (by omega)
      have hod : odS out el = out ++ [el] := by
        unfold odS
        rw [if_neg (by rw [hnil]; simp)]
      refine Ops.skipg rfl rfl rfl rfl rfl ?_
      refine Ops.skipg rfl rfl rfl rfl rfl ?_
      refine Ops.skipg rfl rfl rfl rfl rfl ?_
      refine Ops.skipg rfl rfl rfl rfl rfl ?_
      refine Ops.skipg rfl rfl rfl rfl rfl ?_
      refine Ops.skipg rfl rfl rfl rfl rfl ?_
      refine Ops.skipg rfl rfl rfl rfl rfl ?_
      refine Ops.skipg rfl rfl rfl rfl rfl ?_
      refine Ops.pick_f rfl rfl rfl ?_
      refine Ops.nil ?_
      refine thenQ_n ?_
      refine Cd.cond_f rfl ?_
      refine Cd.region ?_
      refine Ops.mv_sl rfl rfl rfl ?_
      refine Ops.mv_int rfl rfl rfl ?_
      refine Ops.bs1I hS rfl rfl rfl ?_
      intro A4 w3 hS3
      refine Ops.appI 1 hS3 rfl (hS3.rdI 0 rfl) rfl rfl rfl (by omega) (by omega) rfl ?_
      intro A5 c5 w4 hS4
      refine Ops.mv_sl rfl rfl rfl ?_
      refine Ops.nil ?_
      refine blockQ_n ?_
      refine thenQ_n ?_
      refine Cd.region ?_
      refine Ops.add rfl rfl rfl (by omega) ?_
      refine Ops.mv_int rfl rfl rfl ?_
      refine Ops.nil ?_
      refine thenQ_n ?_
      refine ⟨(k + 1, A5, c5), by show n - (k + 1) < n - k; omega, ⟨?_, rfl, rfl, rfl, trivial⟩, by show k + 1 ≤ n; omega, ?_⟩
      · show Value.slice A5 (out.length + 1) c5 = .slice A5 (oddP (ys.take (k + 1))).length c5
        rw [hstep, hod, List.length_append]; rfl
      · show St w0 _ (CkI 2 A5 (oddP (ys.take (k + 1))).length c5 (oddP (ys.take (k + 1))) :: ks1)
        rw [hstep, hod, List.length_append]
        exact St.tail hS4
  · obtain rfl : k = n := by omega
    rw [List.take_of_length_le (by omega)] at hS ⊢
    refine Cd.exit ?_
    refine thenQ_x ?_
    refine thenQ_x ?_
    refine blockQ_x ?_
    refine thenQ_n ?_
    refine Cd.seq ?_
    refine Cd.region ?_
    refine Ops.mv_sl rfl rfl rfl ?_
    refine Ops.mv_sl rfl rfl rfl ?_
    refine Ops.nil ?_
    refine thenQ_n ?_
    refine Cd.ret ?_
    refine ret1_s rfl ?_
    exact ⟨A3, c3, rfl, hS⟩
theorem sort00_c (A : Option Addr) (c : Nat) (w : World) : Ret Tryz.prog 127 [.slice A 0 c] w (fun v w' => v = .tuple #[] ∧ w' = w) :=
  Calls.mono (AnyM.slices_Sort_int_none lsort A c w) fun x w' ⟨hx, hw⟩ => ⟨_, hx, rfl, hw⟩
theorem oddOf0_c (A : Option Addr) (c : Nat) (w : World) : Ret Tryz.prog 161 [.slice A 0 c] w (fun v w' => v = .slice none 0 0 ∧ w' = w) := by
  refine Ret.of_cd Tryz.func161 rfl Tryz.ntmps161 rfl (post1 rfl) ?_
  refine Cd.seq ?_
  refine Cd.region ?_
  refine Ops.mv_sl rfl rfl rfl ?_
  refine Ops.nil ?_
  refine thenQ_n ?_
  refine Cd.seq ?_
  refine Cd.region ?_
  refine Ops.mv_sl rfl rfl rfl ?_
  refine Ops.call (sort00_c A c _) rfl rfl rfl ?_
  rintro _ w ⟨rfl, rfl⟩
  refine Ops.nil ?_
  refine thenQ_n ?_
  refine Cd.seq ?_
  refine Cd.region ?_
  refine Ops.mv_sl rfl rfl rfl ?_
  refine Ops.nil ?_
  refine thenQ_n ?_
  refine Cd.seq ?_
  refine Cd.seq ?_
  refine Cd.region ?_
  refine Ops.mv_sl rfl rfl rfl ?_
  refine Ops.len rfl rfl ?_
  refine Ops.mv_int rfl rfl rfl ?_
  refine Ops.nil ?_
  refine thenQ_n ?_
  refine Cd.block ?_
  refine Cd.loop (α := Unit) (fun z => [(3, .slice none 0 0), (9, .int .i64 0), (10, .int .i64 0)]) (fun z w' => w' = w) (fun z => 0) () ⟨rfl, rfl, rfl, trivial⟩ rfl ?_
  rintro z e w1 rfl
  refine Cd.seq ?_
  refine Cd.region ?_
  refine Ops.lss rfl rfl rfl ?_
  refine Ops.nil ?_
  refine thenQ_n ?_
  refine Cd.seq ?_
  refine Cd.cond_pf rfl (by omega) ?_
  refine Cd.exit ?_
  refine thenQ_x ?_
  refine thenQ_x ?_
  refine blockQ_x ?_
  refine thenQ_n ?_
  refine Cd.seq ?_
  refine Cd.region ?_
  refine Ops.mv_sl rfl rfl rfl ?_
  refine Ops.mv_sl rfl rfl rfl ?_
  refine Ops.nil ?_
  refine thenQ_n ?_
  refine Cd.ret ?_
  refine ret1_s rfl ?_
  exact ⟨rfl, rfl⟩

theorem GrowI_c (n : Nat) (w : World) (hn : n ≤ 1000000000) :
    Ret Tryz.prog 192 [.slice none 0 0, .int .i64 (n : Int)] w (fun v w' => ∃ A c, v = .slice A 0 c ∧ n ≤ c ∧ St w w' [CkI 2 A 0 c []]) := by
  refine Ret.of_cd Tryz.func192 rfl Tryz.ntmps192 rfl (post1 rfl) ?_
  refine Cd.seq ?_
  refine Cd.region ?_
  refine Ops.mv_sl rfl rfl rfl ?_
  refine Ops.nil ?_
  refine thenQ_n ?_
  refine Cd.seq ?_
  refine Cd.seq ?_
  refine Cd.region ?_
  refine Ops.mv_int rfl rfl rfl ?_
  refine Ops.lss rfl rfl rfl ?_
  refine Ops.nil ?_
  refine thenQ_n ?_
  refine Cd.cond_pf rfl (by omega) ?_
  refine Cd.skip ?_
  refine thenQ_n ?_
  refine Cd.seq ?_
  refine Cd.seq ?_
  refine Cd.region ?_
  refine Ops.mv_int rfl rfl rfl ?_
  refine Ops.mv_sl rfl rfl rfl ?_
  refine Ops.cpc rfl rfl ?_
  refine Ops.mv_sl rfl rfl rfl ?_
  refine Ops.len rfl rfl ?_
  refine Ops.sub rfl rfl rfl (by omega) ?_
  refine Ops.sub rfl rfl rfl (by omega) ?_
  refine Ops.mv_int rfl rfl rfl ?_
  refine Ops.nil ?_
  refine thenQ_n ?_
  refine Cd.seq ?_
  refine Cd.region ?_
  refine Ops.mv_int rfl rfl rfl ?_
  refine Ops.gtr rfl rfl rfl ?_
  refine Ops.nil ?_
  refine thenQ_n ?_
  refine Cd.cond_p _ rfl (fun h1 => ?_) (fun h1 => ?_)
  · refine Cd.region ?_
    refine Ops.mv_sl rfl rfl rfl ?_
    refine Ops.mv_sl rfl rfl rfl ?_
    refine Ops.cpc rfl rfl ?_
    refine Ops.cut_h rfl rfl rfl (by simp) ?_
    refine Ops.mv_int rfl rfl rfl ?_
    refine Ops.appZ n (by omega) (St.refl w) rfl (by show Value.int _ _ = .int _ _; congr 1) rfl rfl (by simp only [maxLen]; omega) (by omega) rfl ?_
    intro A c w1 hnc hS1
    refine Ops.mv_sl rfl rfl rfl ?_
    refine Ops.len rfl rfl ?_
    refine Ops.cut_h rfl rfl rfl (by simp) ?_
    refine Ops.mv_sl rfl rfl rfl ?_
    refine Ops.nil ?_
    refine thenQ_n ?_
    refine Cd.seq ?_
    refine Cd.region ?_
    refine Ops.mv_sl rfl rfl rfl ?_
    refine Ops.mv_sl rfl rfl rfl ?_
    refine Ops.nil ?_
    refine thenQ_n ?_
    refine Cd.ret ?_
    refine ret1_s rfl ?_
    exact ⟨A, c, rfl, hnc, hS1⟩
  · refine Cd.skip ?_
    refine thenQ_n ?_
    refine Cd.seq ?_
    refine Cd.region ?_
    refine Ops.mv_sl rfl rfl rfl ?_
    refine Ops.mv_sl rfl rfl rfl ?_
    refine Ops.nil ?_
    refine thenQ_n ?_
    refine Cd.ret ?_
    refine ret1_s rfl ?_
    exact ⟨none, 0, rfl, by omega, (St.refl w).nil _⟩

/-- two lists joined -/
theorem ConcatI_c (Aq : Option Addr) (s t : SlV) (x y : List Int) (w : World) (hQ : RdR w Aq 2 [s, t]) (hx : RdI w s.a s.n x) (hy : RdI w t.a t.n y) (hn : s.n + t.n ≤ 100000000) :
    Ret Tryz.prog 176 [.slice Aq 2 2] w (fun v w' => ∃ A' c', v = .slice A' (x ++ y).length c' ∧ St w w' [CkI 2 A' (x ++ y).length c' (x ++ y)]) := by
  have hxl := hx.1
  have hyl := hy.1
  refine Ret.of_cd Tryz.func176 rfl Tryz.ntmps176 rfl (post1 rfl) ?_
  refine Cd.seq ?_
  refine Cd.region ?_
  refine Ops.mv_sl rfl rfl rfl ?_
  refine Ops.nil ?_
  refine thenQ_n ?_
  refine Cd.seq ?_
  refine Cd.region ?_
  refine Ops.mv_int rfl rfl rfl ?_
  refine Ops.nil ?_
  refine thenQ_n ?_
  refine Cd.seq ?_
  refine Cd.seq ?_
  refine Cd.region ?_
  refine Ops.mv_sl rfl rfl rfl ?_
  refine Ops.len rfl rfl ?_
  refine Ops.mv_int rfl rfl rfl ?_
  refine Ops.nil ?_
  refine thenQ_n ?_
  refine Cd.block ?_
  have e0 : rg [s, t] ((0 : Nat) : Int) = s := rfl
  have e1 : rg [s, t] ((1 : Nat) : Int) = t := rfl
  refine Cd.loop (α := Nat × Nat) (fun k => [(0, .slice Aq 2 2), (3, .int .i64 (k.2 : Int)), (9, .slice Aq 2 2), (10, .int .i64 2), (11, .int .i64 (k.1 : Int))]) (fun k w' => w' = w ∧ k.1 ≤ 2 ∧ k.2 = if k.1 = 0 then 0 else if k.1 = 1 then s.n else s.n + t.n) (fun k => 2 - k.1) (0, 0) ⟨rfl, rfl, rfl, rfl, rfl, trivial⟩ ⟨rfl, by decide, rfl⟩ ?_
  rintro ⟨k, m⟩ e w1 ⟨rfl, hk, hm⟩
  dsimp only at hk hm ⊢
  refine Cd.seq ?_
  refine Cd.region ?_
  refine Ops.lss rfl rfl rfl ?_
  refine Ops.nil ?_
  refine thenQ_n ?_
  refine Cd.seq ?_
  refine Cd.cond_p _ rfl (fun h1 => ?_) (fun h1 => ?_)
  · rcases (show k = 0 ∨ k = 1 by omega) with rfl | rfl --dup 2
    · obtain rfl : m = 0 := hm
      refine Cd.skip ?_
      refine thenQ_n ?_
      refine Cd.seq ?_
      refine Cd.block ?_
      refine Cd.seq ?_
      refine Cd.region ?_
      refine Ops.idx hQ.2 rfl rfl rfl (by omega) (by omega) ?_
      refine Ops.ld_sl (i := ((0 : Nat) : Int)) hQ rfl (by simp) rfl rfl ?_
      rw [e0]
      refine Ops.mv_sl rfl rfl rfl ?_
      refine Ops.nil ?_
      refine thenQ_n ?_
      refine Cd.seq ?_
      refine Cd.region ?_
      refine Ops.mv_int rfl rfl rfl ?_
      refine Ops.mv_sl rfl rfl rfl ?_
      refine Ops.len rfl rfl ?_
      refine Ops.add rfl rfl rfl (by omega) ?_
      refine Ops.mv_int rfl rfl rfl ?_
      refine Ops.nil ?_
      refine thenQ_n ?_
      refine Cd.seq ?_
      refine Cd.region ?_
      refine Ops.mv_int rfl rfl rfl ?_
      refine Ops.lss rfl rfl rfl ?_
      refine Ops.nil ?_
      refine thenQ_n ?_
      refine Cd.cond_pf rfl (by omega) ?_
      refine Cd.skip ?_
      refine blockQ_n ?_
      refine thenQ_n ?_
      refine Cd.region ?_
      refine Ops.add rfl rfl rfl (by omega) ?_
      refine Ops.mv_int rfl rfl rfl ?_
      refine Ops.nil ?_
      refine thenQ_n ?_
      exact ⟨(1, s.n), by show 2 - 1 < 2 - 0; omega, ⟨rfl, by show Value.int .i64 (((0 : Nat) : Int) + (s.n : Int)) = .int .i64 (s.n : Int); congr 1; omega, rfl, rfl, rfl, trivial⟩, rfl, by show 1 ≤ 2; omega, rfl⟩
    · obtain rfl : m = s.n := hm
      refine Cd.skip ?_
      refine thenQ_n ?_
      refine Cd.seq ?_
      refine Cd.block ?_
      refine Cd.seq ?_
      refine Cd.region ?_
      refine Ops.idx hQ.2 rfl rfl rfl (by omega) (by omega) ?_
      refine Ops.ld_sl (i := ((1 : Nat) : Int)) hQ rfl (by simp) rfl rfl ?_
      rw [e1]
      refine Ops.mv_sl rfl rfl rfl ?_
      refine Ops.nil ?_
      refine thenQ_n ?_
      refine Cd.seq ?_
      refine Cd.region ?_
      refine Ops.mv_int rfl rfl rfl ?_
      refine Ops.mv_sl rfl rfl rfl ?_
      refine Ops.len rfl rfl ?_
      refine Ops.add rfl rfl rfl (by omega) ?_
      refine Ops.mv_int rfl rfl rfl ?_
      refine Ops.nil ?_
      refine thenQ_n ?_
      refine Cd.seq ?_
      refine Cd.region ?_
      refine Ops.mv_int rfl rfl rfl ?_
      refine Ops.lss rfl rfl rfl ?_
      refine Ops.nil ?_
      refine thenQ_n ?_
      refine Cd.cond_pf rfl (by omega) ?_
      refine Cd.skip ?_
      refine blockQ_n ?_
      refine thenQ_n ?_
      refine Cd.region ?_
      refine Ops.add rfl rfl rfl (by omega) ?_
      refine Ops.mv_int rfl rfl rfl ?_
      refine Ops.nil ?_
      refine thenQ_n ?_
      exact ⟨(2, s.n + t.n), by show 2 - 2 < 2 - 1; omega, ⟨rfl, by show Value.int .i64 ((s.n : Int) + (t.n : Int)) = .int .i64 ((s.n + t.n : Nat) : Int); congr 1, rfl, rfl, rfl, trivial⟩, rfl, by show 2 ≤ 2; omega, rfl⟩
  · obtain rfl : k = 2 := by omega
    obtain rfl : m = s.n + t.n := hm
    refine Cd.exit ?_
    refine thenQ_x ?_
    refine thenQ_x ?_
    refine blockQ_x ?_
    refine thenQ_n ?_
    refine Cd.seq ?_
    refine Cd.region ?_
    refine Ops.mv_int rfl rfl rfl ?_
    refine Ops.call (GrowI_c (s.n + t.n) _ (by omega)) rfl rfl rfl ?_
    rintro _ w2 ⟨A6, c6, rfl, hnc, hS2⟩
    refine Ops.mv_sl rfl rfl rfl ?_
    refine Ops.nil ?_
    refine thenQ_n ?_
    refine Cd.seq ?_
    refine Cd.seq ?_
    refine Cd.region ?_
    refine Ops.mv_sl rfl rfl rfl ?_
    refine Ops.len rfl rfl ?_
    refine Ops.mv_int rfl rfl rfl ?_
    refine Ops.nil ?_
    refine thenQ_n ?_
    refine Cd.block ?_
    refine Cd.loop (α := Nat × Option Addr × Nat × List Int) (fun k => [(6, .slice k.2.1 k.2.2.2.length k.2.2.1), (25, .slice Aq 2 2), (26, .int .i64 2), (27, .int .i64 (k.1 : Int))]) (fun k w' => St w1 w' [CkI 2 k.2.1 k.2.2.2.length k.2.2.1 k.2.2.2] ∧ k.1 ≤ 2 ∧ k.2.2.2 = if k.1 = 0 then [] else if k.1 = 1 then x else x ++ y) (fun k => 2 - k.1) (0, A6, c6, []) ⟨rfl, rfl, rfl, rfl, trivial⟩ ⟨hS2, by show 0 ≤ 2; omega, rfl⟩ ?_
    rintro ⟨k, A6, c6, zs⟩ e w3 ⟨hS3, hk, hm⟩
    dsimp only at hS3 hk hm ⊢
    have hQ3 := hS3.oldR hQ
    refine Cd.seq ?_
    refine Cd.region ?_
    refine Ops.lss rfl rfl rfl ?_
    refine Ops.nil ?_
    refine thenQ_n ?_
    refine Cd.seq ?_
    refine Cd.cond_p _ rfl (fun h2 => ?_) (fun h2 => ?_)
    · rcases (show k = 0 ∨ k = 1 by omega) with rfl | rfl --dup 2
      · obtain rfl : zs = [] := hm
        refine Cd.skip ?_
        refine thenQ_n ?_
        refine Cd.seq ?_
        refine Cd.block ?_
        refine Cd.seq ?_
        refine Cd.region ?_
        refine Ops.idx hQ3.2 rfl rfl rfl (by omega) (by omega) ?_
        refine Ops.ld_sl (i := ((0 : Nat) : Int)) hQ3 rfl (by simp) rfl rfl ?_
        rw [e0]
        refine Ops.mv_sl rfl rfl rfl ?_
        refine Ops.nil ?_
        refine thenQ_n ?_
        refine Cd.region ?_
        refine Ops.mv_sl rfl rfl rfl ?_
        refine Ops.mv_sl rfl rfl rfl ?_
        refine Ops.appI 0 hS3 rfl (hS3.oldI hx) rfl rfl rfl (by simp; omega) (by simp; omega) rfl ?_
        intro A7 c7 w4 hS4
        refine Ops.mv_sl rfl rfl rfl ?_
        refine Ops.nil ?_
        refine blockQ_n ?_
        refine thenQ_n ?_
        refine Cd.region ?_
        refine Ops.add rfl rfl rfl (by omega) ?_
        refine Ops.mv_int rfl rfl rfl ?_
        refine Ops.nil ?_
        refine thenQ_n ?_
        refine ⟨(1, A7, c7, x), by show 2 - 1 < 2 - 0; omega, ⟨by show Value.slice A7 (0 + s.n) c7 = .slice A7 x.length c7; rw [hxl, Nat.zero_add], rfl, rfl, rfl, trivial⟩, ?_, by show 1 ≤ 2; omega, rfl⟩
        show St w1 w4 [CkI 2 A7 x.length c7 x]
        have h5 : St w1 w4 [CkI 2 A7 (0 + s.n) c7 x] := hS4
        rw [hxl]
        rwa [Nat.zero_add] at h5
      · obtain rfl : zs = x := hm
        refine Cd.skip ?_
        refine thenQ_n ?_
        refine Cd.seq ?_
        refine Cd.block ?_
        refine Cd.seq ?_
        refine Cd.region ?_
        refine Ops.idx hQ3.2 rfl rfl rfl (by omega) (by omega) ?_
        refine Ops.ld_sl (i := ((1 : Nat) : Int)) hQ3 rfl (by simp) rfl rfl ?_
        rw [e1]
        refine Ops.mv_sl rfl rfl rfl ?_
        refine Ops.nil ?_
        refine thenQ_n ?_
        refine Cd.region ?_
        refine Ops.mv_sl rfl rfl rfl ?_
        refine Ops.mv_sl rfl rfl rfl ?_
        refine Ops.appI 0 hS3 rfl (hS3.oldI hy) rfl rfl rfl (by omega) (by omega) rfl ?_
        intro A7 c7 w4 hS4
        refine Ops.mv_sl rfl rfl rfl ?_
        refine Ops.nil ?_
        refine blockQ_n ?_
        refine thenQ_n ?_
        refine Cd.region ?_
        refine Ops.add rfl rfl rfl (by omega) ?_
        refine Ops.mv_int rfl rfl rfl ?_
        refine Ops.nil ?_
        refine thenQ_n ?_
        refine ⟨(2, A7, c7, zs ++ y), by show 2 - 2 < 2 - 1; omega, ⟨by show Value.slice A7 (zs.length + t.n) c7 = .slice A7 (zs ++ y).length c7; rw [List.length_append, hyl], rfl, rfl, rfl, trivial⟩, ?_, by show 2 ≤ 2; omega, rfl⟩
        show St w1 w4 [CkI 2 A7 (zs ++ y).length c7 (zs ++ y)]
        rw [List.length_append, hyl]
        exact hS4
    · obtain rfl : k = 2 := by omega
      obtain rfl : zs = x ++ y := hm
      refine Cd.exit ?_
      refine thenQ_x ?_
      refine thenQ_x ?_
      refine blockQ_x ?_
      refine thenQ_n ?_
      refine Cd.seq ?_
      refine Cd.region ?_
      refine Ops.mv_sl rfl rfl rfl ?_
      refine Ops.mv_sl rfl rfl rfl ?_
      refine Ops.nil ?_
      refine thenQ_n ?_
      refine Cd.ret ?_
      refine ret1_s rfl ?_
      exact ⟨A6, c6, rfl, hS3⟩
end Go.Proofs.YtdedegbendjmbaaGreatDoor.Vc
/-
  A chain's boundary made small, walked. Conditions: as each states them.
-/
namespace Go.Proofs.YtdedegbendjmbaaGreatDoor.Vc
open Go.RowKit

section
variable {P : Program} {N : Nat} {ops : Array Oper} {K : Env → World → Prop} {rest : List Oper} {e : Env} {w0 w w' : World} {ks : List Ck} {d : Nat} {ty : TypeId} {pos : String} {af : Array Edge}
theorem Ops.lookGok {κ ν : Type} [DecidableEq κ] {kd : TypeDesc} {kv : κ → Value} {vv : ν → Value} {t kt et : TypeId} {z v : Value} {s b : Nat} [Und P t (.map kt et)] [Und P kt kd] [Inf P et z s b] (KT : KeyT kd kv) {g : Nat} {L : List (κ × ν)} {m ix : Operand} {x : κ} (hR : RdM w g (prV kv vv L)) (hx : ev e m = .map (some g)) (hy : ev e ix = kv x) (hv : ((getA L x).map vv).getD z = v) (hb : Nat.blt d N = true)
    (hK : Ops P N ops K rest (upd e d (.tuple #[v, .bool (getA L x).isSome])) w) : Ops P N ops K (⟨some d, .lookup t m ix true, ty, pos, af, none⟩ :: rest) e w := by
  subst hv
  refine .val (w' := w) ?_ hb hK
  have := run_look (P := P) (t := t) (x := x) KT hR true
  simp [execOp, hx, hy, this]
end

abbrev KE := Int × (SlV × List Int)
def redV (u : SlV × List Int) : Value := .agg #[.slice none 0 0, .slice u.1.a u.1.n u.1.c]
/-- a kept set: its greatest number is its key -/
def KpE (b : Nat) (p : KE) : Prop := (OkX p.2.2 ∧ ∀ e ∈ p.2.2, e < b) ∧ p.2.2.getLast? = some p.1
def spK (M : List KE) : List Nat := M.map fun p => mkb p.2.2
def muX (x : List Int) : Nat := match x.getLast? with | some t => t.toNat + 1 | none => 0
theorem muX_lt {x y : List Int} {t : Int} (h : x.getLast? = some t) (hy : ∀ e ∈ y, 0 ≤ e ∧ e < t) (h0 : 0 ≤ t) : muX y < muX x := by
  unfold muX
  rw [h]
  cases e : y.getLast? with
  | none => show 0 < t.toNat + 1; omega
  | some u =>
    have := hy u (by rw [getLast_snoc e]; simp)
    show u.toNat + 1 < t.toNat + 1
    omega
abbrev bxR (A : Option Addr) (s : SlV) : Ck := Bx 135 2 A [.slice none 0 0, .slice s.a s.n s.c]
theorem mem_rd {w0 w : World} {ks : List Ck} {t : TypeId} {A : Option Addr} {n c : Nat} {xs : List Int} (h : St w0 w ks) (hm : CkI t A n c xs ∈ ks) : RdI w A n xs := by
  obtain ⟨i, hi⟩ := List.mem_iff_getElem?.1 hm
  exact h.rdI i hi

set_option maxHeartbeats 2000000 in
theorem reduce_c (g : Nat) (M : List KE) (s : SlV) (x : List Int) (b : Nat) (w : World) (hM : RdM w g (prV (Value.int .i64) redV M)) (hMr : ∀ p ∈ M, RdI w p.2.1.a p.2.1.n p.2.2 ∧ KpE b p) (hx : RdI w s.a s.n x) (hX : OkX x ∧ ∀ e ∈ x, e < b) (hb : b ≤ 1000000) :
    Ret Tryz.prog 160 [.map (some g), .agg #[.slice none 0 0, .slice s.a s.n s.c]] w (fun v w' => ∃ s' x' X, v = redV (s', x') ∧ (OkX x' ∧ ∀ e ∈ x', e < b) ∧ mkb x ^^^ mkb x' ∈ sums (spK M) ∧ (∀ t, x'.getLast? = some t → getA M t = none) ∧ St w w' X ∧ (s' = s ∧ x' = x ∨ CkI 2 s'.a s'.n s'.c x' ∈ X)) := by
  refine Ret.of_cd Tryz.func160 rfl Tryz.ntmps160 rfl (postc rfl rfl) ?_
  refine Cd.seq ?_
  refine Cd.region ?_
  refine Ops.box2 (St.refl w) rfl rfl ?_
  intro P3 w1 hS1
  refine Ops.new2 hS1 rfl ?_
  intro P4 w2 hS2
  refine Ops.nil ?_
  refine thenQ_n ?_
  refine Cd.seq ?_
  refine Cd.block ?_
  have hS2 : St w w2 (bxR P3 s :: bxR P4 ⟨none, 0, 0⟩ :: []) := hS2.swap
  refine Cd.loop (α := SlV × List Int × List Ck) (fun z => [(0, .map (some g)), (3, .pointer P3), (4, .pointer P4)])
    (fun z w' => (OkX z.2.1 ∧ ∀ e ∈ z.2.1, e < b) ∧ mkb x ^^^ mkb z.2.1 ∈ sums (spK M) ∧ (z.1 = s ∧ z.2.1 = x ∨ CkI 2 z.1.a z.1.n z.1.c z.2.1 ∈ z.2.2) ∧ St w w' (bxR P3 z.1 :: bxR P4 ⟨none, 0, 0⟩ :: z.2.2)) (fun z => muX z.2.1) (s, x, []) ⟨rfl, rfl, rfl, trivial⟩ ⟨hX, by show mkb x ^^^ mkb x ∈ _; rw [Nat.xor_self]; exact sums_zero _, .inl ⟨rfl, rfl⟩, hS2⟩ ?_
  clear hS2 hS1
  rintro ⟨u, y, X⟩ e w3 ⟨hy, hsp, hor, hS⟩
  dsimp only at hy hsp hor hS ⊢
  have hyR : RdI w3 u.a u.n y := by
    rcases hor with ⟨rfl, rfl⟩ | h
    · exact hS.oldI hx
    · exact mem_rd hS (List.mem_cons_of_mem _ (List.mem_cons_of_mem _ h))
  have hyl := hyR.1
  have hyb := hy.1.len hy.2
  have hB3 := hS.rd 0 rfl
  have hB4 := hS.rd 1 rfl
  refine Cd.seq ?_
  refine Cd.seq ?_
  refine Cd.region ?_
  refine Ops.fld hB3 rfl rfl rfl rfl inferInstance ?_
  skip
  refine Ops.ldf_s hB3 rfl rfl rfl rfl rfl ?_
  refine Ops.len rfl rfl ?_
  refine Ops.gtr rfl rfl rfl ?_
  refine Ops.nil ?_
  refine thenQ_n ?_
  refine Cd.cond_p _ rfl (fun h1 => ?_) (fun h1 => ?_)
  · obtain ⟨m, hm⟩ : ∃ m, y.length = m + 1 := ⟨y.length - 1, by omega⟩
    have hgl := last_gi hm
    have e1 : ((u.n : Int) - 1) = (m : Int) := by omega
    have h0 := hy.1.2 _ (show gi y (m : Int) ∈ y by rw [gi_mem (by omega)]; exact List.getElem_mem _)
    generalize ht : gi y (m : Int) = t at *
    refine Cd.skip ?_
    refine thenQ_n ?_
    refine Cd.block ?_
    refine Cd.seq ?_
    refine Cd.region ?_
    refine Ops.mv_map rfl rfl rfl ?_
    refine Ops.fld hB3 rfl rfl rfl rfl inferInstance ?_
    skip
    refine Ops.ldf_s hB3 rfl rfl rfl rfl rfl ?_
    skip
    refine Ops.fld hB3 rfl rfl rfl rfl inferInstance ?_
    skip
    refine Ops.ldf_s hB3 rfl rfl rfl rfl rfl ?_
    refine Ops.len rfl rfl ?_
    refine Ops.sub rfl rfl rfl (by omega) ?_
    refine Ops.idx hyR.2 rfl rfl rfl (by omega) (by omega) ?_
    refine Ops.ld_int hyR rfl (by omega) rfl rfl ?_
    rw [e1, ht]
    cases hg : getA M t with
    | none => --dup 2
      refine Ops.lookGok (v := .agg #[.slice none 0 0, .slice none 0 0]) keyI (x := t) (hS.oldM hM) rfl rfl (by rw [hg]; try rfl) rfl ?_
      rw [hg]
      refine Ops.mv_tup rfl rfl rfl ?_
      refine Ops.extract rfl rfl rfl ?_
      refine Ops.extract rfl rfl rfl ?_
      refine Ops.new2 hS rfl ?_
      intro P5 w4 hS4
      refine Ops.st_agg 2 0 hS4 rfl rfl rfl rfl rfl rfl rfl ?_
      intro w5 hS5
      have hS5 : St w w5 (bxR P5 ⟨none, 0, 0⟩ :: bxR P3 u :: bxR P4 ⟨none, 0, 0⟩ :: X) := hS5
      refine Ops.mv_bool rfl rfl rfl ?_
      refine Ops.nil ?_
      refine thenQ_n ?_
      refine Cd.seq ?_
      refine Cd.seq ?_
      refine Cd.region ?_
      refine Ops.mv_bool rfl rfl rfl ?_
      first | refine Ops.not_p rfl rfl ?_ | refine Ops.not rfl rfl ?_
      refine Ops.nil ?_
      refine thenQ_n ?_
      refine Cd.cond_t rfl ?_
      refine Cd.seq ?_
      refine Cd.region ?_
      refine Ops.ld_agg 1 (hS5.rd 1 rfl) rfl rfl rfl ?_
      refine Ops.st_agg 2 2 hS5 rfl rfl rfl rfl rfl rfl rfl ?_
      intro w6 hS6
      have hS6 : St w w6 (bxR P5 ⟨none, 0, 0⟩ :: bxR P3 u :: bxR P4 u :: X) := hS6
      refine Ops.nil ?_
      refine thenQ_n ?_
      refine Cd.ret ?_
      refine thenQ_r ?_
      refine blockQ_r ?_
      refine thenQ_r ?_
      refine blockQ_r ?_
      refine thenQ_r ?_
      skip
      refine ⟨P4, _, rfl, hS6.rd 2 rfl, u, y, _, rfl, hy, hsp, fun t' h' => ?_, hS6, ?_⟩
      · rw [hgl] at h'; cases h'; exact hg
      · exact hor.imp id fun h => by simp [h]
    | some p =>
      have hpm := getA_some_mem hg
      obtain ⟨hpR, hpo, hpl⟩ := hMr _ hpm
      dsimp only at hpR hpo hpl
      obtain ⟨s2, z⟩ := p
      dsimp only at hpR hpo hpl
      refine Ops.lookGok (v := .agg #[.slice none 0 0, .slice s2.a s2.n s2.c]) keyI (x := t) (hS.oldM hM) rfl rfl (by rw [hg]; try rfl) rfl ?_
      rw [hg]
      refine Ops.mv_tup rfl rfl rfl ?_
      refine Ops.extract rfl rfl rfl ?_
      refine Ops.extract rfl rfl rfl ?_
      refine Ops.new2 hS rfl ?_
      intro P5 w4 hS4
      refine Ops.st_agg 2 0 hS4 rfl rfl rfl rfl rfl rfl rfl ?_
      intro w5 hS5
      have hS5 : St w w5 (bxR P5 s2 :: bxR P3 u :: bxR P4 ⟨none, 0, 0⟩ :: X) := hS5
      refine Ops.mv_bool rfl rfl rfl ?_
      refine Ops.nil ?_
      refine thenQ_n ?_
      refine Cd.seq ?_
      refine Cd.seq ?_
      refine Cd.region ?_
      refine Ops.mv_bool rfl rfl rfl ?_
      first | refine Ops.not_p rfl rfl ?_ | refine Ops.not rfl rfl ?_
      refine Ops.nil ?_
      refine thenQ_n ?_
      refine Cd.cond_f rfl ?_
      have hzl := hpR.1
      have hzR := hS5.oldI hpR
      have hyR5 : RdI w5 u.a u.n y := by
        rcases hor with ⟨rfl, rfl⟩ | h
        · exact hS5.oldI hx
        · exact mem_rd hS5 (List.mem_cons_of_mem _ (List.mem_cons_of_mem _ (List.mem_cons_of_mem _ h)))
      have hzb := hpo.1.len hpo.2
      have hst : stX y z = oddP (srt (y ++ z)) := rfl
      have hF3 := hS5.rd 1 rfl
      have hF5 := hS5.rd 0 rfl
      clear hS hS4 hB3 hB4
      refine Cd.skip ?_
      refine thenQ_n ?_
      refine Cd.drawN [13, 15] [.ex (.pointer (ptrAt (P3) 0)), .ex (.slice (none) (0) (0)), .ex (.pointer (ptrAt (P5) 0)), .ex (.slice (none) (0) (0)), .pr (fun v w' => ∃ A, v = .slice A 2 2 ∧ RdR w' A 2 [slNil, slNil]), .pr (fun v w' => ∃ A c, v = .slice A 0 c), .ex (.slice (none) (0) (0)), .ex (.pointer (ptrAt (P3) 1)), .ex (.slice (u.a) (u.n) (u.c)), .ex (.pointer (ptrAt (P5) 1)), .ex (.slice (s2.a) (s2.n) (s2.c)), .pr (fun v w' => ∃ A, v = .slice A 2 2 ∧ RdR w' A 2 [u, s2]), .pr (fun v w' => ∃ A c, v = .slice A (y ++ z).length c ∧ St w5 w' [CkI 2 A (y ++ z).length c (y ++ z)]), .pr (fun v w' => ∃ A c Ac cc, v = .slice A (stX y z).length c ∧ St w w' (CkI 2 A (stX y z).length c (stX y z) :: CkI 2 Ac (y ++ z).length cc (srt (y ++ z)) :: bxR P5 s2 :: bxR P3 u :: bxR P4 ⟨none, 0, 0⟩ :: X)), .pr (fun v w' => ∃ A c Ac cc, v = .agg #[.slice none 0 0, .slice A (stX y z).length c] ∧ St w w' (CkI 2 A (stX y z).length c (stX y z) :: CkI 2 Ac (y ++ z).length cc (srt (y ++ z)) :: bxR P5 s2 :: bxR P3 u :: bxR P4 ⟨none, 0, 0⟩ :: X)), .pr (fun _ w' => ∃ A c Ac cc, St w w' (CkI 2 A (stX y z).length c (stX y z) :: CkI 2 Ac (y ++ z).length cc (srt (y ++ z)) :: bxR P5 s2 :: bxR P3 ⟨A, (stX y z).length, c⟩ :: bxR P4 ⟨none, 0, 0⟩ :: X))] (by kernel_rfl) (by kernel_rfl) (List.forall_mem_cons.2 ⟨Yd.lasts_ex _, (List.forall_mem_cons.2 ⟨Yd.lasts_ex _, (List.forall_mem_cons.2 ⟨Yd.lasts_ex _, (List.forall_mem_cons.2 ⟨Yd.lasts_ex _, (List.forall_mem_cons.2 ⟨Yd.lasts_pr (fun v w w' h hb => by obtain ⟨A, hv, hT⟩ := h; exact ⟨A, hv, hT.later hb⟩), (List.forall_mem_cons.2 ⟨Yd.lasts_pr (fun v w w' h hb => h), (List.forall_mem_cons.2 ⟨Yd.lasts_ex _, (List.forall_mem_cons.2 ⟨Yd.lasts_ex _, (List.forall_mem_cons.2 ⟨Yd.lasts_ex _, (List.forall_mem_cons.2 ⟨Yd.lasts_ex _, (List.forall_mem_cons.2 ⟨Yd.lasts_ex _, (List.forall_mem_cons.2 ⟨Yd.lasts_pr (fun v w w' h hb => by obtain ⟨A, hv, hT⟩ := h; exact ⟨A, hv, hT.later hb⟩), (List.forall_mem_cons.2 ⟨Yd.lasts_pr (fun v w w' h hb => by obtain ⟨A, c, hv, hT⟩ := h; exact ⟨A, c, hv, hT.later hb⟩), (List.forall_mem_cons.2 ⟨Yd.lasts_pr (fun v w w' h hb => by obtain ⟨A, c, Ac, cc, hv, hT⟩ := h; exact ⟨A, c, Ac, cc, hv, hT.later hb⟩), (List.forall_mem_cons.2 ⟨Yd.lasts_pr (fun v w w' h hb => by obtain ⟨A, c, Ac, cc, hv, hT⟩ := h; exact ⟨A, c, Ac, cc, hv, hT.later hb⟩), (List.forall_mem_cons.2 ⟨Yd.lasts_pr (fun v w w' h hb => by obtain ⟨A, c, Ac, cc, hT⟩ := h; exact ⟨A, c, Ac, cc, hT.later hb⟩), (fun _ h => by cases h)⟩)⟩)⟩)⟩)⟩)⟩)⟩)⟩)⟩)⟩)⟩)⟩)⟩)⟩)⟩)⟩) ⟨?_, ?_, ?_, ?_, ?_, ?_, ?_, ?_, ?_, ?_, ?_, ?_, ?_, ?_, ?_, ?_, trivial⟩ ?_
      · intro e1 w1 cc hlo hhi hb0 hp hun hq
        show Ops _ _ _ _ _ _ _
        replace hlo := le_of_lo hlo (b := 0) (by kernel_rfl)
        replace hhi := le_of_hi hhi (b := 0) (by kernel_rfl)
        obtain rfl : cc = 0 := by omega
        have hb := hb0 rfl
        refine Ops.fld (hF3.below hb) rfl rfl rfl rfl inferInstance ?_
        refine Ops.nil ?_
        exact AfterN.dn rfl (Below.refl _ _) (by exact rfl)
      · intro e1 w1 cc hlo hhi hb0 hp hun hq
        show Ops _ _ _ _ _ _ _
        replace hlo := le_of_lo hlo (b := 0) (by kernel_rfl)
        replace hhi := le_of_hi hhi (b := 0) (by kernel_rfl)
        obtain rfl : cc = 0 := by omega
        have hb := hb0 rfl
        refine Ops.ldf_s (hF3.below hb) rfl rfl rfl rfl rfl ?_
        refine Ops.nil ?_
        exact AfterN.dn rfl (Below.refl _ _) (by exact rfl)
      · intro e1 w1 cc hlo hhi hb0 hp hun hq
        show Ops _ _ _ _ _ _ _
        replace hlo := le_of_lo hlo (b := 0) (by kernel_rfl)
        replace hhi := le_of_hi hhi (b := 0) (by kernel_rfl)
        obtain rfl : cc = 0 := by omega
        have hb := hb0 rfl
        refine Ops.fld (hF5.below hb) rfl rfl rfl rfl inferInstance ?_
        refine Ops.nil ?_
        exact AfterN.dn rfl (Below.refl _ _) (by exact rfl)
      · intro e1 w1 cc hlo hhi hb0 hp hun hq
        show Ops _ _ _ _ _ _ _
        replace hlo := le_of_lo hlo (b := 0) (by kernel_rfl)
        replace hhi := le_of_hi hhi (b := 0) (by kernel_rfl)
        obtain rfl : cc = 0 := by omega
        have hb := hb0 rfl
        refine Ops.ldf_s (hF5.below hb) rfl rfl rfl rfl rfl ?_
        refine Ops.nil ?_
        exact AfterN.dn rfl (Below.refl _ _) (by exact rfl)
      · intro e1 w1 cc hlo hhi hb0 hp hun hq
        show Ops _ _ _ _ _ _ _
        refine Ops.bs2 (St.refl _) rfl rfl rfl rfl rfl rfl ?_
        intro A w9 hst9
        refine Ops.nil ?_
        exact AfterN.dn rfl hst9.below ⟨A, rfl, St.rdR (show St _ w9 (CkR 25 A 2 2 [slNil, slNil] :: _) from hst9) 0 rfl⟩
      · intro e1 w1 cc hlo hhi hb0 hp hun hq
        show Ops _ _ _ _ _ _ _
        replace hlo := le_of_lo hlo (b := 0) (by kernel_rfl)
        replace hhi := le_of_hi hhi (b := 0) (by kernel_rfl)
        obtain rfl : cc = 0 := by omega
        have hb := hb0 rfl
        obtain ⟨A, h31, hT⟩ := (hp 4 _ _ (by kernel_rfl) rfl rfl (by kernel_rfl))
        refine Ops.call (ConcatI_c A slNil slNil [] [] _ hT RdI.nil RdI.nil (Nat.zero_le _)) rfl (by exact congrArg (fun v => [v]) h31) rfl ?_
        rintro _ w9 ⟨A2, c2, rfl, hst9⟩
        refine Ops.nil ?_
        exact AfterN.dn rfl hst9.below ⟨A2, c2, rfl⟩
      · intro e1 w1 cc hlo hhi hb0 hp hun hq
        show Ops _ _ _ _ _ _ _
        replace hlo := le_of_lo hlo (b := 0) (by kernel_rfl)
        replace hhi := le_of_hi hhi (b := 0) (by kernel_rfl)
        obtain rfl : cc = 0 := by omega
        have hb := hb0 rfl
        obtain ⟨A, c, h32⟩ := (hp 5 _ _ (by kernel_rfl) rfl rfl (by kernel_rfl))
        refine Ops.call (oddOf0_c A c _) rfl (by exact congrArg (fun v => [v]) h32) rfl ?_
        rintro _ w9 ⟨rfl, rfl⟩
        refine Ops.nil ?_
        exact AfterN.dn rfl (Below.refl _ _) (by exact rfl)
      · intro e1 w1 cc hlo hhi hb0 hp hun hq
        show Ops _ _ _ _ _ _ _
        replace hlo := le_of_lo hlo (b := 0) (by kernel_rfl)
        replace hhi := le_of_hi hhi (b := 0) (by kernel_rfl)
        obtain rfl : cc = 0 := by omega
        have hb := hb0 rfl
        refine Ops.fld (hF3.below hb) rfl rfl rfl rfl inferInstance ?_
        refine Ops.nil ?_
        exact AfterN.dn rfl (Below.refl _ _) (by exact rfl)
      · intro e1 w1 cc hlo hhi hb0 hp hun hq
        show Ops _ _ _ _ _ _ _
        replace hlo := le_of_lo hlo (b := 0) (by kernel_rfl)
        replace hhi := le_of_hi hhi (b := 0) (by kernel_rfl)
        obtain rfl : cc = 0 := by omega
        have hb := hb0 rfl
        refine Ops.ldf_s (hF3.below hb) rfl rfl rfl rfl rfl ?_
        refine Ops.nil ?_
        exact AfterN.dn rfl (Below.refl _ _) (by exact rfl)
      · intro e1 w1 cc hlo hhi hb0 hp hun hq
        show Ops _ _ _ _ _ _ _
        replace hlo := le_of_lo hlo (b := 0) (by kernel_rfl)
        replace hhi := le_of_hi hhi (b := 0) (by kernel_rfl)
        obtain rfl : cc = 0 := by omega
        have hb := hb0 rfl
        refine Ops.fld (hF5.below hb) rfl rfl rfl rfl inferInstance ?_
        refine Ops.nil ?_
        exact AfterN.dn rfl (Below.refl _ _) (by exact rfl)
      · intro e1 w1 cc hlo hhi hb0 hp hun hq
        show Ops _ _ _ _ _ _ _
        replace hlo := le_of_lo hlo (b := 0) (by kernel_rfl)
        replace hhi := le_of_hi hhi (b := 0) (by kernel_rfl)
        obtain rfl : cc = 0 := by omega
        have hb := hb0 rfl
        refine Ops.ldf_s (hF5.below hb) rfl rfl rfl rfl rfl ?_
        refine Ops.nil ?_
        exact AfterN.dn rfl (Below.refl _ _) (by exact rfl)
      · intro e1 w1 cc hlo hhi hb0 hp hun hq
        show Ops _ _ _ _ _ _ _
        refine Ops.bs2 (St.refl _) rfl rfl rfl rfl rfl rfl ?_
        intro A w9 hst9
        refine Ops.nil ?_
        exact AfterN.dn rfl hst9.below ⟨A, rfl, St.rdR (show St _ w9 (CkR 25 A 2 2 [u, s2] :: _) from hst9) 0 rfl⟩
      · intro e1 w1 cc hlo hhi hb0 hp hun hq
        show Ops _ _ _ _ _ _ _
        replace hlo := le_of_lo hlo (b := 0) (by kernel_rfl)
        replace hhi := le_of_hi hhi (b := 0) (by kernel_rfl)
        obtain rfl : cc = 0 := by omega
        have hb := hb0 rfl
        obtain ⟨A, h38, hT⟩ := (hp 11 _ _ (by kernel_rfl) rfl rfl (by kernel_rfl))
        refine Ops.call (ConcatI_c A u s2 y z _ hT (hyR5.later hb) (hzR.later hb) (by omega)) rfl (by exact congrArg (fun v => [v]) h38) rfl ?_
        rintro _ w9 ⟨A2, c2, rfl, hst9⟩
        refine Ops.nil ?_
        exact AfterN.dn rfl hst9.below ⟨A2, c2, rfl, by have := ((St.refl w5).later hb).call hst9; rwa [List.append_nil] at this⟩
      · intro e1 w1 cc hlo hhi hb0 hp hun hq
        show Ops _ _ _ _ _ _ _
        replace hlo := le_of_lo hlo (b := 0) (by kernel_rfl)
        replace hhi := le_of_hi hhi (b := 0) (by kernel_rfl)
        obtain rfl : cc = 0 := by omega
        have hb := hb0 rfl
        obtain ⟨Ac, cc, h39, hT⟩ := (hp 12 _ _ (by kernel_rfl) rfl rfl (by kernel_rfl))
        refine Ops.call (oddOf_c 0 (hS5.call hT) rfl (by rw [List.length_append]; omega)) rfl (by exact congrArg (fun v => [v]) h39) rfl ?_
        rintro _ w9 ⟨A2, c2, rfl, hS9⟩
        refine Ops.nil ?_
        exact AfterT.dn rfl ⟨A2, c2, Ac, cc, rfl, hS9⟩
      · intro e1 w1 cc hlo hhi hb0 hp hun hq
        show Ops _ _ _ _ _ _ _
        replace hlo := le_of_lo hlo (b := 1) (by kernel_rfl)
        replace hhi := le_of_hi hhi (b := 1) (by kernel_rfl)
        obtain rfl : cc = 1 := by omega
        have hph := hp 13 _ _ (by kernel_rfl) rfl rfl (by kernel_rfl)
        obtain ⟨A, c, Ac, cc, h40, hT⟩ := (hp 13 _ _ (by kernel_rfl) rfl rfl (by kernel_rfl))
        refine Ops.bld2c (by exact inferInstance) (by exact inferInstance) rfl rfl rfl (by exact h40) rfl rfl rfl ?_
        refine Ops.nil ?_
        exact AfterN.dn rfl (Below.refl _ _) ⟨A, c, Ac, cc, rfl, hT⟩
      · intro e1 w1 cc hlo hhi hb0 hp hun hq
        show Ops _ _ _ _ _ _ _
        replace hlo := le_of_lo hlo (b := 1) (by kernel_rfl)
        replace hhi := le_of_hi hhi (b := 1) (by kernel_rfl)
        obtain rfl : cc = 1 := by omega
        have hph := hp 13 _ _ (by kernel_rfl) rfl rfl (by kernel_rfl)
        obtain ⟨A, c, Ac, cc, h41, hT⟩ := (hp 14 _ _ (by kernel_rfl) rfl rfl (by kernel_rfl))
        refine Ops.st_agg 2 3 hT rfl rfl (by exact h41) rfl rfl rfl rfl ?_
        intro w9 hS9
        refine Ops.nil ?_
        exact AfterT.st rfl ⟨A, c, Ac, cc, hS9⟩
      intro _ w7 _ hu
      obtain ⟨A, c, Ac, cc, hT⟩ := hu 15 _ rfl (by kernel_rfl)
      have hso := stX_ok hy.1 hpo.1
      refine blockQ_n ?_
      refine thenQ_n ?_
      refine ⟨(⟨A, (stX y z).length, c⟩, stX y z, CkI 2 A (stX y z).length c (stX y z) :: CkI 2 Ac (y ++ z).length cc (srt (y ++ z)) :: bxR P5 s2 :: X), ?_, ⟨rfl, rfl, rfl, trivial⟩, ⟨hso, fun e he => ?_⟩, ?_, .inr (by simp), ?_⟩
      · exact muX_lt hgl (fun e he => ⟨hso.2 e he, stX_lt hy.1 hpo.1 hgl hpl e he⟩) h0
      · rcases stX_sub e he with h | h
        · exact hy.2 e h
        · exact hpo.2 e h
      · show mkb x ^^^ mkb (stX y z) ∈ _
        rw [stX_mkb, ← Nat.xor_assoc]
        exact sums_xor hsp (sums_self (List.mem_map.2 ⟨_, hpm, rfl⟩))
      · refine hT.perm ?_
        show ([_, _, _] ++ [bxR P3 _, bxR P4 _] ++ X).Perm ([bxR P3 _, bxR P4 _] ++ [_, _, _] ++ X)
        exact List.perm_append_comm.append_right X
  · have hnil : y = [] := List.eq_nil_of_length_eq_zero (by omega)
    refine Cd.exit ?_
    refine thenQ_x ?_
    refine thenQ_x ?_
    refine blockQ_x ?_
    refine thenQ_n ?_
    refine Cd.seq ?_
    refine Cd.region ?_
    refine Ops.ld_agg 1 hB3 rfl rfl rfl ?_
    refine Ops.st_agg 2 1 hS rfl rfl rfl rfl rfl rfl rfl ?_
    intro w6 hS6
    have hS6 : St w w6 (bxR P3 u :: bxR P4 u :: X) := hS6
    refine Ops.nil ?_
    refine thenQ_n ?_
    refine Cd.ret ?_
    skip
    refine ⟨P4, _, rfl, hS6.rd 1 rfl, u, y, _, rfl, hy, hsp, fun t' h' => ?_, hS6, hor.imp id fun h => by simp [h]⟩
    rw [hnil] at h'; cases h'
end Go.Proofs.YtdedegbendjmbaaGreatDoor.Vc
/-
  The library's CompactFunc on rows of lists by their equality, walked. Conditions: that the lists can be read while the row is turned about.
-/
namespace Go.Proofs.YtdedegbendjmbaaGreatDoor.Vc
open Go.RowKit

def kepC (xs : Nat → List Int) (n : Nat) : List Nat := (List.range n).filter fun j => decide (j = 0 ∨ xs j ≠ xs (j - 1))
theorem kepC_succ (xs : Nat → List Int) (n : Nat) : kepC xs (n + 1) = kepC xs n ++ (if n = 0 ∨ xs n ≠ xs (n - 1) then [n] else []) := by
  unfold kepC
  rw [List.range_succ, List.filter_append]
  congr 1
  by_cases h : n = 0 ∨ xs n ≠ xs (n - 1) <;> simp [h]
theorem kepC_all {xs : Nat → List Int} {n : Nat} (h : ∀ j, j < n → j = 0 ∨ xs j ≠ xs (j - 1)) : kepC xs n = List.range n := by
  unfold kepC
  rw [List.filter_eq_self]
  intro j hj
  exact decide_eq_true (h j (List.mem_range.1 hj))
theorem kepC_len (xs : Nat → List Int) (n : Nat) : (kepC xs n).length ≤ n := by
  have := List.length_filter_le (fun j => decide (j = 0 ∨ xs j ≠ xs (j - 1))) (List.range n)
  unfold kepC
  simpa using this

theorem compactF_c {w0 w : World} {ks : List Ck} (i : Nat) {t : TypeId} {A : Option Addr} {n c : Nat} {ss : List SlV} (hS : St w0 w ks) (hk : ks[i]? = some (CkR t A n c ss)) (hn : n ≤ 4000000000000) (xs : Nat → List Int) (hcap : ∀ a, a < n → (sv ss a).n ≤ 9223372036854775807)
    (hrow : ∀ (w' : World) (q : List Nat), q.length = n → (∀ j ∈ q, j < n) → St w0 w' (ks.set i (CkR t A n c (q.map (sv ss)))) → ∀ a, a < n → RdI w' (sv ss a).a (sv ss a).n (xs a)) :
    Ret Tryz.prog 141 [.slice A n c, .func (.func 142) #[] #[]] w (fun v w' => v = .slice A (kepC xs n).length c ∧ St w0 w' (ks.set i (CkR t A (kepC xs n).length c ((kepC xs n).map (sv ss))))) := by
  have hil : i < ks.length := (List.getElem?_eq_some_iff.1 hk).1
  obtain ⟨h1, h2, h3, -⟩ := hS.getC hk (isM_R _)
  have hsl : ss.length = n := by have : (ss.map SlV.v).length = n := h1; simpa using this
  have h2 : n ≤ c := h2
  have h3 : c ≤ maxLen := h3
  have hrng : (List.range n).map (sv ss) = ss := by
    apply List.ext_getElem
    · simp [hsl]
    · intro j h1 h2
      simp [sv, List.getD_eq_getElem?_getD, h2]
  have hid : ks.set i (CkR t A n c ((List.range n).map (sv ss))) = ks := by rw [hrng, set_id hk]
  have hSi : ∀ {w' : World}, St w0 w' ks → St w0 w' (ks.set i (CkR t A n c ((List.range n).map (sv ss)))) := fun h => by rw [hid]; exact h
  have get : ∀ l, (ks.set i l)[i]? = some l := fun l => by simp [hil]
  have hrg0 : ∀ j : Nat, rg ss (j : Int) = sv ss j := fun j => rfl
  have hrd : ∀ {w' : World}, St w0 w' ks → ∀ a, a < n → RdI w' (sv ss a).a (sv ss a).n (xs a) := fun h => hrow _ (List.range n) (by simp) (fun j hj => List.mem_range.1 hj) (hSi h)
  refine Ret.of_cd Tryz.func141 rfl Tryz.ntmps141 rfl (post1 rfl) ?_
  refine Cd.seq ?_
  refine Cd.region ?_
  refine Ops.mv_sl rfl rfl rfl ?_
  refine Ops.nil ?_
  refine thenQ_n ?_
  refine Cd.seq ?_
  refine Cd.seq ?_
  refine Cd.region ?_
  refine Ops.mv_sl rfl rfl rfl ?_
  refine Ops.len rfl rfl ?_
  refine Ops.lss rfl rfl rfl ?_
  refine Ops.nil ?_
  refine thenQ_n ?_
  refine Cd.cond_p _ rfl (fun h4 => ?_) (fun h4 => ?_)
  · have hall : kepC xs n = List.range n := kepC_all fun j hj => .inl (by omega)
    refine Cd.seq ?_
    refine Cd.region ?_
    refine Ops.mv_sl rfl rfl rfl ?_
    refine Ops.mv_sl rfl rfl rfl ?_
    refine Ops.nil ?_
    refine thenQ_n ?_
    refine Cd.ret ?_
    refine thenQ_r ?_
    refine ret1_s rfl ?_
    rw [hall, List.length_range, hid]
    exact ⟨rfl, hS⟩
  · refine Cd.skip ?_
    refine thenQ_n ?_
    refine Cd.seq ?_
    refine Cd.seq ?_
    refine Cd.region ?_
    refine Ops.mv_int rfl rfl rfl ?_
    refine Ops.nil ?_
    refine thenQ_n ?_
    refine Cd.block ?_
    refine Cd.loop (α := Nat) (fun k => [(0, .slice A n c), (1, .func (.func 142) #[] #[]), (5, .int .i64 (k : Int))]) (fun k w' => 1 ≤ k ∧ k ≤ n ∧ (∀ j, j < k → j = 0 ∨ xs j ≠ xs (j - 1)) ∧ St w0 w' ks) (fun k => n - k) 1 ⟨rfl, rfl, rfl, trivial⟩ ⟨Nat.le_refl _, by omega, fun j hj => .inl (by omega), hS⟩ ?_
    rintro k e w1 ⟨hk1, hkn, hne, hS1⟩
    refine Cd.seq ?_
    refine Cd.seq ?_
    refine Cd.region ?_
    refine Ops.mv_int rfl rfl rfl ?_
    refine Ops.mv_sl rfl rfl rfl ?_
    refine Ops.len rfl rfl ?_
    refine Ops.lss rfl rfl rfl ?_
    refine Ops.nil ?_
    refine thenQ_n ?_
    refine Cd.cond_p _ rfl (fun h5 => ?_) (fun h5 => ?_)
    · have hR1 := hS1.rdR i hk
      have hra : RdI w1 (rg ss (k : Int)).a (rg ss (k : Int)).n (xs k) := hrd hS1 k (by omega)
      have hrb : RdI w1 (rg ss ((k : Int) - 1)).a (rg ss ((k : Int) - 1)).n (xs (k - 1)) := by
        rw [show (k : Int) - 1 = ((k - 1 : Nat) : Int) by omega]
        exact hrd hS1 (k - 1) (by omega)
      have hca : (rg ss (k : Int)).n ≤ 9223372036854775807 := hcap k (by omega)
      refine Cd.skip ?_
      refine thenQ_n ?_
      refine Cd.seq ?_
      refine Cd.block ?_
      refine Cd.seq ?_
      by_cases h6 : xs k = xs (k - 1)
      · --dup 2
        refine Cd.draw [.ex (.func (.func 142) #[] #[]), .ex (.slice (A) (n) (c)), .ex (.int .i64 ((k : Int))), .ex (.pointer (ptrAt (A) ((k : Int)).toNat)), .ex (.slice ((rg (ss) ((k : Int))).a) ((rg (ss) ((k : Int))).n) ((rg (ss) ((k : Int))).c)), .ex (.slice (A) (n) (c)), .ex (.int .i64 ((k : Int))), .ex (.int .i64 (((k : Int)) - ((1 : Int)))), .ex (.pointer (ptrAt (A) (((k : Int)) - ((1 : Int))).toNat)), .ex (.slice ((rg (ss) (((k : Int)) - ((1 : Int)))).a) ((rg (ss) (((k : Int)) - ((1 : Int)))).n) ((rg (ss) (((k : Int)) - ((1 : Int)))).c)), .ex (.bool (true))] (by kernel_rfl) (by kernel_rfl) rfl (List.forall_mem_cons.2 ⟨Yd.lasts_ex _, (List.forall_mem_cons.2 ⟨Yd.lasts_ex _, (List.forall_mem_cons.2 ⟨Yd.lasts_ex _, (List.forall_mem_cons.2 ⟨Yd.lasts_ex _, (List.forall_mem_cons.2 ⟨Yd.lasts_ex _, (List.forall_mem_cons.2 ⟨Yd.lasts_ex _, (List.forall_mem_cons.2 ⟨Yd.lasts_ex _, (List.forall_mem_cons.2 ⟨Yd.lasts_ex _, (List.forall_mem_cons.2 ⟨Yd.lasts_ex _, (List.forall_mem_cons.2 ⟨Yd.lasts_ex _, (List.forall_mem_cons.2 ⟨Yd.lasts_ex _, (fun _ h => by cases h)⟩)⟩)⟩)⟩)⟩)⟩)⟩)⟩)⟩)⟩)⟩) ⟨?_, ?_, ?_, ?_, ?_, ?_, ?_, ?_, ?_, ?_, ?_, trivial⟩ ?_
        · intro e1 w1 hb hp hun
          refine Ops.mv_fn rfl rfl rfl ?_
          refine Ops.nil ?_
          exact After.dn (Below.refl _ _) (by exact rfl)
        · intro e1 w1 hb hp hun
          refine Ops.mv_sl rfl rfl rfl ?_
          refine Ops.nil ?_
          exact After.dn (Below.refl _ _) (by exact rfl)
        · intro e1 w1 hb hp hun
          refine Ops.mv_int rfl rfl rfl ?_
          refine Ops.nil ?_
          exact After.dn (Below.refl _ _) (by exact rfl)
        · intro e1 w1 hb hp hun
          refine Ops.idx (hR1.later hb).2 rfl rfl rfl (by omega) (by omega) ?_
          refine Ops.nil ?_
          exact After.dn (Below.refl _ _) (by exact rfl)
        · intro e1 w1 hb hp hun
          refine Ops.ld_sl (hR1.later hb) rfl (by omega) rfl rfl ?_
          refine Ops.nil ?_
          exact After.dn (Below.refl _ _) (by exact rfl)
        · intro e1 w1 hb hp hun
          refine Ops.mv_sl rfl rfl rfl ?_
          refine Ops.nil ?_
          exact After.dn (Below.refl _ _) (by exact rfl)
        · intro e1 w1 hb hp hun
          refine Ops.mv_int rfl rfl rfl ?_
          refine Ops.nil ?_
          exact After.dn (Below.refl _ _) (by exact rfl)
        · intro e1 w1 hb hp hun
          refine Ops.sub rfl rfl rfl (by omega) ?_
          refine Ops.nil ?_
          exact After.dn (Below.refl _ _) (by exact rfl)
        · intro e1 w1 hb hp hun
          refine Ops.idx (hR1.later hb).2 rfl rfl rfl (by omega) (by omega) ?_
          refine Ops.nil ?_
          exact After.dn (Below.refl _ _) (by exact rfl)
        · intro e1 w1 hb hp hun
          refine Ops.ld_sl (hR1.later hb) rfl (by omega) rfl rfl ?_
          refine Ops.nil ?_
          exact After.dn (Below.refl _ _) (by exact rfl)
        · intro e1 w1 hb hp hun
          refine Ops.call (Equal_c _ _ _ (xs k) _ _ _ (xs (k - 1)) _ (hra.later hb) (hrb.later hb) hca) rfl rfl rfl ?_
          rintro _ w2 ⟨rfl, hst⟩
          refine Ops.nil ?_
          exact After.dn hst.below (by exact congrArg Value.bool (decide_eq_true h6))
        intro u w2 hb _
        have hS2 := hS1.later hb
        have hk0 : kepC xs k = List.range k := kepC_all hne
        refine thenQ_n ?_
        refine Cd.cond_t rfl ?_
        refine Cd.seq ?_
        refine Cd.region ?_
        refine Ops.mv_sl rfl rfl rfl ?_
        refine Ops.mv_int rfl rfl rfl ?_
        refine Ops.cut_l (A := A) (n := n) (c := c) (l := (k : Int)) rfl rfl rfl (by omega) ?_
        rw [Int.toNat_natCast]
        refine Ops.mv_sl rfl rfl rfl ?_
        refine Ops.nil ?_
        refine thenQ_n ?_
        refine Cd.seq ?_
        refine Cd.seq ?_
        refine Cd.region ?_
        refine Ops.mv_int rfl rfl rfl ?_
        refine Ops.nil ?_
        refine thenQ_n ?_
        refine Cd.block ?_
        refine Cd.loop (α := Nat × Nat × List Nat) (fun z => [(0, .slice A n c), (1, .func (.func 142) #[] #[]), (5, .int .i64 (z.1 : Int)), (6, .slice (cutAt A c k) (n - k) (c - k)), (7, .int .i64 (z.2.1 : Int))])
          (fun z w' => 1 ≤ z.2.1 ∧ z.2.1 ≤ n - k ∧ z.1 < k + z.2.1 ∧ z.2.2.length = n ∧ (∀ j ∈ z.2.2, j < n) ∧ z.1 = (kepC xs (k + z.2.1)).length ∧ z.2.2.take z.1 = kepC xs (k + z.2.1) ∧ (∀ m, z.1 ≤ m → m < n → z.2.2[m]? = some m) ∧ St w0 w' (ks.set i (CkR t A n c (z.2.2.map (sv ss))))) (fun z => n - k - z.2.1) (k, 1, List.range n) ⟨rfl, rfl, rfl, rfl, rfl, trivial⟩
          ⟨Nat.le_refl _, by show 1 ≤ n - k; omega, by show k < k + 1; omega, by simp, fun j hj => List.mem_range.1 hj, by
            show k = (kepC xs (k + 1)).length
            rw [kepC_succ, if_neg (fun h => h.elim (fun h => by omega) (fun h => h h6)), List.append_nil, hk0, List.length_range], by
            show (List.range n).take k = kepC xs (k + 1)
            rw [kepC_succ, if_neg (fun h => h.elim (fun h => by omega) (fun h => h h6)), List.append_nil, hk0, List.take_range, Nat.min_eq_left (by omega)], fun m hm hm' => by simp [hm'], hSi hS2⟩ ?_
        rintro ⟨a, b, q⟩ e w3 ⟨hb1, hbn, hab, hql, hqm, hal, hqt, hqr, hS3⟩
        dsimp only at hb1 hbn hab hql hqm hal hqt hqr hS3 ⊢
        refine Cd.seq ?_
        refine Cd.seq ?_
        refine Cd.region ?_
        refine Ops.mv_int rfl rfl rfl ?_
        refine Ops.mv_sl rfl rfl rfl ?_
        refine Ops.len rfl rfl ?_
        refine Ops.lss rfl rfl rfl ?_
        refine Ops.nil ?_
        refine thenQ_n ?_
        refine Cd.cond_p _ rfl (fun h7 => ?_) (fun h7 => ?_)
        · have hR3 := hS3.rdR i (get _)
          have hcut := hR3.drop (l := k) (by omega) h2
          have hg : ∀ m : Nat, a ≤ k + m → k + m < n → rg ((q.map (sv ss)).drop k) (m : Int) = sv ss (k + m) := fun m h8 h9 => by
            have := hqr (k + m) h8 h9
            simp [rg, List.getD_eq_getElem?_getD, this]
          have hra : RdI w3 (rg ((q.map (sv ss)).drop k) (b : Int)).a (rg ((q.map (sv ss)).drop k) (b : Int)).n (xs (k + b)) := by rw [hg b (by omega) (by omega)]; exact hrow _ q hql hqm hS3 _ (by omega)
          have hrb : RdI w3 (rg ((q.map (sv ss)).drop k) ((b : Int) - 1)).a (rg ((q.map (sv ss)).drop k) ((b : Int) - 1)).n (xs (k + b - 1)) := by
            rw [show (b : Int) - 1 = ((b - 1 : Nat) : Int) by omega, hg (b - 1) (by omega) (by omega), show k + (b - 1) = k + b - 1 by omega]
            exact hrow _ q hql hqm hS3 _ (by omega)
          have hca : (rg ((q.map (sv ss)).drop k) (b : Int)).n ≤ 9223372036854775807 := by rw [hg b (by omega) (by omega)]; exact hcap _ (by omega)
          have hsuc := kepC_succ xs (k + b)
          refine Cd.skip ?_
          refine thenQ_n ?_
          refine Cd.seq ?_
          refine Cd.block ?_
          refine Cd.seq ?_
          by_cases h8 : xs (k + b) = xs (k + b - 1)
          · --dup 2
            refine Cd.draw [.ex (.func (.func 142) #[] #[]), .ex (.slice (cutAt A c k) (n - k) (c - k)), .ex (.int .i64 ((b : Int))), .ex (.pointer (ptrAt (cutAt A c k) ((b : Int)).toNat)), .ex (.slice ((rg ((q.map (sv ss)).drop k) ((b : Int))).a) ((rg ((q.map (sv ss)).drop k) ((b : Int))).n) ((rg ((q.map (sv ss)).drop k) ((b : Int))).c)), .ex (.slice (cutAt A c k) (n - k) (c - k)), .ex (.int .i64 ((b : Int))), .ex (.int .i64 (((b : Int)) - ((1 : Int)))), .ex (.pointer (ptrAt (cutAt A c k) (((b : Int)) - ((1 : Int))).toNat)), .ex (.slice ((rg ((q.map (sv ss)).drop k) (((b : Int)) - ((1 : Int)))).a) ((rg ((q.map (sv ss)).drop k) (((b : Int)) - ((1 : Int)))).n) ((rg ((q.map (sv ss)).drop k) (((b : Int)) - ((1 : Int)))).c)), .ex (.bool (decide (xs (k + b) = xs (k + b - 1)))), .ex (.bool (false))] (by kernel_rfl) (by kernel_rfl) rfl (List.forall_mem_cons.2 ⟨Yd.lasts_ex _, (List.forall_mem_cons.2 ⟨Yd.lasts_ex _, (List.forall_mem_cons.2 ⟨Yd.lasts_ex _, (List.forall_mem_cons.2 ⟨Yd.lasts_ex _, (List.forall_mem_cons.2 ⟨Yd.lasts_ex _, (List.forall_mem_cons.2 ⟨Yd.lasts_ex _, (List.forall_mem_cons.2 ⟨Yd.lasts_ex _, (List.forall_mem_cons.2 ⟨Yd.lasts_ex _, (List.forall_mem_cons.2 ⟨Yd.lasts_ex _, (List.forall_mem_cons.2 ⟨Yd.lasts_ex _, (List.forall_mem_cons.2 ⟨Yd.lasts_ex _, (List.forall_mem_cons.2 ⟨Yd.lasts_ex _, (fun _ h => by cases h)⟩)⟩)⟩)⟩)⟩)⟩)⟩)⟩)⟩)⟩)⟩)⟩) ⟨?_, ?_, ?_, ?_, ?_, ?_, ?_, ?_, ?_, ?_, ?_, ?_, trivial⟩ ?_
            · intro e1 w1 hb hp hun
              refine Ops.mv_fn rfl rfl rfl ?_
              refine Ops.nil ?_
              exact After.dn (Below.refl _ _) (by exact rfl)
            · intro e1 w1 hb hp hun
              refine Ops.mv_sl rfl rfl rfl ?_
              refine Ops.nil ?_
              exact After.dn (Below.refl _ _) (by exact rfl)
            · intro e1 w1 hb hp hun
              refine Ops.mv_int rfl rfl rfl ?_
              refine Ops.nil ?_
              exact After.dn (Below.refl _ _) (by exact rfl)
            · intro e1 w1 hb hp hun
              refine Ops.idx (hcut.later hb).2 rfl rfl rfl (by omega) (by omega) ?_
              refine Ops.nil ?_
              exact After.dn (Below.refl _ _) (by exact rfl)
            · intro e1 w1 hb hp hun
              refine Ops.ld_sl (hcut.later hb) rfl (by omega) rfl rfl ?_
              refine Ops.nil ?_
              exact After.dn (Below.refl _ _) (by exact rfl)
            · intro e1 w1 hb hp hun
              refine Ops.mv_sl rfl rfl rfl ?_
              refine Ops.nil ?_
              exact After.dn (Below.refl _ _) (by exact rfl)
            · intro e1 w1 hb hp hun
              refine Ops.mv_int rfl rfl rfl ?_
              refine Ops.nil ?_
              exact After.dn (Below.refl _ _) (by exact rfl)
            · intro e1 w1 hb hp hun
              refine Ops.sub rfl rfl rfl (by omega) ?_
              refine Ops.nil ?_
              exact After.dn (Below.refl _ _) (by exact rfl)
            · intro e1 w1 hb hp hun
              refine Ops.idx (hcut.later hb).2 rfl rfl rfl (by omega) (by omega) ?_
              refine Ops.nil ?_
              exact After.dn (Below.refl _ _) (by exact rfl)
            · intro e1 w1 hb hp hun
              refine Ops.ld_sl (hcut.later hb) rfl (by omega) rfl rfl ?_
              refine Ops.nil ?_
              exact After.dn (Below.refl _ _) (by exact rfl)
            · intro e1 w1 hb hp hun
              refine Ops.call (Equal_c _ _ _ (xs (k + b)) _ _ _ (xs (k + b - 1)) _ (hra.later hb) (hrb.later hb) hca) rfl rfl rfl ?_
              rintro _ w2 ⟨rfl, hst⟩
              refine Ops.nil ?_
              exact After.dn hst.below (by exact rfl)
            · intro e1 w1 hb hp hun
              refine Ops.not_p rfl rfl ?_
              refine Ops.nil ?_
              exact After.dn (Below.refl _ _) (by exact congrArg Value.bool (decide_eq_false (fun h => h h8)))
            intro u w4 hb _
            rw [if_neg (fun h => h.elim (fun h => by omega) (fun h => h h8)), List.append_nil] at hsuc
            refine thenQ_n ?_
            refine Cd.cond_f rfl ?_
            refine Cd.skip ?_
            refine blockQ_n ?_
            refine thenQ_n ?_
            refine Cd.region ?_
            refine Ops.mv_int rfl rfl rfl ?_
            refine Ops.add rfl rfl rfl (by omega) ?_
            refine Ops.mv_int rfl rfl rfl ?_
            refine Ops.nil ?_
            refine thenQ_n ?_
            exact ⟨(a, b + 1, q), by show n - k - (b + 1) < n - k - b; omega, ⟨rfl, rfl, rfl, rfl, rfl, trivial⟩, by show 1 ≤ b + 1; omega, by show b + 1 ≤ n - k; omega, by show a < k + (b + 1); omega, hql, hqm, by show a = (kepC xs (k + b + 1)).length; rw [hsuc]; exact hal, by show q.take a = kepC xs (k + b + 1); rw [hsuc]; exact hqt, hqr, hS3.later hb⟩
          · refine Cd.draw [.ex (.func (.func 142) #[] #[]), .ex (.slice (cutAt A c k) (n - k) (c - k)), .ex (.int .i64 ((b : Int))), .ex (.pointer (ptrAt (cutAt A c k) ((b : Int)).toNat)), .ex (.slice ((rg ((q.map (sv ss)).drop k) ((b : Int))).a) ((rg ((q.map (sv ss)).drop k) ((b : Int))).n) ((rg ((q.map (sv ss)).drop k) ((b : Int))).c)), .ex (.slice (cutAt A c k) (n - k) (c - k)), .ex (.int .i64 ((b : Int))), .ex (.int .i64 (((b : Int)) - ((1 : Int)))), .ex (.pointer (ptrAt (cutAt A c k) (((b : Int)) - ((1 : Int))).toNat)), .ex (.slice ((rg ((q.map (sv ss)).drop k) (((b : Int)) - ((1 : Int)))).a) ((rg ((q.map (sv ss)).drop k) (((b : Int)) - ((1 : Int)))).n) ((rg ((q.map (sv ss)).drop k) (((b : Int)) - ((1 : Int)))).c)), .ex (.bool (decide (xs (k + b) = xs (k + b - 1)))), .ex (.bool (true))] (by kernel_rfl) (by kernel_rfl) rfl (List.forall_mem_cons.2 ⟨Yd.lasts_ex _, (List.forall_mem_cons.2 ⟨Yd.lasts_ex _, (List.forall_mem_cons.2 ⟨Yd.lasts_ex _, (List.forall_mem_cons.2 ⟨Yd.lasts_ex _, (List.forall_mem_cons.2 ⟨Yd.lasts_ex _, (List.forall_mem_cons.2 ⟨Yd.lasts_ex _, (List.forall_mem_cons.2 ⟨Yd.lasts_ex _, (List.forall_mem_cons.2 ⟨Yd.lasts_ex _, (List.forall_mem_cons.2 ⟨Yd.lasts_ex _, (List.forall_mem_cons.2 ⟨Yd.lasts_ex _, (List.forall_mem_cons.2 ⟨Yd.lasts_ex _, (List.forall_mem_cons.2 ⟨Yd.lasts_ex _, (fun _ h => by cases h)⟩)⟩)⟩)⟩)⟩)⟩)⟩)⟩)⟩)⟩)⟩)⟩) ⟨?_, ?_, ?_, ?_, ?_, ?_, ?_, ?_, ?_, ?_, ?_, ?_, trivial⟩ ?_
            · intro e1 w1 hb hp hun
              refine Ops.mv_fn rfl rfl rfl ?_
              refine Ops.nil ?_
              exact After.dn (Below.refl _ _) (by exact rfl)
            · intro e1 w1 hb hp hun
              refine Ops.mv_sl rfl rfl rfl ?_
              refine Ops.nil ?_
              exact After.dn (Below.refl _ _) (by exact rfl)
            · intro e1 w1 hb hp hun
              refine Ops.mv_int rfl rfl rfl ?_
              refine Ops.nil ?_
              exact After.dn (Below.refl _ _) (by exact rfl)
            · intro e1 w1 hb hp hun
              refine Ops.idx (hcut.later hb).2 rfl rfl rfl (by omega) (by omega) ?_
              refine Ops.nil ?_
              exact After.dn (Below.refl _ _) (by exact rfl)
            · intro e1 w1 hb hp hun
              refine Ops.ld_sl (hcut.later hb) rfl (by omega) rfl rfl ?_
              refine Ops.nil ?_
              exact After.dn (Below.refl _ _) (by exact rfl)
            · intro e1 w1 hb hp hun
              refine Ops.mv_sl rfl rfl rfl ?_
              refine Ops.nil ?_
              exact After.dn (Below.refl _ _) (by exact rfl)
            · intro e1 w1 hb hp hun
              refine Ops.mv_int rfl rfl rfl ?_
              refine Ops.nil ?_
              exact After.dn (Below.refl _ _) (by exact rfl)
            · intro e1 w1 hb hp hun
              refine Ops.sub rfl rfl rfl (by omega) ?_
              refine Ops.nil ?_
              exact After.dn (Below.refl _ _) (by exact rfl)
            · intro e1 w1 hb hp hun
              refine Ops.idx (hcut.later hb).2 rfl rfl rfl (by omega) (by omega) ?_
              refine Ops.nil ?_
              exact After.dn (Below.refl _ _) (by exact rfl)
            · intro e1 w1 hb hp hun
              refine Ops.ld_sl (hcut.later hb) rfl (by omega) rfl rfl ?_
              refine Ops.nil ?_
              exact After.dn (Below.refl _ _) (by exact rfl)
            · intro e1 w1 hb hp hun
              refine Ops.call (Equal_c _ _ _ (xs (k + b)) _ _ _ (xs (k + b - 1)) _ (hra.later hb) (hrb.later hb) hca) rfl rfl rfl ?_
              rintro _ w2 ⟨rfl, hst⟩
              refine Ops.nil ?_
              exact After.dn hst.below (by exact rfl)
            · intro e1 w1 hb hp hun
              refine Ops.not_p rfl rfl ?_
              refine Ops.nil ?_
              exact After.dn (Below.refl _ _) (by exact congrArg Value.bool (decide_eq_true h8))
            intro u w4 hb _
            have hS4 := hS3.later hb
            have hR4 := hS4.rdR i (get _)
            have hcut4 := hR4.drop (l := k) (by omega) h2
            rw [if_pos (.inr h8)] at hsuc
            refine thenQ_n ?_
            refine Cd.cond_t rfl ?_
            refine Cd.seq ?_
            refine Cd.region ?_
            refine Ops.mv_sl rfl rfl rfl ?_
            refine Ops.mv_int rfl rfl rfl ?_
            refine Ops.mv_sl rfl rfl rfl ?_
            refine Ops.mv_int rfl rfl rfl ?_
            refine Ops.idx hcut4.2 rfl rfl rfl (by omega) (by omega) ?_
            refine Ops.ld_sl hcut4 rfl (by omega) rfl rfl ?_
            rw [hg b (by omega) (by omega)]
            refine Ops.idx hR4.2 rfl rfl rfl (by omega) (by omega) ?_
            refine Ops.st_sl i hS4 (get _) rfl rfl (by omega) ?_
            intro w5 hS5
            have hS5 : St w0 w5 (ks.set i (CkR t A n c ((q.set a (k + b)).map (sv ss)))) := by
              rw [List.set_set] at hS5
              rw [List.map_set]
              exact hS5
            refine Ops.nil ?_
            refine thenQ_n ?_
            refine Cd.region ?_
            refine Ops.mv_int rfl rfl rfl ?_
            refine Ops.add rfl rfl rfl (by omega) ?_
            refine Ops.mv_int rfl rfl rfl ?_
            refine Ops.nil ?_
            refine blockQ_n ?_
            refine thenQ_n ?_
            refine Cd.region ?_
            refine Ops.mv_int rfl rfl rfl ?_
            refine Ops.add rfl rfl rfl (by omega) ?_
            refine Ops.mv_int rfl rfl rfl ?_
            refine Ops.nil ?_
            refine thenQ_n ?_
            refine ⟨(a + 1, b + 1, q.set a (k + b)), by show n - k - (b + 1) < n - k - b; omega, ⟨rfl, rfl, rfl, rfl, rfl, trivial⟩, by show 1 ≤ b + 1; omega, by show b + 1 ≤ n - k; omega, by show a + 1 < k + (b + 1); omega, by show (q.set a _).length = n; rw [List.length_set]; exact hql, ?_, by show a + 1 = (kepC xs (k + b + 1)).length; rw [hsuc, List.length_append, ← hal]; rfl, ?_, ?_, hS5⟩
            · show ∀ j ∈ q.set a (k + b), j < n
              intro j hj
              rcases List.mem_or_eq_of_mem_set hj with h | h
              · exact hqm j h
              · omega
            · show (q.set a (k + b)).take (a + 1) = kepC xs (k + b + 1)
              rw [hsuc, ← hqt, List.take_succ_eq_append_getElem (by rw [List.length_set]; omega), List.take_set_of_le (Nat.le_refl _), List.getElem_set_self]
            · show ∀ m, a + 1 ≤ m → m < n → (q.set a (k + b))[m]? = some m
              intro m hm hm'
              rw [List.getElem?_set, if_neg (by omega)]
              exact hqr m (by omega) hm'
        · have hbe : k + b = n := by omega
          rw [hbe] at hal hqt
          have hle := kepC_len xs n
          have han : a < n := by omega
          refine Cd.exit ?_
          refine thenQ_x ?_
          refine thenQ_x ?_
          refine blockQ_x ?_
          refine thenQ_n ?_
          refine Cd.seq ?_
          refine Cd.region ?_
          refine Ops.mv_sl rfl rfl rfl ?_
          refine Ops.mv_int rfl rfl rfl ?_
          refine Ops.cut_l (A := A) (n := n) (c := c) (l := (a : Int)) rfl rfl rfl (by omega) ?_
          skip
          refine Ops.clr i a hS3 (get _) (show a < n by omega) (by show n - _ = n - a; omega) rfl rfl rfl ?_
          intro w4 hS4
          rw [List.set_set] at hS4
          refine Ops.nil ?_
          refine thenQ_n ?_
          refine Cd.seq ?_
          refine Cd.region ?_
          refine Ops.mv_sl rfl rfl rfl ?_
          refine Ops.mv_int rfl rfl rfl ?_
          refine Ops.cut_h (A := A) (n := n) (c := c) (h := (a : Int)) rfl rfl rfl (by omega) ?_
          refine Ops.mv_sl rfl rfl rfl ?_
          refine Ops.nil ?_
          refine thenQ_n ?_
          refine Cd.ret ?_
          refine blockQ_r ?_
          refine thenQ_r ?_
          refine thenQ_r ?_
          refine blockQ_r ?_
          refine thenQ_r ?_
          refine ret1_s rfl ?_
          rw [← hal]
          refine ⟨rfl, ?_⟩
          have e9 : ({ CkR t A n c (q.map (sv ss)) with n := a, vs := (CkR t A n c (q.map (sv ss))).vs.take a } : Ck) = CkR t A a c ((kepC xs n).map (sv ss)) := by
            rw [← hqt]
            simp [CkR, List.map_take]
          rw [← e9]
          exact hS4
      · refine Cd.draw [.ex (.func (.func 142) #[] #[]), .ex (.slice (A) (n) (c)), .ex (.int .i64 ((k : Int))), .ex (.pointer (ptrAt (A) ((k : Int)).toNat)), .ex (.slice ((rg (ss) ((k : Int))).a) ((rg (ss) ((k : Int))).n) ((rg (ss) ((k : Int))).c)), .ex (.slice (A) (n) (c)), .ex (.int .i64 ((k : Int))), .ex (.int .i64 (((k : Int)) - ((1 : Int)))), .ex (.pointer (ptrAt (A) (((k : Int)) - ((1 : Int))).toNat)), .ex (.slice ((rg (ss) (((k : Int)) - ((1 : Int)))).a) ((rg (ss) (((k : Int)) - ((1 : Int)))).n) ((rg (ss) (((k : Int)) - ((1 : Int)))).c)), .ex (.bool (false))] (by kernel_rfl) (by kernel_rfl) rfl (List.forall_mem_cons.2 ⟨Yd.lasts_ex _, (List.forall_mem_cons.2 ⟨Yd.lasts_ex _, (List.forall_mem_cons.2 ⟨Yd.lasts_ex _, (List.forall_mem_cons.2 ⟨Yd.lasts_ex _, (List.forall_mem_cons.2 ⟨Yd.lasts_ex _, (List.forall_mem_cons.2 ⟨Yd.lasts_ex _, (List.forall_mem_cons.2 ⟨Yd.lasts_ex _, (List.forall_mem_cons.2 ⟨Yd.lasts_ex _, (List.forall_mem_cons.2 ⟨Yd.lasts_ex _, (List.forall_mem_cons.2 ⟨Yd.lasts_ex _, (List.forall_mem_cons.2 ⟨Yd.lasts_ex _, (fun _ h => by cases h)⟩)⟩)⟩)⟩)⟩)⟩)⟩)⟩)⟩)⟩)⟩) ⟨?_, ?_, ?_, ?_, ?_, ?_, ?_, ?_, ?_, ?_, ?_, trivial⟩ ?_
        · intro e1 w1 hb hp hun
          refine Ops.mv_fn rfl rfl rfl ?_
          refine Ops.nil ?_
          exact After.dn (Below.refl _ _) (by exact rfl)
        · intro e1 w1 hb hp hun
          refine Ops.mv_sl rfl rfl rfl ?_
          refine Ops.nil ?_
          exact After.dn (Below.refl _ _) (by exact rfl)
        · intro e1 w1 hb hp hun
          refine Ops.mv_int rfl rfl rfl ?_
          refine Ops.nil ?_
          exact After.dn (Below.refl _ _) (by exact rfl)
        · intro e1 w1 hb hp hun
          refine Ops.idx (hR1.later hb).2 rfl rfl rfl (by omega) (by omega) ?_
          refine Ops.nil ?_
          exact After.dn (Below.refl _ _) (by exact rfl)
        · intro e1 w1 hb hp hun
          refine Ops.ld_sl (hR1.later hb) rfl (by omega) rfl rfl ?_
          refine Ops.nil ?_
          exact After.dn (Below.refl _ _) (by exact rfl)
        · intro e1 w1 hb hp hun
          refine Ops.mv_sl rfl rfl rfl ?_
          refine Ops.nil ?_
          exact After.dn (Below.refl _ _) (by exact rfl)
        · intro e1 w1 hb hp hun
          refine Ops.mv_int rfl rfl rfl ?_
          refine Ops.nil ?_
          exact After.dn (Below.refl _ _) (by exact rfl)
        · intro e1 w1 hb hp hun
          refine Ops.sub rfl rfl rfl (by omega) ?_
          refine Ops.nil ?_
          exact After.dn (Below.refl _ _) (by exact rfl)
        · intro e1 w1 hb hp hun
          refine Ops.idx (hR1.later hb).2 rfl rfl rfl (by omega) (by omega) ?_
          refine Ops.nil ?_
          exact After.dn (Below.refl _ _) (by exact rfl)
        · intro e1 w1 hb hp hun
          refine Ops.ld_sl (hR1.later hb) rfl (by omega) rfl rfl ?_
          refine Ops.nil ?_
          exact After.dn (Below.refl _ _) (by exact rfl)
        · intro e1 w1 hb hp hun
          refine Ops.call (Equal_c _ _ _ (xs k) _ _ _ (xs (k - 1)) _ (hra.later hb) (hrb.later hb) hca) rfl rfl rfl ?_
          rintro _ w2 ⟨rfl, hst⟩
          refine Ops.nil ?_
          exact After.dn hst.below (by exact congrArg Value.bool (decide_eq_false h6))
        intro u w2 hb _
        refine thenQ_n ?_
        refine Cd.cond_f rfl ?_
        refine Cd.skip ?_
        refine blockQ_n ?_
        refine thenQ_n ?_
        refine Cd.region ?_
        refine Ops.mv_int rfl rfl rfl ?_
        refine Ops.add rfl rfl rfl (by omega) ?_
        refine Ops.mv_int rfl rfl rfl ?_
        refine Ops.nil ?_
        refine thenQ_n ?_
        refine ⟨k + 1, by show n - (k + 1) < n - k; omega, ⟨rfl, rfl, rfl, trivial⟩, by omega, by omega, fun j hj => ?_, hS1.later hb⟩
        by_cases e : j = k
        · subst e; exact .inr h6
        · exact hne j (by omega)
    · have hall : kepC xs n = List.range n := kepC_all fun j hj => hne j (by omega)
      refine Cd.exit ?_
      refine thenQ_x ?_
      refine thenQ_x ?_
      refine blockQ_x ?_
      refine thenQ_n ?_
      refine Cd.seq ?_
      refine Cd.region ?_
      refine Ops.mv_sl rfl rfl rfl ?_
      refine Ops.mv_sl rfl rfl rfl ?_
      refine Ops.nil ?_
      refine thenQ_n ?_
      refine Cd.ret ?_
      refine ret1_s rfl ?_
      rw [hall, List.length_range, hid]
      exact ⟨rfl, hS1⟩
end Go.Proofs.YtdedegbendjmbaaGreatDoor.Vc
/-
  The faces with so many elements of a complex, walked in the program. Conditions: as each states them.
-/
namespace Go.Proofs.YtdedegbendjmbaaGreatDoor.Vc
open Go.RowKit

/-! those that are kept of an ascending row -/
theorem kepC_mem_lt {xs : Nat → List Int} {n a : Nat} (h : a ∈ kepC xs n) : a < n := by
  unfold kepC at h
  exact List.mem_range.1 (List.mem_filter.1 h).1
theorem kepC_nodup (xs : Nat → List Int) (n : Nat) : (kepC xs n).Nodup := List.nodup_range.filter _
theorem kepC_SL {xs : Nat → List Int} : ∀ {n : Nat}, (∀ a b, a < b → b < n → ¬ LT (xs b) (xs a)) → SL ((kepC xs n).map xs) ∧ ∀ x, x ∈ (kepC xs n).map xs ↔ ∃ a, a < n ∧ xs a = x
  | 0, _ => ⟨by simp [kepC, SL], fun x => by simp [kepC]⟩
  | n + 1, h => by
    obtain ⟨ih1, ih2⟩ := kepC_SL (xs := xs) (n := n) fun a b h1 h2 => h a b h1 (by omega)
    rw [kepC_succ, List.map_append]
    by_cases e : n = 0 ∨ xs n ≠ xs (n - 1)
    · rw [if_pos e]
      constructor
      · unfold SL
        rw [List.pairwise_append]
        refine ⟨ih1, by simp, fun a ha b hb => ?_⟩
        obtain rfl : b = xs n := by simpa using hb
        obtain ⟨i, hi, rfl⟩ := (ih2 a).1 ha
        rcases e with e | e
        · omega
        · have h1 : LT (xs (n - 1)) (xs n) := LT.tri (h (n - 1) n (by omega) (by omega)) e
          by_cases e2 : i = n - 1
          · rw [e2]; exact h1
          · by_cases e3 : xs i = xs (n - 1)
            · rw [e3]; exact h1
            · exact (LT.tri (h i (n - 1) (by omega) (by omega)) (Ne.symm e3)).trans h1
      · intro x
        rw [List.mem_append, ih2]
        constructor
        · rintro (⟨a, h1, h2⟩ | h1)
          · exact ⟨a, by omega, h2⟩
          · exact ⟨n, by omega, by simpa using (show x = xs n by simpa using h1).symm⟩
        · rintro ⟨a, h1, h2⟩
          by_cases e2 : a = n
          · subst e2; exact .inr (by simp [h2])
          · exact .inl ⟨a, by omega, h2⟩
    · rw [if_neg e]
      have e1 : n ≠ 0 := fun h => e (.inl h)
      have e2 : xs n = xs (n - 1) := Classical.byContradiction fun h => e (.inr h)
      refine ⟨by simpa using ih1, fun x => ?_⟩
      rw [List.map_nil, List.append_nil, ih2]
      constructor
      · rintro ⟨a, h1, h2⟩; exact ⟨a, by omega, h2⟩
      · rintro ⟨a, h1, h2⟩
        by_cases e3 : a = n
        · subst e3; exact ⟨a - 1, by omega, by rw [← e2]; exact h2⟩
        · exact ⟨a, by omega, h2⟩
theorem St.rowAt {w0 w : World} {p : Ck} {t2 : TypeId} {rs : List SlV} {L : List (List Int)} (h : St w0 w (p :: rowsCk t2 rs L)) (hl : rs.length = L.length) {a : Nat} (ha : a < L.length) : RdI w (sv rs a).a (sv rs a).n (L.getD a []) :=
  h.rdI (a + 1) (by rw [List.getElem?_cons_succ]; exact rowsCk_get hl (by omega))
/-- a row of lists in order, each once -/
theorem sortOnce {L : List (List Int)} {q : List Nat} (hq : q.Perm (List.range L.length)) (hs : q.Pairwise fun a b => ¬ LT (L.getD b []) (L.getD a [])) (k : Nat) {F : List (List Int)} (hL : ∀ x, x ∈ L ↔ x ∈ faL F k) :
    let xs := fun a => L.getD (q.getD a 0) []
    let q2 := (kepC xs L.length).map fun a => q.getD a 0
    q2.map (fun i => L.getD i []) = fcs F k ∧ q2.Nodup ∧ (∀ i ∈ q2, i < L.length) ∧ (kepC xs L.length).length = (fcs F k).length := by
  intro xs q2
  have hql : q.length = L.length := by rw [hq.length_eq, List.length_range]
  have hqn : q.Nodup := hq.nodup_iff.2 List.nodup_range
  have hqg : ∀ a (h : a < L.length), q.getD a 0 = q[a] := fun a h => by simp [List.getD_eq_getElem?_getD, show a < q.length by omega]
  have hqm : ∀ a, a < L.length → q.getD a 0 < L.length := fun a h => List.mem_range.1 (hq.mem_iff.1 (by rw [hqg a h]; exact List.getElem_mem _))
  obtain ⟨h1, h2⟩ := kepC_SL (xs := xs) (n := L.length) fun a b hab hb => by
    show ¬ LT (L.getD (q.getD b 0) []) (L.getD (q.getD a 0) [])
    rw [hqg a (by omega), hqg b hb]
    exact List.pairwise_iff_getElem.1 hs a b (by omega) (by omega) hab
  have e : q2.map (fun i => L.getD i []) = (kepC xs L.length).map xs := by simp [q2, xs]
  have e2 : (kepC xs L.length).map xs = fcs F k := fcs_of h1 fun x => by
    rw [h2, ← hL]
    constructor
    · rintro ⟨a, ha, rfl⟩
      show L.getD _ [] ∈ L
      rw [List.getD_eq_getElem?_getD, List.getElem?_eq_getElem (hqm a ha)]
      exact List.getElem_mem _
    · intro hx
      obtain ⟨i, hi, rfl⟩ := List.mem_iff_getElem.1 hx
      obtain ⟨a, ha, e⟩ := List.mem_iff_getElem.1 (hq.mem_iff.2 (List.mem_range.2 hi))
      refine ⟨a, by omega, ?_⟩
      show L.getD (q.getD a 0) [] = _
      rw [hqg a (by omega), e]
      simp [List.getD_eq_getElem?_getD, hi]
  refine ⟨e.trans e2, ?_, fun i hi => ?_, by rw [← e2, List.length_map]⟩
  · refine List.Pairwise.map _ ?_ ((kepC_nodup xs L.length).imp_of_mem (S := fun a b => q.getD a 0 ≠ q.getD b 0) ?_)
    · exact fun a b h => h
    · intro a b ha hb hab
      have ha := kepC_mem_lt ha
      have hb := kepC_mem_lt hb
      rw [hqg a ha, hqg b hb]
      exact fun h => hab ((List.getElem_inj hqn).1 h)
  · obtain ⟨a, ha, rfl⟩ := List.mem_map.1 hi
    exact hqm a (kepC_mem_lt ha)

/-- parts of the first lists -/
def faG (F : List (List Int)) (k i : Nat) : List (List Int) := if k = 0 then [[]] else (F.take i).flatMap fun f => ptsP f k
theorem faG_all (F : List (List Int)) (k : Nat) : faG F k F.length = faL F k := by unfold faG faL; rw [List.take_length]
theorem faG_zero (F : List (List Int)) (k : Nat) : faG F k 0 = if k = 0 then [[]] else [] := by unfold faG; split <;> rfl
theorem faG_succ {F : List (List Int)} {k i : Nat} (h : i < F.length) : faG F k (i + 1) = if 0 < k ∧ k ≤ (gl F (i : Int)).length then faG F k i ++ ptsP (gl F (i : Int)) k else faG F k i := by
  unfold faG
  by_cases e : k = 0
  · simp [e]
  · rw [if_neg e, if_neg e, take_succ_gl h, List.flatMap_append]
    by_cases e2 : k ≤ (gl F (i : Int)).length
    · rw [if_pos ⟨by omega, e2⟩]; simp
    · rw [if_neg (fun h => e2 h.2)]
      have := ptsP_short (l := gl F (i : Int)) (k := k) (by omega)
      simp [this]
theorem faG_num {F : List (List Int)} (k i : Nat) (h6 : ∀ f ∈ F, f.length ≤ 6) : (faG F k i).length ≤ 64 * F.length + 1 := by
  have h := faL_num (F := F.take i) k fun f hf => h6 f (List.mem_of_mem_take hf)
  have e : faG F k i = faL (F.take i) k := rfl
  rw [e]
  have : (F.take i).length ≤ F.length := by simp; omega
  omega

theorem facesWith_c (Pc : Option Addr) (V : Int) (A : Option Addr) (n c : Nat) (rs : List SlV) (F : List (List Int)) (k : Nat) (w : World) (hP : Rd w Pc 2 (fun j => [Value.int .i64 V, .slice A n c].getD j undef)) (hR : RowsI w A n rs F) (hn : n ≤ 1000) (h6 : ∀ f ∈ F, f.length ≤ 6) (hk : k ≤ 7) :
    Ret Tryz.prog 93 [.pointer Pc, .int .i64 (k : Int)] w (fun v w' => ∃ A' c' rs', v = .slice A' (fcs F k).length c' ∧ rs'.length = (fcs F k).length ∧ St w w' (mat 25 2 A' (fcs F k).length c' rs' (fcs F k) ++ [])) := by
  have hFl := hR.len
  have hz := faG_zero F k
  refine Ret.of_cd Tryz.func93 rfl Tryz.ntmps93 rfl (post1 rfl) ?_
  refine Cd.seq ?_
  refine Cd.region ?_
  refine Ops.mv_sl rfl rfl rfl ?_
  refine Ops.nil ?_
  refine thenQ_n ?_
  refine Cd.seq ?_
  refine Cd.region ?_
  refine Ops.bs0 (St.refl w) rfl ?_
  intro A1 w1 hS1
  have hS1 : St w w1 [CkR 25 A1 0 0 []] := hS1
  refine Ops.mv_sl rfl rfl rfl ?_
  refine Ops.nil ?_
  refine thenQ_n ?_
  refine Cd.join (α := Option Addr × Nat × List SlV) (fun z => [(0, .pointer Pc), (1, .int .i64 (k : Int)), (5, .slice z.1 (faG F k 0).length z.2.1)]) (fun z w' => z.2.2.length = (faG F k 0).length ∧ St w w' (mat 25 2 z.1 (faG F k 0).length z.2.1 z.2.2 (faG F k 0))) ?_ ?_
  · refine Cd.seq ?_
    refine Cd.region ?_
    refine Ops.mv_int rfl rfl rfl ?_
    refine Ops.eql rfl rfl rfl ?_
    refine Ops.nil ?_
    refine thenQ_n ?_
    refine Cd.cond_p _ rfl (fun h1 => ?_) (fun h1 => ?_)
    · rw [if_pos (by omega)] at hz
      rw [hz]
      refine Cd.region ?_
      refine Ops.mv_sl rfl rfl rfl ?_
      refine Ops.bs1R hS1 rfl rfl rfl ?_
      intro A2 w2 hS2
      refine Ops.appR 1 hS2 rfl (hS2.rdR 0 rfl) rfl rfl rfl (by omega) (by omega) rfl ?_
      intro A3 c3 w3 hS3
      have hS3 : St w w3 [CkR 25 A3 (0 + 1) c3 ([] ++ [slNil])] := hS3.tail
      refine Ops.mv_sl rfl rfl rfl ?_
      refine Ops.nil ?_
      refine thenQ_n ?_
      exact ⟨(A3, c3, [slNil]), ⟨rfl, rfl, rfl, trivial⟩, rfl, (List.append_nil (mat 25 2 A3 1 c3 [slNil] [[]])) ▸ nilRows 1 hS3⟩
    · rw [if_neg (by omega)] at hz
      rw [hz]
      refine Cd.skip ?_
      refine thenQ_n ?_
      exact ⟨(A1, 0, []), ⟨rfl, rfl, rfl, trivial⟩, rfl, hS1⟩
  rintro ⟨A5, c5, rs5⟩ e w2 ⟨hrl5, hS2⟩
  dsimp only at hrl5 hS2 ⊢
  clear hS1
  refine Cd.seq ?_
  refine Cd.seq ?_
  refine Cd.region ?_
  refine Ops.mv_ptr rfl rfl rfl ?_
  refine Ops.nilp (hS2.old hP) (by omega) rfl rfl ?_
  skip
  refine Ops.fld (hS2.old hP) rfl rfl rfl rfl inferInstance ?_
  skip
  refine Ops.ldf_s (hS2.old hP) rfl rfl rfl rfl rfl ?_
  refine Ops.len rfl rfl ?_
  refine Ops.mv_int rfl rfl rfl ?_
  refine Ops.nil ?_
  refine thenQ_n ?_
  refine Cd.block ?_
  refine Cd.loop (α := Nat × Option Addr × Nat × List SlV) (fun z => [(1, .int .i64 (k : Int)), (5, .slice z.2.1 (faG F k z.1).length z.2.2.1), (17, .slice A n c), (18, .int .i64 (n : Int)), (19, .int .i64 (z.1 : Int))])
    (fun z w' => z.1 ≤ n ∧ z.2.2.2.length = (faG F k z.1).length ∧ St w w' (mat 25 2 z.2.1 (faG F k z.1).length z.2.2.1 z.2.2.2 (faG F k z.1))) (fun z => n - z.1) (0, A5, c5, rs5) ⟨rfl, rfl, rfl, rfl, rfl, trivial⟩ ⟨Nat.zero_le _, hrl5, hS2⟩ ?_
  clear hrl5 hS2 hz
  rintro ⟨i, A5, c5, rs5⟩ e w3 ⟨hi, hrl, hS3⟩
  dsimp only at hi hrl hS3 ⊢
  refine Cd.seq ?_
  refine Cd.region ?_
  refine Ops.lss rfl rfl rfl ?_
  refine Ops.nil ?_
  refine thenQ_n ?_
  refine Cd.seq ?_
  refine Cd.cond_p _ rfl (fun h3 => ?_) (fun h3 => ?_)
  · have hiF : i < F.length := by omega
    have hM := hS3.oldRows hR
    have hrow := hM.at_ (i := (i : Int)) (by omega) (by omega)
    have hcap := hM.cap_ (i := (i : Int)) (by omega) (by omega)
    have hrl0 := hrow.1
    have hsucc := faG_succ (k := k) hiF
    have hnum := faG_num (F := F) k i h6
    have hf6 := h6 (gl F (i : Int)) (by rw [gl_mem hiF]; exact List.getElem_mem _)
    have hpn := ptsP_small (l := gl F (i : Int)) k hf6
    refine Cd.skip ?_
    refine thenQ_n ?_
    refine Cd.seq ?_
    refine Cd.block ?_
    refine Cd.seq ?_
    refine Cd.region ?_
    refine Ops.idx hM.top.2 rfl rfl rfl (by omega) (by omega) ?_
    refine Ops.ld_sl hM.top rfl (by omega) rfl rfl ?_
    refine Ops.mv_sl rfl rfl rfl ?_
    refine Ops.nil ?_
    refine thenQ_n ?_
    refine Cd.seq ?_
    refine Cd.region ?_
    refine Ops.mv_int rfl rfl rfl ?_
    refine Ops.gtr rfl rfl rfl ?_
    refine Ops.mv_bool rfl rfl rfl ?_
    refine Ops.split_p 25 rfl (fun h4 => ?_) (fun h4 => ?_)
    · refine Ops.rung rfl rfl rfl ?_
      refine Ops.mv_int rfl rfl rfl ?_
      refine Ops.rung rfl rfl rfl ?_
      refine Ops.mv_sl rfl rfl rfl ?_
      refine Ops.rung rfl rfl rfl ?_
      refine Ops.call (sizeI_c _ _ _ _) rfl rfl rfl ?_
      rintro _ _ ⟨rfl, rfl⟩
      refine Ops.rung rfl rfl rfl ?_
      refine Ops.leq rfl rfl rfl ?_
      refine Ops.pick_t rfl rfl rfl ?_
      refine Ops.nil ?_
      refine thenQ_n ?_
      refine Cd.cond_p _ rfl (fun h5 => ?_) (fun h5 => ?_)
      · rw [if_pos ⟨by omega, by omega⟩] at hsucc
        refine Cd.region ?_
        refine Ops.mv_sl rfl rfl rfl ?_
        refine Ops.mv_sl rfl rfl rfl ?_
        refine Ops.mv_int rfl rfl rfl ?_
        refine Ops.call (partsOf_c k _ _ _ (gl F (i : Int)) _ hrow hcap.1 (by omega) hk) rfl rfl rfl ?_
        rintro _ w4 ⟨A6, c6, rs6, rfl, hrl6, hT⟩
        have hR6 : RdR w4 A6 (ptsP (gl F (i : Int)) k).length rs6 := hT.rdR 0 rfl
        have hS4 := hS3.call2 hT
        refine Ops.appR 0 hS4 rfl hR6 rfl rfl rfl (by omega) (by omega) rfl ?_
        intro A7 c7 w5 hS5
        have hS5 : St w w5 (CkR 25 A7 ((faG F k i).length + (ptsP (gl F (i : Int)) k).length) c7 (rs5 ++ rs6) :: (rowsCk 2 rs5 (faG F k i) ++ (CkR 25 A6 (ptsP (gl F (i : Int)) k).length c6 rs6 :: (rowsCk 2 rs6 (ptsP (gl F (i : Int)) k) ++ [])))) := hS5
        have hS6 : St w w5 (mat 25 2 A7 (faG F k (i + 1)).length c7 (rs5 ++ rs6) (faG F k (i + 1))) := by
          rw [hsucc, List.length_append]
          unfold mat
          rw [rowsCk_append hrl]
          refine hS5.sub (List.Sublist.cons_cons _ ((List.Sublist.refl _).append ?_))
          rw [List.append_nil]
          exact List.sublist_cons_self _ _
        refine Ops.mv_sl rfl rfl rfl ?_
        refine Ops.nil ?_
        refine blockQ_n ?_
        refine thenQ_n ?_
        refine Cd.region ?_
        refine Ops.add rfl rfl rfl (by omega) ?_
        refine Ops.mv_int rfl rfl rfl ?_
        refine Ops.nil ?_
        refine thenQ_n ?_
        exact ⟨(i + 1, A7, c7, rs5 ++ rs6), by show n - (i + 1) < n - i; omega, ⟨rfl, by show Value.slice A7 ((faG F k i).length + (ptsP (gl F (i : Int)) k).length) c7 = .slice A7 (faG F k (i + 1)).length c7; rw [hsucc, List.length_append], rfl, rfl, rfl, trivial⟩, by show i + 1 ≤ n; omega, by show (rs5 ++ rs6).length = _; rw [hsucc, List.length_append, List.length_append, hrl, hrl6], hS6⟩
      · rw [if_neg (by omega)] at hsucc
        rw [← hsucc] at hrl hS3 ⊢
        refine Cd.skip ?_
        refine blockQ_n ?_
        refine thenQ_n ?_
        refine Cd.region ?_
        refine Ops.add rfl rfl rfl (by omega) ?_
        refine Ops.mv_int rfl rfl rfl ?_
        refine Ops.nil ?_
        refine thenQ_n ?_
        exact ⟨(i + 1, A5, c5, rs5), by show n - (i + 1) < n - i; omega, ⟨rfl, rfl, rfl, rfl, rfl, trivial⟩, by show i + 1 ≤ n; omega, hrl, hS3⟩
    · rw [if_neg (by omega)] at hsucc
      rw [← hsucc] at hrl hS3 ⊢
      refine Ops.skipg rfl rfl rfl rfl rfl ?_
      refine Ops.skipg rfl rfl rfl rfl rfl ?_
      refine Ops.skipg rfl rfl rfl rfl rfl ?_
      refine Ops.skipg rfl rfl rfl rfl rfl ?_
      refine Ops.pick_f rfl rfl rfl ?_
      refine Ops.nil ?_
      refine thenQ_n ?_
      refine Cd.cond_f rfl ?_
      refine Cd.skip ?_
      refine blockQ_n ?_
      refine thenQ_n ?_
      refine Cd.region ?_
      refine Ops.add rfl rfl rfl (by omega) ?_
      refine Ops.mv_int rfl rfl rfl ?_
      refine Ops.nil ?_
      refine thenQ_n ?_
      exact ⟨(i + 1, A5, c5, rs5), by show n - (i + 1) < n - i; omega, ⟨rfl, rfl, rfl, rfl, rfl, trivial⟩, by show i + 1 ≤ n; omega, hrl, hS3⟩
  · have hie : i = F.length := by omega
    rw [hie, faG_all] at hrl hS3 ⊢
    have hnum := faL_num (F := F) k h6
    have hLm : ∀ a, a < (faL F k).length → ((faL F k).getD a []).length ≤ 6 := fun a ha => by
      have hm : (faL F k).getD a [] ∈ faL F k := by
        rw [List.getD_eq_getElem?_getD, List.getElem?_eq_getElem ha]; exact List.getElem_mem _
      rcases faL_mem.1 hm with ⟨_, h⟩ | ⟨_, f, hf, h, _⟩
      · rw [h]; simp
      · have := h.length_le
        have := h6 f hf
        omega
    generalize hLe : faL F k = L at *
    have hcapL : ∀ a, a < L.length → (sv rs5 a).n ≤ 9223372036854775807 := fun a ha => by
      have h := (St.rowAt hS3 hrl ha).1
      have := hLm a ha
      omega
    refine Cd.exit ?_
    refine thenQ_x ?_
    refine thenQ_x ?_
    refine blockQ_x ?_
    refine thenQ_n ?_
    refine Cd.seq ?_
    refine Cd.region ?_
    refine Ops.mv_sl rfl rfl rfl ?_
    refine Ops.call (sortL_c 0 hS3 rfl (by omega) (fun a => L.getD a []) hcapL (fun w' q hq1 hq2 h a ha => St.rowAt (p := CkR 25 A5 L.length c5 (q.map (sv rs5))) h hrl ha)) rfl rfl rfl ?_
    rintro _ w4 ⟨rfl, q, hq, hqs, hS4⟩
    have hS4 : St w w4 (CkR 25 A5 L.length c5 (q.map (sv rs5)) :: rowsCk 2 rs5 L) := hS4
    have hql : q.length = L.length := by rw [hq.length_eq, List.length_range]
    have hqm : ∀ a, a < L.length → q.getD a 0 < L.length := fun a h => List.mem_range.1 (hq.mem_iff.1 (by
      rw [List.getD_eq_getElem?_getD, List.getElem?_eq_getElem (show a < q.length by omega)]; exact List.getElem_mem _))
    have hsv : ∀ a, a < L.length → sv (q.map (sv rs5)) a = sv rs5 (q.getD a 0) := fun a h => by
      show (q.map (sv rs5)).getD a slNil = _
      simp only [List.getD_eq_getElem?_getD, List.getElem?_map, List.getElem?_eq_getElem (show a < q.length by omega), Option.map_some, Option.getD_some]
    obtain ⟨e1, e2, e3, e4⟩ := sortOnce hq hqs k (F := F) (fun x => by rw [hLe])
    refine Ops.nil ?_
    refine thenQ_n ?_
    refine Cd.seq ?_
    refine Cd.region ?_
    refine Ops.mv_sl rfl rfl rfl ?_
    refine Ops.call (compactF_c 0 hS4 rfl (by omega) (fun a => L.getD (q.getD a 0) []) (fun a ha => by rw [hsv a ha]; exact hcapL _ (hqm a ha)) (fun w' q2 hq1 hq2 h a ha => by
      rw [hsv a ha]
      exact St.rowAt (p := CkR 25 A5 L.length c5 (q2.map (sv (q.map (sv rs5))))) h hrl (hqm a ha))) rfl rfl rfl ?_
    rintro _ w5 ⟨rfl, hS5⟩
    generalize hkp : kepC (fun a => L.getD (q.getD a 0) []) L.length = kp at *
    have hss : kp.map (sv (q.map (sv rs5))) = (kp.map fun a => q.getD a 0).map fun i => rs5.getD i slNil := by
      rw [List.map_map]
      exact List.map_congr_left fun a ha => by rw [← hkp] at ha; exact hsv a (kepC_mem_lt ha)
    have hS5 : St w w5 ([CkR 25 A5 kp.length c5 (kp.map (sv (q.map (sv rs5))))] ++ rowsCk 2 rs5 L) := hS5
    have hS6 := hS5.pick hrl e2 (fun i hi => by rw [hrl]; exact e3 i hi)
    rw [e1, hss, e4] at hS6
    refine Ops.mv_sl rfl rfl rfl ?_
    refine Ops.nil ?_
    refine thenQ_n ?_
    refine Cd.ret ?_
    refine ret1_s rfl ?_
    exact ⟨A5, c5, (kp.map fun a => q.getD a 0).map fun i => rs5.getD i slNil, by rw [e4], by rw [List.length_map, List.length_map]; exact e4, by rw [List.append_nil]; exact hS6⟩
end Go.Proofs.YtdedegbendjmbaaGreatDoor.Vc
/-
  The rank of faces' boundaries, walked in the program. Conditions: as each states them.
-/
namespace Go.Proofs.YtdedegbendjmbaaGreatDoor.Vc
open Go.RowKit

section
variable {P : Program} {N : Nat} {ops : Array Oper} {K : Env → World → Prop} {rest : List Oper} {e : Env} {w0 w w' : World} {ks : List Ck} {d : Nat} {ty : TypeId} {pos : String} {af : Array Edge}
theorem Ops.lenM {x : Operand} {t kt et : TypeId} {g : Nat} {kvs : List (Value × Value)} [Und P t (.map kt et)] (hR : RdM w g kvs) (hx : ev e x = .map (some g)) (hb : Nat.blt d N = true) (hK : Ops P N ops K rest (upd e d (.int .i64 (kvs.length : Int))) w) :
    Ops P N ops K (⟨some d, .call ⟨.builtin .len, #[x], #[t]⟩, ty, pos, af, none⟩ :: rest) e w := by
  obtain ⟨es, cl, hh, hm⟩ := hR
  have hl : es.size = kvs.length := by rw [← hm]; simp
  refine .val (w' := w) ?_ hb hK
  simp [execOp, resolve, invoke, builtin, Builtin.len_, hx, run_underlying (Und.out (P := P) (t := t)), MapKept.run_getObj_map hh, goInt, Result.andThen, hl]
end

theorem odd_lt {G : List (List Int)} {x : List Int} {k : Nat} (hn : G.Nodup) (hl : x.length = k + 1) (hG : ∀ p ∈ ptsP x k, p ∈ G) : ∀ e ∈ oddP (srt (bdN G x)), e < G.length := by
  intro e he
  have h1 := (srt_perm _).subset ((oddP_inv _ _ rfl (srt_asc _)).2.1 e he)
  unfold bdN at h1
  rw [show x.length - 1 = k by omega] at h1
  obtain ⟨p, hp, rfl⟩ := List.mem_map.1 h1
  obtain ⟨i, hi, _, h3⟩ := nmb_of hn (hG p hp)
  omega
theorem spK_snoc (M : List KE) (p : KE) : spK (M ++ [p]) = spK M ++ [mkb p.2.2] := by simp [spK]
theorem eqs_snoc0 {B L : List Nat} {r : Nat} (h : Eqs B L) (hr : r ∈ sums B) : Eqs B (L ++ [r]) := .of (fun b hb => sums_mono (fun x hx => List.mem_append_left _ hx) b ((h b).1 (sums_self hb))) fun b hb => by
  rcases List.mem_append.1 hb with hb | hb
  · exact (h b).2 (sums_self hb)
  · obtain rfl := List.mem_singleton.1 hb; exact hr
theorem eqs_snoc1 {B L : List Nat} {r v : Nat} (h : Eqs B L) (hr : r ^^^ v ∈ sums B) : Eqs (B ++ [v]) (L ++ [r]) := by
  have hB : ∀ u ∈ sums B, u ∈ sums (B ++ [v]) := sums_mono fun x hx => List.mem_append_left _ hx
  have hL : ∀ u ∈ sums L, u ∈ sums (L ++ [r]) := sums_mono fun x hx => List.mem_append_left _ hx
  have hv : v ∈ sums (B ++ [v]) := sums_self (by simp)
  have hr' : r ∈ sums (L ++ [r]) := sums_self (by simp)
  refine .of (fun b hb => ?_) fun b hb => ?_
  · rcases List.mem_append.1 hb with hb | hb
    · exact hL _ ((h b).1 (sums_self hb))
    · obtain rfl := List.mem_singleton.1 hb
      have := sums_xor hr' (hL _ ((h _).1 hr))
      rwa [xor_cancel] at this
  · rcases List.mem_append.1 hb with hb | hb
    · exact hB _ ((h b).2 (sums_self hb))
    · obtain rfl := List.mem_singleton.1 hb
      have := sums_xor hv (hB _ hr)
      rwa [Nat.xor_comm b v, xor_cancel] at this
/-- the matrix of the faces with so many elements and those with one more -/
def matF (F : List (List Int)) (k : Nat) : List Nat := (fcs F (k + 1)).map fun x => rowM (rwB (fcs F k) x)
/-- kept sets with different greatest numbers are a basis -/
theorem kept_rk {M : List KE} {b : Nat} {L : List Nat} (hk : (M.map (·.1)).Nodup) (hM : ∀ p ∈ M, KpE b p) (h : Eqs (spK M) L) : IsRk L M.length := by
  refine ⟨spK M, by simp [spK], ?_, h.symm⟩
  have e : spK M = (M.map fun p => (p.1.toNat, mkb p.2.2)).map (·.2) := by simp [spK]
  rw [e]
  refine top_nodup (fun p hp => ?_) ?_
  · obtain ⟨q, hq, rfl⟩ := List.mem_map.1 hp
    exact (hM q hq).1.1.top (hM q hq).2
  · rw [List.map_map]
    have h0 : ∀ p ∈ M, 0 ≤ p.1 := fun p hp => (hM p hp).1.1.2 _ (by rw [getLast_snoc (hM p hp).2]; simp)
    rw [List.Nodup, List.pairwise_map] at hk ⊢
    refine hk.imp_of_mem fun {p q} hp hq hne e => hne ?_
    have e : p.1.toNat = q.1.toNat := e
    have := h0 p hp
    have := h0 q hq
    omega
theorem getA_keys {M : List KE} {t : Int} (h : getA M t = none) : t ∉ M.map (·.1) := fun hm => by
  obtain ⟨p, hp, e⟩ := List.mem_map.1 hm
  exact getA_none_mem h p hp e
theorem keys_snoc {M : List KE} {p : KE} (h : (M.map (·.1)).Nodup) (hp : p.1 ∉ M.map (·.1)) : ((M ++ [p]).map (·.1)).Nodup := by
  rw [List.map_append, List.nodup_append]
  refine ⟨h, by simp, fun a ha b hb e => hp ?_⟩
  obtain rfl : b = p.1 := by simpa using hb
  rw [← e]; exact ha

theorem permK (a : List Ck) (b : Ck) (X Z Y : List Ck) : (b :: (X ++ (Z ++ (a ++ Y)))).Perm (a ++ (b :: ((X ++ Z) ++ Y))) := by
  have e1 : b :: (X ++ (Z ++ (a ++ Y))) = ((b :: (X ++ Z)) ++ a) ++ Y := by simp
  have e2 : a ++ (b :: ((X ++ Z) ++ Y)) = (a ++ (b :: (X ++ Z))) ++ Y := by simp
  rw [e1, e2]
  exact List.perm_append_comm.append_right Y
abbrev stK (g2 g1 : Nat) (M : List KE) (G : List (List Int)) (Y : List Ck) : List Ck := CkM 133 g2 (prV (Value.int .i64) redV M) :: CkM 123 g1 (prV Value.string (Value.int .i64) (numF G)) :: Y

set_option maxHeartbeats 4000000 in
theorem rankWith_c (Pc : Option Addr) (V : Int) (A : Option Addr) (n c : Nat) (rs : List SlV) (F : List (List Int)) (k : Nat) (w : World) (hT : Tab w) (hP : Rd w Pc 2 (fun j => [Value.int .i64 V, .slice A n c].getD j undef)) (hR : RowsI w A n rs F) (hC : Cplx V F) (hk : 1 ≤ k ∧ k ≤ 5) :
    Ret Tryz.prog 131 [.pointer Pc, .int .i64 ((k : Int) + 1)] w (fun v w' => ∃ r : Nat, v = .int .i64 (r : Int) ∧ IsRk (matF F k) r ∧ r ≤ 30000 ∧ St w w' []) := by
  have hFl := hR.len
  have hF4 := hC.f
  have h6 : ∀ f ∈ F, f.length ≤ 6 := fun f hf => (hC.row f hf).1.2
  have hsa : ∀ f ∈ F, SA f := fun f hf => (hC.row f hf).2.1
  have hGl := fcs_num k h6
  have hHl := fcs_num (k + 1) h6
  have hGn := (fcs_SL F k).nodup
  have hGs : ∀ y ∈ fcs F k, SA y ∧ y.length = k := fun y hy => ⟨fcs_sa hsa hy, fcs_len hy⟩
  have hGb : ∀ y ∈ fcs F k, ∀ a ∈ y, -9223372036854775808 ≤ a ∧ a ≤ 9223372036854775807 := fun y hy a ha => by
    obtain ⟨f, hf, hs, _⟩ := (fcs_pos (by omega)).1 hy
    have := (hC.row f hf).2.2 a (hs.subset ha)
    have := hC.v
    omega
  have hHp : ∀ x ∈ fcs F (k + 1), SA x ∧ x.length = k + 1 ∧ ∀ p ∈ ptsP x k, p ∈ fcs F k := fun x hx => ⟨fcs_sa hsa hx, fcs_len hx, fun p hp => by
    obtain ⟨f, hf, hs, _⟩ := (fcs_pos (by omega)).1 hx
    exact (fcs_pos (by omega)).2 ⟨f, hf, (ptsP_mem.1 hp).1.trans hs, (ptsP_mem.1 hp).2⟩⟩
  have hmat : matF F k = (fcs F (k + 1)).map fun x => rowM (rwB (fcs F k) x) := rfl
  refine Ret.of_cd Tryz.func131 rfl Tryz.ntmps131 rfl (post1 rfl) ?_
  refine Cd.seq ?_
  refine Cd.region ?_
  refine Ops.mv_int rfl rfl rfl ?_
  refine Ops.nil ?_
  refine thenQ_n ?_
  refine Cd.seq ?_
  refine Cd.region ?_
  refine Ops.mkmap (St.refl w) rfl ?_
  intro g1 w1 hS1
  refine Ops.mv_map rfl rfl rfl ?_
  refine Ops.nil ?_
  refine thenQ_n ?_
  refine Cd.seq ?_
  refine Cd.seq ?_
  refine Cd.region ?_
  refine Ops.mv_ptr rfl rfl rfl ?_
  refine Ops.mv_int rfl rfl rfl ?_
  refine Ops.sub rfl rfl rfl (by omega) ?_
  have hg1 := facesWith_c Pc V A n c rs F k w1 (hS1.old hP) (hS1.oldRows hR) (by omega) h6 (by omega)
  have hg2 := fun w => facesWith_c Pc V A n c rs F (k + 1) w
  generalize hG : fcs F k = G at *
  generalize hH : fcs F (k + 1) = H at *
  refine Ops.call hg1 rfl (by show [_, Value.int .i64 ((k : Int) + 1 - 1)] = _; congr 3; omega) rfl ?_
  rintro _ w2 ⟨A19, c19, rs19, rfl, hrl19, hst⟩
  have hS2 : St w w2 (mat 25 2 A19 G.length c19 rs19 G ++ [CkM 123 g1 (prV Value.string (Value.int .i64) (numF (G.take 0)))]) := by
    have := hS1.call hst
    rw [List.append_nil] at this
    exact this
  clear hst hg1
  refine Ops.len rfl rfl ?_
  refine Ops.mv_int rfl rfl rfl ?_
  refine Ops.nil ?_
  refine thenQ_n ?_
  refine Cd.block ?_
  refine Cd.loop (α := Nat) (fun z => [(0, .pointer Pc), (1, .int .i64 ((k : Int) + 1)), (5, .map (some g1)), (19, .slice A19 G.length c19), (20, .int .i64 (G.length : Int)), (21, .int .i64 (z : Int))])
    (fun z w' => z ≤ G.length ∧ St w w' (mat 25 2 A19 G.length c19 rs19 G ++ [CkM 123 g1 (prV Value.string (Value.int .i64) (numF (G.take z)))])) (fun z => G.length - z) 0 ⟨rfl, rfl, rfl, rfl, rfl, rfl, trivial⟩ ⟨Nat.zero_le _, hS2⟩ ?_
  clear hS2 hS1
  rintro i e w3 ⟨hi, hS⟩
  refine Cd.seq ?_
  refine Cd.region ?_
  refine Ops.lss rfl rfl rfl ?_
  refine Ops.nil ?_
  refine thenQ_n ?_
  refine Cd.seq ?_
  refine Cd.cond_p _ rfl (fun h1 => ?_) (fun h1 => ?_)
  · have hiG : i < G.length := by omega
    have hM19 := hS.rowsI rfl
    have hr0 := hM19.at_ (i := (i : Int)) (by omega) (by omega)
    have hgm : gl G (i : Int) ∈ G := by rw [gl_mem hiG]; exact List.getElem_mem _
    have hlen := (hGs _ hgm).2
    have hnew := numF_new hGn hiG
    have htk := numF_take hiG
    have hrl0 := hr0.1
    refine Cd.skip ?_
    refine thenQ_n ?_
    refine Cd.seq ?_
    refine Cd.block ?_
    refine Cd.seq ?_
    refine Cd.region ?_
    refine Ops.mv_int rfl rfl rfl ?_
    refine Ops.idx hM19.top.2 rfl rfl rfl (by omega) (by omega) ?_
    refine Ops.ld_sl hM19.top rfl (by omega) rfl rfl ?_
    refine Ops.mv_int rfl rfl rfl ?_
    refine Ops.mv_sl rfl rfl rfl ?_
    refine Ops.nil ?_
    refine thenQ_n ?_
    refine Cd.region ?_
    refine Ops.mv_map rfl rfl rfl ?_
    refine Ops.mv_sl rfl rfl rfl ?_
    refine Ops.call (keyOf_c _ _ _ (gl G (i : Int)) _ (hT.later hS.below) hr0 (hGb _ hgm) (by omega)) rfl rfl rfl ?_
    rintro _ w4 ⟨rfl, hst⟩
    have hS4 := (hS.later hst.below).perm List.perm_append_comm
    refine Ops.mv_int rfl rfl rfl ?_
    refine Ops.upm rfl keyS 0 (u := (i : Int)) (a := keyB (gl G (i : Int))) hS4 rfl rfl rfl rfl ?_
    intro w5 hS5
    have hS5 : St w w5 ([CkM 123 g1 (prV Value.string (Value.int .i64) (putA (numF (G.take i)) (keyB (gl G (i : Int))) (i : Int)))] ++ mat 25 2 A19 G.length c19 rs19 G) := hS5
    rw [putA_new hnew, ← htk] at hS5
    refine Ops.nil ?_
    refine blockQ_n ?_
    refine thenQ_n ?_
    refine Cd.region ?_
    refine Ops.add rfl rfl rfl (by omega) ?_
    refine Ops.mv_int rfl rfl rfl ?_
    refine Ops.nil ?_
    refine thenQ_n ?_
    exact ⟨i + 1, by show G.length - (i + 1) < G.length - i; omega, ⟨rfl, rfl, rfl, rfl, rfl, rfl, trivial⟩, by show i + 1 ≤ G.length; omega, hS5.perm List.perm_append_comm⟩
  · rw [List.take_of_length_le (show G.length ≤ i by omega)] at hS
    refine Cd.exit ?_
    refine thenQ_x ?_
    refine thenQ_x ?_
    refine blockQ_x ?_
    refine thenQ_n ?_
    refine Cd.seq ?_
    refine Cd.region ?_
    refine Ops.mkmap (hS.perm List.perm_append_comm) rfl ?_
    intro g2 w4 hS4
    refine Ops.mv_map rfl rfl rfl ?_
    refine Ops.nil ?_
    refine thenQ_n ?_
    refine Cd.seq ?_
    refine Cd.seq ?_
    refine Cd.region ?_
    refine Ops.mv_ptr rfl rfl rfl ?_
    refine Ops.mv_int rfl rfl rfl ?_
    refine Ops.call (hg2 w4 (hS4.old hP) (hS4.oldRows hR) (by omega) h6 (by omega)) rfl rfl rfl ?_
    rintro _ w5 ⟨A34, c34, rs34, rfl, hrl34, hst⟩
    clear hg2
    have hS5 : St w w5 (stK g2 g1 [] G (mat 25 2 A34 H.length c34 rs34 H ++ mat 25 2 A19 G.length c19 rs19 G)) := by
      have := hS4.call hst
      rw [List.append_nil] at this
      refine this.perm ?_
      show (mat _ _ _ _ _ _ _ ++ ([_, _] ++ mat _ _ _ _ _ _ _)).Perm ([_, _] ++ (mat _ _ _ _ _ _ _ ++ mat _ _ _ _ _ _ _))
      rw [← List.append_assoc, ← List.append_assoc]
      exact List.perm_append_comm.append_right _
    have hmm : ∀ q ∈ mat 25 2 A34 H.length c34 rs34 H, q ∈ mat 25 2 A34 H.length c34 rs34 H ++ mat 25 2 A19 G.length c19 rs19 G := fun q hq => List.mem_append_left _ hq
    generalize mat 25 2 A34 H.length c34 rs34 H ++ mat 25 2 A19 G.length c19 rs19 G = Y0 at *
    clear hS4 hst hS
    refine Ops.len rfl rfl ?_
    refine Ops.mv_int rfl rfl rfl ?_
    refine Ops.nil ?_
    refine thenQ_n ?_
    refine Cd.block ?_
    refine Cd.loop (α := Nat × List KE × List Ck) (fun z => [(1, .int .i64 ((k : Int) + 1)), (5, .map (some g1)), (8, .map (some g2)), (34, .slice A34 H.length c34), (35, .int .i64 (H.length : Int)), (36, .int .i64 (z.1 : Int))])
      (fun z w' => z.1 ≤ H.length ∧ z.2.1.length ≤ z.1 ∧ (∀ p ∈ z.2.1, KpE G.length p ∧ CkI 2 p.2.1.a p.2.1.n p.2.1.c p.2.2 ∈ z.2.2) ∧ (z.2.1.map (·.1)).Nodup ∧ Eqs (spK z.2.1) ((H.take z.1).map fun x => rowM (rwB G x)) ∧ (∀ q ∈ mat 25 2 A34 H.length c34 rs34 H, q ∈ z.2.2) ∧ St w w' (stK g2 g1 z.2.1 G z.2.2)) (fun z => H.length - z.1) (0, [], Y0) ⟨rfl, rfl, rfl, rfl, rfl, rfl, trivial⟩ ⟨Nat.zero_le _, Nat.zero_le _, (fun _ h => by cases h), List.Pairwise.nil, Eqs.refl _, hmm, hS5⟩ ?_
    clear hS5 hmm
    rintro ⟨i, M, Y⟩ e w6 ⟨hi, hMi, hM, hMk, hE, hin, hS⟩
    dsimp only at hi hMi hM hMk hE hin hS ⊢
    refine Cd.seq ?_
    refine Cd.region ?_
    refine Ops.lss rfl rfl rfl ?_
    refine Ops.nil ?_
    refine thenQ_n ?_
    refine Cd.seq ?_
    refine Cd.cond_p _ rfl (fun h2 => ?_) (fun h2 => ?_)
    · have hiH : i < H.length := by omega
      have hY : ∀ q ∈ Y, q ∈ stK g2 g1 M G Y := fun q hq => List.mem_cons_of_mem _ (List.mem_cons_of_mem _ hq)
      obtain ⟨q0, hq0⟩ := List.mem_iff_getElem?.1 (hY _ (hin _ (show CkR 25 A34 H.length c34 rs34 ∈ mat _ _ _ _ _ _ _ from List.mem_cons_self)))
      have hR34 : RdR w6 A34 H.length rs34 := hS.rdR q0 hq0
      have hrow : CkI 2 (rg rs34 (i : Int)).a (rg rs34 (i : Int)).n (rg rs34 (i : Int)).c (gl H (i : Int)) ∈ Y := hin _ (List.mem_cons_of_mem _ (List.mem_iff_getElem?.2 ⟨i, rowsCk_get hrl34 (by omega)⟩))
      have hface := mem_rd hS (hY _ hrow)
      obtain ⟨q1, hq1⟩ := List.mem_iff_getElem?.1 (hY _ hrow)
      have hcap := (hS.cap q1 hq1).1
      have hcap : (rg rs34 (i : Int)).n ≤ (rg rs34 (i : Int)).c := hcap
      have hgm : gl H (i : Int) ∈ H := by rw [gl_mem hiH]; exact List.getElem_mem _
      obtain ⟨hxs, hxl, hxp⟩ := hHp _ hgm
      have hfl := hface.1
      have hbr := bd_row hGn hGs hxs hxl hxp
      have hlt := odd_lt hGn hxl hxp
      have hbdN : bdN G (gl H (i : Int)) = (ptsP (gl H (i : Int)) k).map (nmb G) := by unfold bdN; rw [show (gl H (i : Int)).length - 1 = k by omega]
      have htk : (H.take (i + 1)).map (fun x => rowM (rwB G x)) = (H.take i).map (fun x => rowM (rwB G x)) ++ [rowM (rwB G (gl H (i : Int)))] := by rw [take_succ_gl hiH, List.map_append]; rfl
      rw [hbdN] at hbr hlt
      generalize gl H (i : Int) = x at *
      have hNl := ptsP_small (l := x) k (by omega)
      refine Cd.skip ?_
      refine thenQ_n ?_
      refine Cd.seq ?_
      refine Cd.block ?_
      refine Cd.seq ?_
      refine Cd.region ?_
      refine Ops.idx hR34.2 rfl rfl rfl (by omega) (by omega) ?_
      refine Ops.ld_sl hR34 rfl (by omega) rfl rfl ?_
      refine Ops.mv_sl rfl rfl rfl ?_
      refine Ops.nil ?_
      refine thenQ_n ?_
      refine Cd.seq ?_
      refine Cd.region ?_
      refine Ops.mv_sl rfl rfl rfl ?_
      refine Ops.nil ?_
      refine thenQ_n ?_
      refine Cd.seq ?_
      refine Cd.seq ?_
      refine Cd.region ?_
      refine Ops.mv_sl rfl rfl rfl ?_
      refine Ops.mv_int rfl rfl rfl ?_
      refine Ops.sub rfl rfl rfl (by omega) ?_
      refine Ops.call (partsOf_c k _ _ _ x _ hface hcap (by omega) (by omega)) rfl (by show [_, Value.int .i64 ((k : Int) + 1 - 1)] = _; congr 3; omega) rfl ?_
      rintro _ w7 ⟨A43, c43, rs43, rfl, hrl43, hst⟩
      generalize hN : ptsP x k = N at *
      have hS7 : St w w7 (CkI 2 none 0 0 [] :: (mat 25 2 A43 N.length c43 rs43 N ++ stK g2 g1 M G Y)) := by
        have := hS.call hst
        rw [List.append_nil] at this
        exact this.nil _
      refine Ops.len rfl rfl ?_
      refine Ops.mv_int rfl rfl rfl ?_
      refine Ops.nil ?_
      refine thenQ_n ?_
      refine Cd.block ?_
      refine Cd.loop (α := Nat × Option Addr × Nat) (fun z => [(1, .int .i64 ((k : Int) + 1)), (5, .map (some g1)), (8, .map (some g2)), (11, .slice z.2.1 z.1 z.2.2), (34, .slice A34 H.length c34), (35, .int .i64 (H.length : Int)), (36, .int .i64 (i : Int)), (43, .slice A43 N.length c43), (44, .int .i64 (N.length : Int)), (45, .int .i64 (z.1 : Int))])
        (fun z w' => z.1 ≤ N.length ∧ St w w' (CkI 2 z.2.1 z.1 z.2.2 ((N.take z.1).map (nmb G)) :: (mat 25 2 A43 N.length c43 rs43 N ++ stK g2 g1 M G Y))) (fun z => N.length - z.1) (0, none, 0) ⟨rfl, rfl, rfl, rfl, rfl, rfl, rfl, rfl, rfl, rfl, trivial⟩ ⟨Nat.zero_le _, hS7⟩ ?_
      clear hS7 hst hS hq0 hR34 hface hq1
      rintro ⟨j, A11, c11⟩ e w8 ⟨hj, hS⟩
      dsimp only at hj hS ⊢
      refine Cd.seq ?_
      refine Cd.region ?_
      refine Ops.lss rfl rfl rfl ?_
      refine Ops.nil ?_
      refine thenQ_n ?_
      refine Cd.seq ?_
      refine Cd.cond_p _ rfl (fun h3 => ?_) (fun h3 => ?_)
      · have hjN : j < N.length := by omega
        have hM43 := hS.tail.rowsI rfl
        have hr1 := hM43.at_ (i := (j : Int)) (by omega) (by omega)
        have hrl1 := hr1.1
        have hpm : gl N (j : Int) ∈ N := by rw [gl_mem hjN]; exact List.getElem_mem _
        have hpG := hxp _ hpm
        have hpl := (hGs _ hpG).2
        refine Cd.skip ?_
        refine thenQ_n ?_
        refine Cd.seq ?_
        refine Cd.block ?_
        refine Cd.seq ?_
        refine Cd.region ?_
        refine Ops.idx hM43.top.2 rfl rfl rfl (by omega) (by omega) ?_
        refine Ops.ld_sl hM43.top rfl (by omega) rfl rfl ?_
        refine Ops.mv_sl rfl rfl rfl ?_
        refine Ops.nil ?_
        refine thenQ_n ?_
        refine Cd.region ?_
        refine Ops.mv_sl rfl rfl rfl ?_
        refine Ops.mv_map rfl rfl rfl ?_
        refine Ops.mv_sl rfl rfl rfl ?_
        refine Ops.call (keyOf_c _ _ _ (gl N (j : Int)) _ (hT.later hS.below) hr1 (hGb _ hpG) (by omega)) rfl rfl rfl ?_
        rintro _ w9 ⟨rfl, hst⟩
        have hS9 := hS.later hst.below
        have hRg : RdM w9 g1 (prV Value.string (Value.int .i64) (numF G)) := by
          have h9 : St w w9 ((CkI 2 A11 j c11 ((N.take j).map (nmb G)) :: mat 25 2 A43 N.length c43 rs43 N) ++ stK g2 g1 M G Y) := hS9
          exact (h9.sub (List.sublist_append_right _ _)).rdM 1 rfl
        refine Ops.lookI keyS (keyB (gl N (j : Int))) hRg rfl rfl rfl ?_
        skip
        refine Ops.bs1I hS9 rfl rfl rfl ?_
        intro A54 w10 hS10
        refine Ops.appI 1 hS10 rfl (hS10.rdI 0 rfl) rfl rfl rfl (by omega) (by omega) rfl ?_
        intro A55 c55 w11 hS11
        refine Ops.mv_sl rfl rfl rfl ?_
        refine Ops.nil ?_
        refine blockQ_n ?_
        refine thenQ_n ?_
        refine Cd.region ?_
        refine Ops.add rfl rfl rfl (by omega) ?_
        refine Ops.mv_int rfl rfl rfl ?_
        refine Ops.nil ?_
        refine thenQ_n ?_
        refine ⟨(j + 1, A55, c55), by show N.length - (j + 1) < N.length - j; omega, ⟨rfl, rfl, rfl, rfl, rfl, rfl, rfl, rfl, rfl, rfl, trivial⟩, by show j + 1 ≤ N.length; omega, ?_⟩
        show St w w11 (CkI 2 A55 (j + 1) c55 ((N.take (j + 1)).map (nmb G)) :: _)
        rw [take_succ_gl hjN, List.map_append]
        exact St.tail hS11
      · rw [List.take_of_length_le (show N.length ≤ j by omega)] at hS
        have hjl : j = N.length := by omega
        refine Cd.exit ?_
        refine thenQ_x ?_
        refine thenQ_x ?_
        refine blockQ_x ?_
        refine thenQ_n ?_
        refine Cd.seq ?_
        refine Cd.region ?_
        refine Ops.mv_map rfl rfl rfl ?_
        refine Ops.mv_sl rfl rfl rfl ?_
        refine Ops.call (oddOf_c 0 hS rfl (by omega)) rfl rfl rfl ?_
        rintro _ w9 ⟨A59, c59, rfl, hS9⟩
        generalize hx0 : oddP (srt (N.map (nmb G))) = x0 at *
        refine Ops.bld2c (by exact inferInstance) (by exact inferInstance) rfl rfl rfl rfl rfl rfl rfl ?_
        have hS9 : St w w9 ((CkI 2 A59 x0.length c59 x0 :: CkI 2 A11 j c11 (srt (N.map (nmb G))) :: mat 25 2 A43 N.length c43 rs43 N) ++ stK g2 g1 M G Y) := hS9
        have hK9 := hS9.sub (List.sublist_append_right _ _)
        refine Ops.call (reduce_c g2 M ⟨A59, x0.length, c59⟩ x0 G.length _ (hK9.rdM 0 rfl) (fun p hp => ⟨mem_rd hK9 (hY _ (hM p hp).2), (hM p hp).1⟩) (hS9.rdI 0 rfl) ⟨hbr.2, hlt⟩ (by omega)) rfl rfl rfl ?_
        rintro _ w10 ⟨s', x', X, rfl, hx', hsp, hno, hst10, hor⟩
        have hS10 := hS9.call hst10
        refine Ops.new2 hS10 rfl ?_
        intro A14 w11 hS11
        refine Ops.st_agg 2 0 hS11 rfl rfl rfl rfl rfl rfl rfl ?_
        intro w12 hS12
        have hS12 : St w w12 (bxR A14 s' :: (X ++ ((CkI 2 A59 x0.length c59 x0 :: CkI 2 A11 j c11 (srt (N.map (nmb G))) :: mat 25 2 A43 N.length c43 rs43 N) ++ stK g2 g1 M G Y))) := hS12
        have hx'm : CkI 2 s'.a s'.n s'.c x' ∈ X ++ (CkI 2 A59 x0.length c59 x0 :: CkI 2 A11 j c11 (srt (N.map (nmb G))) :: mat 25 2 A43 N.length c43 rs43 N) := by
          rcases hor with ⟨rfl, rfl⟩ | h
          · exact List.mem_append_right _ List.mem_cons_self
          · exact List.mem_append_left _ h
        have hS13 : St w w12 (stK g2 g1 M G (bxR A14 s' :: ((X ++ (CkI 2 A59 x0.length c59 x0 :: CkI 2 A11 j c11 (srt (N.map (nmb G))) :: mat 25 2 A43 N.length c43 rs43 N)) ++ Y))) := by
          refine hS12.perm ?_
          exact permK [_, _] _ _ _ _
        generalize X ++ (CkI 2 A59 x0.length c59 x0 :: CkI 2 A11 j c11 (srt (N.map (nmb G))) :: mat 25 2 A43 N.length c43 rs43 N) = Z at *
        clear hS12 hS11 hS10 hS9 hK9 hS
        have hZ : ∀ q ∈ Z, q ∈ bxR A14 s' :: (Z ++ Y) := fun q hq => List.mem_cons_of_mem _ (List.mem_append_left _ hq)
        have hYZ : ∀ q ∈ Y, q ∈ bxR A14 s' :: (Z ++ Y) := fun q hq => List.mem_cons_of_mem _ (List.mem_append_right _ hq)
        have hB14 := hS13.rd 2 rfl
        have hxR := mem_rd hS13 (List.mem_cons_of_mem _ (List.mem_cons_of_mem _ (hZ _ hx'm)))
        have hxl' := hxR.1
        have hxb := hx'.1.len hx'.2
        generalize hZY : bxR A14 s' :: (Z ++ Y) = ZY at *
        rw [hbr.1] at hsp
        refine Ops.nil ?_
        refine thenQ_n ?_
        refine Cd.seq ?_
        refine Cd.region ?_
        refine Ops.fld hB14 rfl rfl rfl rfl inferInstance ?_
        skip
        refine Ops.ldf_s hB14 rfl rfl rfl rfl rfl ?_
        refine Ops.len rfl rfl ?_
        refine Ops.gtr rfl rfl rfl ?_
        refine Ops.nil ?_
        refine thenQ_n ?_
        refine Cd.cond_p _ rfl (fun h4 => ?_) (fun h4 => ?_)
        · obtain ⟨m, hm⟩ : ∃ m, x'.length = m + 1 := ⟨x'.length - 1, by omega⟩
          have hgl := last_gi hm
          have e1 : ((s'.n : Int) - 1) = (m : Int) := by omega
          have hnone := hno _ hgl
          skip
          refine Cd.drawN [10] [.ex (.map (some g2)), .ex (.pointer (ptrAt (A14) 1)), .ex (.slice (s'.a) (s'.n) (s'.c)), .ex (.pointer (ptrAt (A14) 1)), .ex (.slice (s'.a) (s'.n) (s'.c)), .ex (.int .i64 (((s'.n : Nat) : Int))), .ex (.int .i64 ((((s'.n : Nat) : Int)) - ((1 : Int)))), .ex (.pointer (ptrAt s'.a ((s'.n : Int) - 1).toNat)), .ex (.int .i64 (gi x' ((s'.n : Int) - 1))), .ex (.agg #[.slice (none) (0) (0), .slice (s'.a) (s'.n) (s'.c)]), .pr (fun _ w' => St w w' (stK g2 g1 (putA M (gi x' ((s'.n : Int) - 1)) (s', x')) G ZY))] (by kernel_rfl) (by kernel_rfl) (List.forall_mem_cons.2 ⟨Yd.lasts_ex _, (List.forall_mem_cons.2 ⟨Yd.lasts_ex _, (List.forall_mem_cons.2 ⟨Yd.lasts_ex _, (List.forall_mem_cons.2 ⟨Yd.lasts_ex _, (List.forall_mem_cons.2 ⟨Yd.lasts_ex _, (List.forall_mem_cons.2 ⟨Yd.lasts_ex _, (List.forall_mem_cons.2 ⟨Yd.lasts_ex _, (List.forall_mem_cons.2 ⟨Yd.lasts_ex _, (List.forall_mem_cons.2 ⟨Yd.lasts_ex _, (List.forall_mem_cons.2 ⟨Yd.lasts_ex _, (List.forall_mem_cons.2 ⟨Yd.lasts_pr (fun v w w' h hb => h.later hb), (fun _ h => by cases h)⟩)⟩)⟩)⟩)⟩)⟩)⟩)⟩)⟩)⟩)⟩) ⟨?_, ?_, ?_, ?_, ?_, ?_, ?_, ?_, ?_, ?_, ?_, trivial⟩ ?_
          · intro e1 w1 cc hlo hhi hb0 hp hun hq
            show Ops _ _ _ _ _ _ _
            refine Ops.mv_map rfl rfl rfl ?_
            refine Ops.nil ?_
            exact AfterN.dn rfl (Below.refl _ _) (by exact rfl)
          · intro e1 w1 cc hlo hhi hb0 hp hun hq
            show Ops _ _ _ _ _ _ _
            replace hlo := le_of_lo hlo (b := 0) (by kernel_rfl)
            replace hhi := le_of_hi hhi (b := 0) (by kernel_rfl)
            obtain rfl : cc = 0 := by omega
            have hb := hb0 rfl
            refine Ops.fld (hB14.below hb) rfl rfl rfl rfl inferInstance ?_
            refine Ops.nil ?_
            exact AfterN.dn rfl (Below.refl _ _) (by exact rfl)
          · intro e1 w1 cc hlo hhi hb0 hp hun hq
            show Ops _ _ _ _ _ _ _
            replace hlo := le_of_lo hlo (b := 0) (by kernel_rfl)
            replace hhi := le_of_hi hhi (b := 0) (by kernel_rfl)
            obtain rfl : cc = 0 := by omega
            have hb := hb0 rfl
            refine Ops.ldf_s (hB14.below hb) rfl rfl rfl rfl rfl ?_
            refine Ops.nil ?_
            exact AfterN.dn rfl (Below.refl _ _) (by exact rfl)
          · intro e1 w1 cc hlo hhi hb0 hp hun hq
            show Ops _ _ _ _ _ _ _
            replace hlo := le_of_lo hlo (b := 0) (by kernel_rfl)
            replace hhi := le_of_hi hhi (b := 0) (by kernel_rfl)
            obtain rfl : cc = 0 := by omega
            have hb := hb0 rfl
            refine Ops.fld (hB14.below hb) rfl rfl rfl rfl inferInstance ?_
            refine Ops.nil ?_
            exact AfterN.dn rfl (Below.refl _ _) (by exact rfl)
          · intro e1 w1 cc hlo hhi hb0 hp hun hq
            show Ops _ _ _ _ _ _ _
            replace hlo := le_of_lo hlo (b := 0) (by kernel_rfl)
            replace hhi := le_of_hi hhi (b := 0) (by kernel_rfl)
            obtain rfl : cc = 0 := by omega
            have hb := hb0 rfl
            refine Ops.ldf_s (hB14.below hb) rfl rfl rfl rfl rfl ?_
            refine Ops.nil ?_
            exact AfterN.dn rfl (Below.refl _ _) (by exact rfl)
          · intro e1 w1 cc hlo hhi hb0 hp hun hq
            show Ops _ _ _ _ _ _ _
            refine Ops.len rfl rfl ?_
            refine Ops.nil ?_
            exact AfterN.dn rfl (Below.refl _ _) (by exact rfl)
          · intro e1 w1 cc hlo hhi hb0 hp hun hq
            show Ops _ _ _ _ _ _ _
            refine Ops.sub rfl rfl rfl (by omega) ?_
            refine Ops.nil ?_
            exact AfterN.dn rfl (Below.refl _ _) (by exact rfl)
          · intro e1 w1 cc hlo hhi hb0 hp hun hq
            show Ops _ _ _ _ _ _ _
            replace hlo := le_of_lo hlo (b := 0) (by kernel_rfl)
            replace hhi := le_of_hi hhi (b := 0) (by kernel_rfl)
            obtain rfl : cc = 0 := by omega
            have hb := hb0 rfl
            refine Ops.idx (i := (s'.n : Int) - 1) (hxR.later hb).2 rfl rfl rfl (by omega) (by omega) ?_
            refine Ops.nil ?_
            exact AfterN.dn rfl (Below.refl _ _) (by exact rfl)
          · intro e1 w1 cc hlo hhi hb0 hp hun hq
            show Ops _ _ _ _ _ _ _
            replace hlo := le_of_lo hlo (b := 0) (by kernel_rfl)
            replace hhi := le_of_hi hhi (b := 0) (by kernel_rfl)
            obtain rfl : cc = 0 := by omega
            have hb := hb0 rfl
            refine Ops.ld_int (i := (s'.n : Int) - 1) (hxR.later hb) rfl (by omega) rfl rfl ?_
            refine Ops.nil ?_
            exact AfterN.dn rfl (Below.refl _ _) (by exact rfl)
          · intro e1 w1 cc hlo hhi hb0 hp hun hq
            show Ops _ _ _ _ _ _ _
            replace hlo := le_of_lo hlo (b := 0) (by kernel_rfl)
            replace hhi := le_of_hi hhi (b := 0) (by kernel_rfl)
            obtain rfl : cc = 0 := by omega
            have hb := hb0 rfl
            refine Ops.ld_agg 1 (hB14.below hb) rfl rfl rfl ?_
            refine Ops.nil ?_
            exact AfterN.dn rfl (Below.refl _ _) (by exact rfl)
          · intro e1 w1 cc hlo hhi hb0 hp hun hq
            show Ops _ _ _ _ _ _ _
            replace hlo := le_of_lo hlo (b := 0) (by kernel_rfl)
            replace hhi := le_of_hi hhi (b := 0) (by kernel_rfl)
            obtain rfl : cc = 0 := by omega
            have hb := hb0 rfl
            refine Ops.upm rfl keyI 0 (u := (s', x')) (a := gi x' ((s'.n : Int) - 1)) (hS13.later hb) rfl rfl rfl rfl ?_
            intro w9 hS9
            refine Ops.nil ?_
            exact AfterT.st rfl hS9
          intro _ w13 _ hu
          have hT := hu 10 _ rfl (by kernel_rfl)
          rw [e1, putA_new (getA_none_mem hnone)] at hT
          generalize gi x' (m : Int) = t at *
          refine blockQ_n ?_
          refine thenQ_n ?_
          refine Cd.region ?_
          refine Ops.add rfl rfl rfl (by omega) ?_
          refine Ops.mv_int rfl rfl rfl ?_
          refine Ops.nil ?_
          refine thenQ_n ?_
          refine ⟨(i + 1, M ++ [(t, (s', x'))], ZY), by show H.length - (i + 1) < H.length - i; omega, ⟨rfl, rfl, rfl, rfl, rfl, rfl, trivial⟩, by show i + 1 ≤ H.length; omega, by show (M ++ [_]).length ≤ i + 1; simp; omega, fun p hp => ?_, keys_snoc hMk (getA_keys hnone), ?_, fun q hq => hYZ _ (hin q hq), hT⟩
          · rcases List.mem_append.1 hp with hp | hp
            · exact ⟨(hM p hp).1, hYZ _ (hM p hp).2⟩
            · obtain rfl := List.mem_singleton.1 hp
              exact ⟨⟨hx', hgl⟩, hZ _ hx'm⟩
          · show Eqs (spK (M ++ [_])) ((H.take (i + 1)).map _)
            rw [spK_snoc, htk]
            exact eqs_snoc1 hE hsp
        · have hnil : x' = [] := List.eq_nil_of_length_eq_zero (by omega)
          rw [hnil, mkb_nil, Nat.xor_zero] at hsp
          refine Cd.skip ?_
          refine blockQ_n ?_
          refine thenQ_n ?_
          refine Cd.region ?_
          refine Ops.add rfl rfl rfl (by omega) ?_
          refine Ops.mv_int rfl rfl rfl ?_
          refine Ops.nil ?_
          refine thenQ_n ?_
          exact ⟨(i + 1, M, ZY), by show H.length - (i + 1) < H.length - i; omega, ⟨rfl, rfl, rfl, rfl, rfl, rfl, trivial⟩, by show i + 1 ≤ H.length; omega, by show M.length ≤ i + 1; omega, fun p hp => ⟨(hM p hp).1, hYZ _ (hM p hp).2⟩, hMk, by show Eqs (spK M) ((H.take (i + 1)).map _); rw [htk]; exact eqs_snoc0 hE hsp, fun q hq => hYZ _ (hin q hq), hS13⟩
    · rw [List.take_of_length_le (show H.length ≤ i by omega)] at hE
      refine Cd.exit ?_
      refine thenQ_x ?_
      refine thenQ_x ?_
      refine blockQ_x ?_
      refine thenQ_n ?_
      refine Cd.seq ?_
      refine Cd.region ?_
      refine Ops.mv_map rfl rfl rfl ?_
      refine Ops.lenM (hS.rdM 0 rfl) rfl rfl ?_
      refine Ops.mv_int rfl rfl rfl ?_
      refine Ops.nil ?_
      refine thenQ_n ?_
      refine Cd.ret ?_
      refine ret1_i rfl ?_
      refine ⟨M.length, by show Value.int .i64 ((prV (Value.int .i64) redV M).length : Int) = _; simp [prV], ?_, by omega, hS.none⟩
      rw [hmat]
      exact kept_rk hMk (fun p hp => (hM p hp).1) hE
end Go.Proofs.YtdedegbendjmbaaGreatDoor.Vc
/-
  Plain mathematics: polynomials told by their coefficients, and what becomes of numbers of faces. Conditions: as each states them. No program in sight.
-/
namespace Go.Proofs.YtdedegbendjmbaaGreatDoor.Vc

def sumN : Nat → (Nat → Int) → Int
  | 0, _ => 0
  | n + 1, g => sumN n g + g n
theorem sumN_congr {g h : Nat → Int} : ∀ {n : Nat}, (∀ i, i < n → g i = h i) → sumN n g = sumN n h
  | 0, _ => rfl
  | n + 1, H => by unfold sumN; rw [sumN_congr (n := n) fun i hi => H i (by omega), H n (by omega)]
theorem sumN_front (g : Nat → Int) : ∀ n : Nat, sumN (n + 1) g = g 0 + sumN n fun i => g (i + 1)
  | 0 => by simp [sumN]
  | n + 1 => by
    have := sumN_front g n
    rw [sumN, this, sumN]
    omega
theorem sumN_add (g h : Nat → Int) : ∀ n : Nat, sumN n (fun i => g i + h i) = sumN n g + sumN n h
  | 0 => rfl
  | n + 1 => by unfold sumN; rw [sumN_add g h n]; show _ + _ + (g n + h n) = _; omega
theorem sumN_mul (a : Int) (g : Nat → Int) : ∀ n : Nat, sumN n (fun i => a * g i) = a * sumN n g
  | 0 => by simp [sumN]
  | n + 1 => by unfold sumN; rw [sumN_mul a g n, Int.mul_add]
theorem sumN_zero : ∀ n : Nat, sumN n (fun _ => 0) = 0
  | 0 => rfl
  | n + 1 => by unfold sumN; rw [sumN_zero n]; rfl

def pX (p : Nat → Int) : Nat → Int
  | 0 => 0
  | n + 1 => p n
def pD (p : Nat → Int) : Nat → Int := fun n => p n - pX p n
def p1 : Nat → Int := fun n => if n = 0 then 1 else 0
def pDn : Nat → Nat → Int
  | 0 => p1
  | m + 1 => pD (pDn m)
def pW : List Int → Nat → Nat → Int
  | [], _ => fun _ => 0
  | a :: r, m => fun n => a * pDn m n + pX (pW r (m - 1)) n
theorem pX_D (p : Nat → Int) : pX (pD p) = pD (pX p) := by
  funext n
  match n with
  | 0 => rfl
  | 1 => show pD p 0 = pX p 1 - pX (pX p) 1; rfl
  | n + 2 => rfl
theorem pX_zero : pX (fun _ => 0) = fun _ => 0 := by funext n; cases n <;> rfl
theorem pW_D : ∀ {f : List Int} {m : Nat}, f.length ≤ m + 1 → pW f (m + 1) = pD (pW f m)
  | [], m, _ => by funext n; cases n <;> rfl
  | a :: r, m, h => by
    have e : pX (pW r m) = pD (pX (pW r (m - 1))) := by
      match r, m, h with
      | [], m, _ => funext n; match n with
        | 0 => rfl
        | 1 => rfl
        | n + 2 => rfl
      | b :: s, m + 1, h =>
        show pX (pW (b :: s) (m + 1)) = pD (pX (pW (b :: s) m))
        rw [pW_D (f := b :: s) (m := m) (by simpa using h), pX_D]
    funext n
    show a * pD (pDn m) n + pX (pW r m) n = (a * pDn m n + pX (pW r (m - 1)) n) - pX (fun n => a * pDn m n + pX (pW r (m - 1)) n) n
    rw [e]
    cases n with
    | zero => simp [pD, pX]
    | succ n => simp only [pD, pX, Int.mul_sub]; omega
theorem pDn_deg : ∀ {m n : Nat}, m < n → pDn m n = 0
  | 0, n, h => by simp [pDn, p1]; omega
  | m + 1, n + 1, h => by
    show pDn m (n + 1) - pDn m n = 0
    rw [pDn_deg (m := m) (by omega), pDn_deg (m := m) (by omega)]; rfl
def conv (p q : Nat → Int) (n : Nat) : Int := sumN (n + 1) fun i => p i * q (n - i)
theorem conv_add (p p' q : Nat → Int) (n : Nat) : conv (fun i => p i + p' i) q n = conv p q n + conv p' q n := by
  unfold conv
  rw [← sumN_add]
  exact sumN_congr fun i _ => Int.add_mul _ _ _
theorem conv_mul (a : Int) (p q : Nat → Int) (n : Nat) : conv (fun i => a * p i) q n = a * conv p q n := by
  unfold conv
  rw [← sumN_mul]
  exact sumN_congr fun i _ => Int.mul_assoc _ _ _
theorem conv_zero (q : Nat → Int) (n : Nat) : conv (fun _ => 0) q n = 0 := by
  unfold conv
  rw [sumN_congr (h := fun _ => 0) fun i _ => Int.zero_mul _]
  exact sumN_zero _
theorem conv_X (p q : Nat → Int) (n : Nat) : conv (pX p) q n = pX (conv p q) n := by
  cases n with
  | zero => simp [conv, sumN, pX]
  | succ n =>
    show sumN (n + 1 + 1) _ = sumN (n + 1) _
    rw [sumN_front]
    simp only [pX, Int.zero_mul, Int.zero_add]
    exact sumN_congr fun i hi => by rw [show n + 1 - (i + 1) = n - i by omega]
theorem conv_D (p q : Nat → Int) (n : Nat) : conv (pD p) q n = pD (conv p q) n := by
  have h : conv (pD p) q n + conv (pX p) q n = conv p q n := by
    rw [← conv_add]
    congr 1
    funext i
    show p i - pX p i + pX p i = p i
    omega
  rw [conv_X] at h
  show _ = conv p q n - pX (conv p q) n
  omega
theorem conv_one (q : Nat → Int) (n : Nat) : conv p1 q n = q n := by
  unfold conv
  rw [sumN_front, sumN_congr (h := fun _ => 0) (n := n) fun i _ => by simp [p1], sumN_zero]
  simp [p1]
theorem conv_Dn {g : List Int} {k : Nat} (hg : g.length ≤ k + 1) : ∀ m n : Nat, conv (pDn m) (pW g k) n = pW g (m + k) n
  | 0, n => by rw [Nat.zero_add]; exact conv_one _ n
  | m + 1, n => by
    show conv (pD (pDn m)) (pW g k) n = _
    rw [conv_D, show conv (pDn m) (pW g k) = pW g (m + k) from funext (conv_Dn hg m), show m + 1 + k = m + k + 1 by omega, pW_D (by omega)]

/-! lists of coefficients -/
def addL : List Int → List Int → List Int
  | [], g => g
  | f, [] => f
  | a :: f, b :: g => (a + b) :: addL f g
def cvl : List Int → List Int → List Int
  | [], _ => []
  | a :: r, g => addL (g.map (a * ·)) (0 :: cvl r g)
theorem addL_len : ∀ f g : List Int, (addL f g).length = max f.length g.length
  | [], g => by simp [addL]
  | a :: f, [] => by simp [addL]
  | a :: f, b :: g => by simp [addL, addL_len f g]
theorem addL_at : ∀ (f g : List Int) (n : Nat), (addL f g).getD n 0 = f.getD n 0 + g.getD n 0
  | [], g, n => by simp [addL]
  | a :: f, [], n => by simp [addL]
  | a :: f, b :: g, 0 => by simp [addL]
  | a :: f, b :: g, n + 1 => by simpa [addL] using addL_at f g n
theorem getD_map (a : Int) (g : List Int) (n : Nat) : (g.map (a * ·)).getD n 0 = a * g.getD n 0 := by
  simp only [List.getD_eq_getElem?_getD, List.getElem?_map]
  cases g[n]? <;> simp
theorem getD_cons0 (l : List Int) : (fun n => ((0 : Int) :: l).getD n 0) = pX fun n => l.getD n 0 := by
  funext n; cases n <;> rfl
theorem pW_add : ∀ (f g : List Int) (m n : Nat), pW (addL f g) m n = pW f m n + pW g m n
  | [], g, m, n => by show _ = 0 + _; simp [addL]
  | a :: f, [], m, n => by show _ = _ + 0; simp [addL]
  | a :: f, b :: g, m, n => by
    show (a + b) * pDn m n + pX (pW (addL f g) (m - 1)) n = (a * pDn m n + pX (pW f (m - 1)) n) + (b * pDn m n + pX (pW g (m - 1)) n)
    cases n with
    | zero => simp only [pX, Int.add_mul]; omega
    | succ n => simp only [pX, Int.add_mul, pW_add f g (m - 1) n]; omega
theorem pW_smul (a : Int) : ∀ (g : List Int) (m n : Nat), pW (g.map (a * ·)) m n = a * pW g m n
  | [], m, n => by show 0 = a * 0; simp
  | b :: g, m, n => by
    show (a * b) * pDn m n + pX (pW (g.map (a * ·)) (m - 1)) n = a * (b * pDn m n + pX (pW g (m - 1)) n)
    cases n with
    | zero => simp only [pX, Int.mul_add, Int.mul_assoc]; simp
    | succ n => simp only [pX, Int.mul_add, Int.mul_assoc, pW_smul a g (m - 1) n]
/-- the h-vector of an f-vector -/
def hP (f : List Int) : List Int := (List.range f.length).map (pW f (f.length - 1))
theorem sumN_X (p : Nat → Int) (n : Nat) : sumN (n + 1) (pX p) = sumN n p := by
  rw [sumN_front]
  show 0 + sumN n p = _
  omega
theorem sumN_D (p : Nat → Int) (n : Nat) : sumN (n + 1) (pD p) = p n := by
  induction n with
  | zero => simp [sumN, pD, pX]
  | succ n ih => rw [sumN, ih]; show p n + (p (n + 1) - p n) = _; omega
end Go.Proofs.YtdedegbendjmbaaGreatDoor.Vc
/-
  Numbers of faces, vectors and characteristics of complexes, walked in the program. Conditions: as each states them.
-/
namespace Go.Proofs.YtdedegbendjmbaaGreatDoor.Vc
open Go.RowKit

theorem depth_c (Pc : Option Addr) (V : Int) (A : Option Addr) (n c : Nat) (rs : List SlV) (F : List (List Int)) (w : World) (hP : Rd w Pc 2 (fun j => [Value.int .i64 V, .slice A n c].getD j undef)) (hR : RowsI w A n rs F) (hn : n ≤ 1000) (h6 : ∀ f ∈ F, f.length ≤ 1000000) :
    Ret Tryz.prog 132 [.pointer Pc] w (fun v w' => v = .int .i64 (dpt F : Int) ∧ w' = w) := by
  have hFl := hR.len
  refine Ret.of_cd Tryz.func132 rfl Tryz.ntmps132 rfl (post1 rfl) ?_
  refine Cd.seq ?_
  refine Cd.region ?_
  refine Ops.mv_int rfl rfl rfl ?_
  refine Ops.nil ?_
  refine thenQ_n ?_
  refine Cd.seq ?_
  refine Cd.region ?_
  refine Ops.mv_int rfl rfl rfl ?_
  refine Ops.nil ?_
  refine thenQ_n ?_
  refine Cd.seq ?_
  refine Cd.seq ?_
  refine Cd.region ?_
  refine Ops.mv_ptr rfl rfl rfl ?_
  refine Ops.nilp hP (by omega) rfl rfl ?_
  skip
  refine Ops.fld hP rfl rfl rfl rfl inferInstance ?_
  skip
  refine Ops.ldf_s hP rfl rfl rfl rfl rfl ?_
  refine Ops.len rfl rfl ?_
  refine Ops.mv_int rfl rfl rfl ?_
  refine Ops.nil ?_
  refine thenQ_n ?_
  refine Cd.block ?_
  refine Cd.loop (α := Nat) (fun i => [(3, .int .i64 ((dpt (F.take i) : Nat) : Int)), (9, .slice A n c), (10, .int .i64 (n : Int)), (11, .int .i64 (i : Int))]) (fun i w' => w' = w ∧ i ≤ n) (fun i => n - i) 0 ⟨rfl, rfl, rfl, rfl, trivial⟩ ⟨rfl, Nat.zero_le _⟩ ?_
  rintro i e w ⟨rfl, hi⟩
  refine Cd.seq ?_
  refine Cd.region ?_
  refine Ops.lss rfl rfl rfl ?_
  refine Ops.nil ?_
  refine thenQ_n ?_
  refine Cd.seq ?_
  refine Cd.cond_p _ rfl (fun h3 => ?_) (fun h3 => ?_)
  · have hiF : i < F.length := by omega
    have hrow := hR.at_ (i := (i : Int)) (by omega) (by omega)
    have hrl0 := hrow.1
    refine Cd.skip ?_
    refine thenQ_n ?_
    refine Cd.seq ?_
    refine Cd.block ?_
    refine Cd.seq ?_
    refine Cd.region ?_
    refine Ops.idx hR.top.2 rfl rfl rfl (by omega) (by omega) ?_
    refine Ops.ld_sl hR.top rfl (by omega) rfl rfl ?_
    refine Ops.mv_sl rfl rfl rfl ?_
    refine Ops.nil ?_
    refine thenQ_n ?_
    refine Cd.region ?_
    refine Ops.mv_int rfl rfl rfl ?_
    refine Ops.mv_sl rfl rfl rfl ?_
    refine Ops.call (sizeI_c _ _ _ _) rfl rfl rfl ?_
    rintro _ _ ⟨rfl, rfl⟩
    refine Ops.maxI rfl rfl rfl ?_
    refine Ops.mv_int rfl rfl rfl ?_
    refine Ops.nil ?_
    refine blockQ_n ?_
    refine thenQ_n ?_
    refine Cd.region ?_
    refine Ops.add rfl rfl rfl (by omega) ?_
    refine Ops.mv_int rfl rfl rfl ?_
    refine Ops.nil ?_
    refine thenQ_n ?_
    exact ⟨i + 1, by show n - (i + 1) < n - i; omega, ⟨by show Value.int .i64 _ = .int .i64 _; rw [dpt_succ hiF]; congr 1; omega, rfl, rfl, rfl, trivial⟩, rfl, by omega⟩
  · refine Cd.exit ?_
    refine thenQ_x ?_
    refine thenQ_x ?_
    refine blockQ_x ?_
    refine thenQ_n ?_
    refine Cd.seq ?_
    refine Cd.region ?_
    refine Ops.mv_int rfl rfl rfl ?_
    refine Ops.mv_int rfl rfl rfl ?_
    refine Ops.nil ?_
    refine thenQ_n ?_
    refine Cd.ret ?_
    refine ret1_i rfl ?_
    have hin : i = F.length := by omega
    refine ⟨?_, rfl⟩
    rw [hin, List.take_length]

/-- the numbers of faces with fewer than so many elements -/
def fvG (F : List (List Int)) (k : Nat) : List Int := (List.range k).map fun j => ((fcs F j).length : Int)
theorem fvG_succ (F : List (List Int)) (k : Nat) : fvG F (k + 1) = fvG F k ++ [((fcs F k).length : Int)] := by simp [fvG, List.range_succ]
theorem fvP_bd {F : List (List Int)} (hn : F.length ≤ 400) (h6 : ∀ f ∈ F, f.length ≤ 6) : ∀ x ∈ fvP F, 0 ≤ x ∧ x ≤ 30000 := fun x hx => by
  obtain ⟨k, _, rfl⟩ := List.mem_map.1 hx
  have := fcs_num k h6
  omega

theorem fVector_c (Pc : Option Addr) (V : Int) (A : Option Addr) (n c : Nat) (rs : List SlV) (F : List (List Int)) (w : World) (hP : Rd w Pc 2 (fun j => [Value.int .i64 V, .slice A n c].getD j undef)) (hR : RowsI w A n rs F) (hn : n ≤ 1000) (h6 : ∀ f ∈ F, f.length ≤ 6) :
    Ret Tryz.prog 94 [.pointer Pc] w (fun v w' => ∃ A' c', v = .slice A' (dpt F + 1) c' ∧ St w w' [CkI 2 A' (dpt F + 1) c' (fvP F)]) := by
  have hd := dpt_bd h6
  refine Ret.of_cd Tryz.func94 rfl Tryz.ntmps94 rfl (post1 rfl) ?_
  refine Cd.seq ?_
  refine Cd.region ?_
  refine Ops.mv_sl rfl rfl rfl ?_
  refine Ops.nil ?_
  refine thenQ_n ?_
  refine Cd.seq ?_
  refine Cd.region ?_
  refine Ops.mv_sl rfl rfl rfl ?_
  refine Ops.nil ?_
  refine thenQ_n ?_
  refine Cd.seq ?_
  refine Cd.seq ?_
  refine Cd.region ?_
  refine Ops.mv_ptr rfl rfl rfl ?_
  refine Ops.call (depth_c Pc V A n c rs F w hP hR hn (fun f hf => by have := h6 f hf; omega)) rfl rfl rfl ?_
  rintro _ w ⟨rfl, rfl⟩
  refine Ops.add rfl rfl rfl (by omega) ?_
  refine Ops.mv_int rfl rfl rfl ?_
  refine Ops.nil ?_
  refine thenQ_n ?_
  refine Cd.block ?_
  refine Cd.loop (α := Nat × Option Addr × Nat) (fun z => [(0, .pointer Pc), (3, .slice z.2.1 z.1 z.2.2), (7, .int .i64 ((dpt F : Int) + 1)), (8, .int .i64 (z.1 : Int))]) (fun z w' => z.1 ≤ dpt F + 1 ∧ St w w' [CkI 2 z.2.1 z.1 z.2.2 (fvG F z.1)]) (fun z => dpt F + 1 - z.1) (0, none, 0) ⟨rfl, rfl, rfl, rfl, trivial⟩ ⟨Nat.zero_le _, (St.refl w).nil _⟩ ?_
  rintro ⟨k, A3, c3⟩ e w1 ⟨hk, hS⟩
  dsimp only at hk hS ⊢
  refine Cd.seq ?_
  refine Cd.region ?_
  refine Ops.lss rfl rfl rfl ?_
  refine Ops.nil ?_
  refine thenQ_n ?_
  refine Cd.seq ?_
  refine Cd.cond_p _ rfl (fun h1 => ?_) (fun h1 => ?_)
  · refine Cd.skip ?_
    refine thenQ_n ?_
    refine Cd.seq ?_
    refine Cd.block ?_
    refine Cd.seq ?_
    refine Cd.region ?_
    refine Ops.mv_int rfl rfl rfl ?_
    refine Ops.mv_int rfl rfl rfl ?_
    refine Ops.nil ?_
    refine thenQ_n ?_
    refine Cd.region ?_
    refine Ops.mv_sl rfl rfl rfl ?_
    refine Ops.mv_ptr rfl rfl rfl ?_
    refine Ops.mv_int rfl rfl rfl ?_
    refine Ops.call (facesWith_c Pc V A n c rs F k _ (hS.old hP) (hS.oldRows hR) hn h6 (by omega)) rfl rfl rfl ?_
    rintro _ w2 ⟨A4, c4, rs4, rfl, _, hT⟩
    have hS2 : St w w2 [CkI 2 A3 k c3 (fvG F k)] := hS.later hT.below
    have hnum := fcs_num (F := F) k h6
    refine Ops.call (sizeR_c _ _ _ _) rfl rfl rfl ?_
    rintro _ _ ⟨rfl, rfl⟩
    refine Ops.bs1I hS2 rfl rfl rfl ?_
    intro A5 w3 hS3
    refine Ops.appI 1 hS3 rfl (hS3.rdI 0 rfl) rfl rfl rfl (by omega) (by omega) rfl ?_
    intro A6 c6 w4 hS4
    have hS4 : St w w4 [CkI 2 A6 (k + 1) c6 (fvG F (k + 1))] := by rw [fvG_succ]; exact hS4.tail
    refine Ops.mv_sl rfl rfl rfl ?_
    refine Ops.nil ?_
    refine blockQ_n ?_
    refine thenQ_n ?_
    refine Cd.region ?_
    refine Ops.add rfl rfl rfl (by omega) ?_
    refine Ops.mv_int rfl rfl rfl ?_
    refine Ops.nil ?_
    refine thenQ_n ?_
    exact ⟨(k + 1, A6, c6), by show dpt F + 1 - (k + 1) < dpt F + 1 - k; omega, ⟨rfl, rfl, rfl, rfl, trivial⟩, by show k + 1 ≤ dpt F + 1; omega, hS4⟩
  · have hke : k = dpt F + 1 := by omega
    subst hke
    refine Cd.exit ?_
    refine thenQ_x ?_
    refine thenQ_x ?_
    refine blockQ_x ?_
    refine thenQ_n ?_
    refine Cd.seq ?_
    refine Cd.region ?_
    refine Ops.mv_sl rfl rfl rfl ?_
    refine Ops.mv_sl rfl rfl rfl ?_
    refine Ops.nil ?_
    refine thenQ_n ?_
    refine Cd.ret ?_
    refine ret1_s rfl ?_
    exact ⟨A3, c3, rfl, hS⟩

end Go.Proofs.YtdedegbendjmbaaGreatDoor.Vc
/-
  Characteristics and h-vectors of complexes, walked in the program. Conditions: as each states them.
-/
namespace Go.Proofs.YtdedegbendjmbaaGreatDoor.Vc
open Go.RowKit

/-- the terms of an alternating sum -/
def altT (f : List Int) (i : Nat) : Int := if i % 2 = 0 then gi f (i : Int) else -gi f (i : Int)
def altS (f : List Int) : Int := sumN f.length (altT f)
/-- binomials as the program counts them -/
def chz (m : Nat) : Nat → Int
  | 0 => 1
  | i + 1 => chz m i * ((m : Int) - i) / ((i : Int) + 1)
/-! h-vectors, term by term -/
def hvE (f : List Int) (d k i p : Nat) : Int := pW (f.take k) d p + (if k ≤ p ∧ p - k < i then gi f (k : Int) * pDn (d - k) (p - k) else 0)
def hvL (f : List Int) (d k i : Nat) : List Int := (List.range (d + 1)).map (hvE f d k i)
theorem pDn_bd : ∀ (m n : Nat), -(2 ^ m : Int) ≤ pDn m n ∧ pDn m n ≤ 2 ^ m
  | 0, n => by unfold pDn p1; split <;> decide
  | m + 1, n => by
    have h1 := pDn_bd m n
    have e : (2 ^ (m + 1) : Int) = 2 ^ m + 2 ^ m := by rw [Int.pow_succ]; omega
    show -(2 ^ (m + 1) : Int) ≤ pDn m n - pX (pDn m) n ∧ pDn m n - pX (pDn m) n ≤ 2 ^ (m + 1)
    rw [e]
    have h0 : (0 : Int) ≤ 2 ^ m := Int.pow_nonneg (by decide)
    cases n with
    | zero => simp only [pX]; omega
    | succ n =>
      have h2 := pDn_bd m n
      simp only [pX]
      omega
theorem mul_bd {a b x y : Int} (ha : 0 ≤ a ∧ a ≤ b) (hx : -y ≤ x ∧ x ≤ y) : -(b * y) ≤ a * x ∧ a * x ≤ b * y := by
  have h1 : a * x ≤ a * y := Int.mul_le_mul_of_nonneg_left hx.2 ha.1
  have h2 : a * -y ≤ a * x := Int.mul_le_mul_of_nonneg_left hx.1 ha.1
  have h3 : a * y ≤ b * y := Int.mul_le_mul_of_nonneg_right ha.2 (by omega)
  rw [Int.mul_neg] at h2
  omega
theorem pow_le6 {m : Nat} (h : m ≤ 6) : (2 ^ m : Int) ≤ 64 := by
  have : ∀ m, m < 7 → (2 ^ m : Int) ≤ 64 := by decide
  exact this m (by omega)
def hvV (V : Int) (F : List (List Int)) : List Int := if Cplx V F then hP (fvP F) else []
def hvK (V : Int) (F : List (List Int)) : Int := if Cplx V F then 0 else 1
end Go.Proofs.YtdedegbendjmbaaGreatDoor.Vc
/-
  Betti numbers of complexes: what they are, and the program's walk. Conditions: as each states them.
-/
namespace Go.Proofs.YtdedegbendjmbaaGreatDoor.Vc
open Go.RowKit

open Classical in
noncomputable def rkN (L : List Nat) : Nat := if h : ∃ r, IsRk L r then h.choose else 0
theorem rkN_eq {L : List Nat} {r : Nat} (h : IsRk L r) : rkN L = r := by
  have he : ∃ r, IsRk L r := ⟨r, h⟩
  unfold rkN
  rw [dif_pos he]
  exact he.choose_spec.eq h
noncomputable def rkF (F : List (List Int)) (k : Nat) : Nat := if k = 0 then 0 else rkN (matF F k)
theorem rkF_eq {F : List (List Int)} {k r : Nat} (hk : 1 ≤ k) (h : IsRk (matF F k) r) : rkF F k = r := by
  unfold rkF
  rw [if_neg (by omega)]
  exact rkN_eq h
theorem rkF_top {F : List (List Int)} {k : Nat} (hk : dpt F ≤ k) (h1 : 1 ≤ k) : rkF F k = 0 := by
  refine rkF_eq h1 ?_
  unfold matF
  rw [show fcs F (k + 1) = [] from fcs_short (by omega)]
  exact ⟨[], rfl, by simp [sums], Eqs.refl _⟩
noncomputable def btA (F : List (List Int)) (j : Nat) : Int := ((fcs F (j + 1)).length : Int) - (rkF F j : Int) - (rkF F (j + 1) : Int)
noncomputable def btG (F : List (List Int)) (j : Nat) : List Int := (List.range j).map (btA F)
noncomputable def btP (F : List (List Int)) : List Int := btG F (dpt F)
theorem btG_len (F : List (List Int)) (j : Nat) : (btG F j).length = j := by simp [btG]
theorem btG_succ (F : List (List Int)) (j : Nat) : btG F (j + 1) = btG F j ++ [btA F j] := by simp [btG, List.range_succ]
noncomputable def btV (V : Int) (F : List (List Int)) : List Int := if Cplx V F then btP F else []

set_option maxHeartbeats 1000000 in
theorem betti_c (Pc : Option Addr) (V : Int) (A : Option Addr) (n c : Nat) (rs : List SlV) (F : List (List Int)) (w : World) (hT : Tab w) (hP : Rd w Pc 2 (fun j => [Value.int .i64 V, .slice A n c].getD j undef)) (hR : RowsI w A n rs F) (hC : Cplx V F) :
    Ret Tryz.prog 80 [.pointer Pc] w (fun v w' => ∃ A' c', v = .slice A' (dpt F) c' ∧ St w w' [CkI 2 A' (dpt F) c' (btP F)]) := by
  have hFl := hR.len
  have hF4 := hC.f
  have h6 : ∀ f ∈ F, f.length ≤ 6 := fun f hf => (hC.row f hf).1.2
  have hd := dpt_bd h6
  refine Ret.of_cd Tryz.func80 rfl Tryz.ntmps80 rfl (post1 rfl) ?_
  refine Cd.seq ?_
  refine Cd.region ?_
  refine Ops.mv_sl rfl rfl rfl ?_
  refine Ops.nil ?_
  refine thenQ_n ?_
  refine Cd.seq ?_
  refine Cd.region ?_
  refine Ops.mv_ptr rfl rfl rfl ?_
  refine Ops.call (fVector_c Pc V A n c rs F _ hP hR (by omega) h6) rfl rfl rfl ?_
  rintro _ w1 ⟨A3, c3, rfl, hst⟩
  have hf1 : RdI w1 A3 (dpt F + 1) (fvP F) := hst.rdI 0 rfl
  refine Ops.mv_sl rfl rfl rfl ?_
  refine Ops.nil ?_
  refine thenQ_n ?_
  refine Cd.seq ?_
  refine Cd.region ?_
  refine Ops.mv_sl rfl rfl rfl ?_
  refine Ops.nil ?_
  refine thenQ_n ?_
  refine Cd.seq ?_
  refine Cd.region ?_
  refine Ops.mv_int rfl rfl rfl ?_
  refine Ops.nil ?_
  refine thenQ_n ?_
  refine Cd.seq ?_
  refine Cd.seq ?_
  refine Cd.region ?_
  refine Ops.mv_int rfl rfl rfl ?_
  refine Ops.nil ?_
  refine thenQ_n ?_
  refine Cd.block ?_
  refine Cd.loop (α := Nat × Option Addr × Nat) (fun z => [(0, .pointer Pc), (3, .slice A3 (dpt F + 1) c3), (4, .slice z.2.1 z.1 z.2.2), (5, .int .i64 (rkF F z.1 : Int)), (6, .int .i64 ((z.1 : Int) + 1))])
    (fun z w' => z.1 ≤ dpt F ∧ rkF F z.1 ≤ 30000 ∧ St w w' [CkI 2 z.2.1 z.1 z.2.2 (btG F z.1), CkI 2 A3 (dpt F + 1) c3 (fvP F)]) (fun z => dpt F - z.1) (0, none, 0) ⟨rfl, rfl, rfl, rfl, rfl, trivial⟩ ⟨Nat.zero_le _, by show rkF F 0 ≤ 30000; simp [rkF], hst.nil _⟩ ?_
  clear hf1 hst
  rintro ⟨j, A4, c4⟩ e w2 ⟨hj, hrk, hS⟩
  dsimp only at hj hrk hS ⊢
  refine Cd.seq ?_
  refine Cd.seq ?_
  refine Cd.region ?_
  refine Ops.mv_int rfl rfl rfl ?_
  refine Ops.mv_sl rfl rfl rfl ?_
  refine Ops.call (sizeI_c _ _ _ _) rfl rfl rfl ?_
  rintro _ w2 ⟨rfl, rfl⟩
  refine Ops.lss rfl rfl rfl ?_
  refine Ops.nil ?_
  refine thenQ_n ?_
  refine Cd.cond_p _ rfl (fun h1 => ?_) (fun h1 => ?_)
  · refine Cd.skip ?_
    refine thenQ_n ?_
    refine Cd.seq ?_
    refine Cd.block ?_
    refine Cd.seq ?_
    refine Cd.region ?_
    refine Ops.mv_int rfl rfl rfl ?_
    refine Ops.nil ?_
    refine thenQ_n ?_
    refine Cd.join (α := Unit) (fun z => [(0, .pointer Pc), (3, .slice A3 (dpt F + 1) c3), (4, .slice A4 j c4), (5, .int .i64 (rkF F j : Int)), (6, .int .i64 ((j : Int) + 1)), (7, .int .i64 (rkF F (j + 1) : Int))])
      (fun z w' => rkF F (j + 1) ≤ 30000 ∧ St w w' [CkI 2 A4 j c4 (btG F j), CkI 2 A3 (dpt F + 1) c3 (fvP F)]) ?_ ?_
    · refine Cd.seq ?_
      refine Cd.region ?_
      refine Ops.mv_int rfl rfl rfl ?_
      refine Ops.add rfl rfl rfl (by omega) ?_
      refine Ops.mv_sl rfl rfl rfl ?_
      refine Ops.call (sizeI_c _ _ _ _) rfl rfl rfl ?_
      rintro _ w2 ⟨rfl, rfl⟩
      refine Ops.lss rfl rfl rfl ?_
      refine Ops.nil ?_
      refine thenQ_n ?_
      refine Cd.cond_p _ rfl (fun h2 => ?_) (fun h2 => ?_)
      · refine Cd.region ?_
        refine Ops.mv_ptr rfl rfl rfl ?_
        refine Ops.mv_int rfl rfl rfl ?_
        refine Ops.add rfl rfl rfl (by omega) ?_
        refine Ops.call (rankWith_c Pc V A n c rs F (j + 1) _ (hT.later hS.below) (hS.old hP) (hS.oldRows hR) hC (by omega)) rfl rfl rfl ?_
        rintro _ w3 ⟨r, rfl, hr, hr3, hst⟩
        have e := rkF_eq (by omega) hr
        refine Ops.mv_int rfl rfl rfl ?_
        refine Ops.nil ?_
        refine thenQ_n ?_
        exact ⟨(), ⟨rfl, rfl, rfl, rfl, rfl, by rw [e]; rfl, trivial⟩, by omega, hS.later hst.below⟩
      · have e := rkF_top (F := F) (k := j + 1) (by omega) (by omega)
        refine Cd.skip ?_
        refine thenQ_n ?_
        exact ⟨(), ⟨rfl, rfl, rfl, rfl, rfl, by rw [e]; rfl, trivial⟩, by omega, hS⟩
    rintro _ e w3 ⟨hrk1, hS3⟩
    have hf3 : RdI w3 A3 (dpt F + 1) (fvP F) := hS3.rdI 1 rfl
    have hfa := fvP_at F (k := j + 1) (by omega)
    have hbd := fvP_bd hF4 h6 _ (show gi (fvP F) ((j + 1 : Nat) : Int) ∈ fvP F by rw [gi_mem (by rw [fvP_len]; omega)]; exact List.getElem_mem _)
    have e1 : ((j : Int) + 1) = ((j + 1 : Nat) : Int) := by omega
    refine Cd.seq ?_
    refine Cd.region ?_
    refine Ops.mv_sl rfl rfl rfl ?_
    refine Ops.mv_sl rfl rfl rfl ?_
    refine Ops.mv_int rfl rfl rfl ?_
    refine Ops.idx hf3.2 rfl rfl rfl (by omega) (by omega) ?_
    refine Ops.ld_int hf3 rfl (by omega) rfl rfl ?_
    rw [e1]
    refine Ops.mv_int rfl rfl rfl ?_
    refine Ops.sub rfl rfl rfl (by omega) ?_
    refine Ops.mv_int rfl rfl rfl ?_
    refine Ops.sub rfl rfl rfl (by omega) ?_
    refine Ops.bs1I hS3 rfl rfl rfl ?_
    intro A34 w4 hS4
    refine Ops.appI 1 hS4 rfl (hS4.rdI 0 rfl) rfl rfl rfl (by omega) (by omega) rfl ?_
    intro A35 c35 w5 hS5
    refine Ops.mv_sl rfl rfl rfl ?_
    refine Ops.nil ?_
    refine thenQ_n ?_
    refine Cd.region ?_
    refine Ops.mv_int rfl rfl rfl ?_
    refine Ops.mv_int rfl rfl rfl ?_
    refine Ops.nil ?_
    refine blockQ_n ?_
    refine thenQ_n ?_
    refine Cd.region ?_
    refine Ops.mv_int rfl rfl rfl ?_
    refine Ops.add rfl rfl rfl (by omega) ?_
    refine Ops.mv_int rfl rfl rfl ?_
    refine Ops.nil ?_
    refine thenQ_n ?_
    refine ⟨(j + 1, A35, c35), by show dpt F - (j + 1) < dpt F - j; omega, ⟨rfl, rfl, rfl, rfl, rfl, trivial⟩, by show j + 1 ≤ dpt F; omega, hrk1, ?_⟩
    show St w w5 [CkI 2 A35 (j + 1) c35 (btG F (j + 1)), _]
    rw [btG_succ, btA, ← hfa]
    exact St.tail hS5
  · have hje : j = dpt F := by omega
    refine Cd.exit ?_
    refine thenQ_x ?_
    refine thenQ_x ?_
    refine blockQ_x ?_
    refine thenQ_n ?_
    refine Cd.seq ?_
    refine Cd.region ?_
    refine Ops.mv_sl rfl rfl rfl ?_
    refine Ops.mv_sl rfl rfl rfl ?_
    refine Ops.nil ?_
    refine thenQ_n ?_
    refine Cd.ret ?_
    refine ret1_s rfl ?_
    subst hje
    exact ⟨A4, c4, rfl, hS.sub (List.Sublist.cons_cons _ (List.nil_sublist _))⟩

theorem ComplexBetti_c (V : Int) (A : Option Addr) (n c : Nat) (rs : List SlV) (F : List (List Int)) (w : World) (hT : Tab w) (hR : RowsI w A n rs F) (hn : n ≤ 9223372036854775807) :
    Ret Tryz.prog 22 [.agg #[.int .i64 V, .slice A n c]] w (AnsR (btV V F) (hvK V F) w) := by
  have hFl := hR.len
  refine Ret.of_cd Tryz.func22 rfl Tryz.ntmps22 rfl (post2 rfl) ?_
  refine Cd.seq ?_
  refine Cd.region ?_
  refine Ops.box2 (St.refl w) rfl rfl ?_
  intro Ab w1 hS1
  refine Ops.mv_sl rfl rfl rfl ?_
  refine Ops.mv_int rfl rfl rfl ?_
  refine Ops.nil ?_
  refine thenQ_n ?_
  refine Cd.seq ?_
  refine Cd.seq ?_
  refine Cd.region ?_
  refine Ops.ld_agg 1 (hS1.rd 0 rfl) rfl rfl rfl ?_
  refine Ops.call (isComplex_c V A n c rs F _ (hT.later hS1.below) (hS1.oldRows hR) hn) rfl rfl rfl ?_
  rintro _ w2 ⟨rfl, hst⟩
  have hS2 := hS1.later hst.below
  unfold btV hvK
  first | refine Ops.not_p rfl rfl ?_ | refine Ops.not rfl rfl ?_
  refine Ops.nil ?_
  refine thenQ_n ?_
  refine Cd.cond_p _ rfl (fun h1 => ?_) (fun h1 => ?_)
  · rw [if_neg h1, if_neg h1]
    refine Cd.seq ?_
    refine Cd.region ?_
    refine Ops.mv_sl rfl rfl rfl ?_
    refine Ops.mv_int rfl rfl rfl ?_
    refine Ops.nil ?_
    refine thenQ_n ?_
    refine Cd.ret ?_
    refine thenQ_r ?_
    refine ret2_si rfl rfl ?_
    exact ⟨none, 0, rfl, hS2.none.nil _⟩
  have hC := Classical.not_not.1 h1
  rw [if_pos hC, if_pos hC]
  refine Cd.skip ?_
  refine thenQ_n ?_
  refine Cd.seq ?_
  refine Cd.region ?_
  refine Ops.call (betti_c Ab V A n c rs F _ (hT.later hS2.below) (hS2.rd 0 rfl) (hS2.oldRows hR) hC) rfl rfl rfl ?_
  rintro _ w3 ⟨A4, c4, rfl, hst3⟩
  have hl : (btP F).length = dpt F := btG_len _ _
  refine Ops.mv_sl rfl rfl rfl ?_
  refine Ops.mv_int rfl rfl rfl ?_
  refine Ops.nil ?_
  refine thenQ_n ?_
  refine Cd.ret ?_
  refine ret2_si rfl rfl ?_
  exact ⟨A4, c4, by rw [hl], by rw [hl]; exact (hS2.call hst3).sub (List.sublist_append_left _ _)⟩
end Go.Proofs.YtdedegbendjmbaaGreatDoor.Vc
/-
  Plain mathematics: the elimination over two elements. Conditions: none.
-/
namespace Go.Proofs.YtdedegbendjmbaaGreatDoor.Vc

theorem rowM_gi {x : List Int} {c : Nat} (h : c < x.length) : (rowM x).testBit c = decide (gi x (c : Int) = 1) := by
  rw [rowM_bit, gi_mem h, List.getElem?_eq_getElem h]; simp
theorem rowM_out {x : List Int} {p : Nat} (h : x.length ≤ p) : (rowM x).testBit p = false := by
  rw [rowM_bit, List.getElem?_eq_none h]; simp
/-- a row added to another from a place on, up to another place -/
def adR (x y : List Int) (c k : Nat) : List Int := (List.range x.length).map fun j => if c ≤ j ∧ j < k then (gi x (j : Int) + gi y (j : Int)) % 2 else gi x (j : Int)
theorem adR_len (x y : List Int) (c k : Nat) : (adR x y c k).length = x.length := by simp [adR]
theorem adR_at {x y : List Int} {c k j : Nat} (h : j < x.length) : gi (adR x y c k) (j : Int) = if c ≤ j ∧ j < k then (gi x (j : Int) + gi y (j : Int)) % 2 else gi x (j : Int) := by
  rw [gi_mem (by rw [adR_len]; exact h)]; simp [adR]
theorem adR_zero (x y : List Int) (c : Nat) : adR x y c c = x := by
  apply List.ext_getElem
  · exact adR_len _ _ _ _
  · intro j h1 h2
    have := adR_at (y := y) (c := c) (k := c) h2
    rw [if_neg (by omega), gi_mem h1, gi_mem h2] at this
    exact this
theorem adR_succ {x y : List Int} {c k : Nat} (hk : c ≤ k) (h : k < x.length) : (adR x y c k).set k ((gi (adR x y c k) (k : Int) + gi y (k : Int)) % 2) = adR x y c (k + 1) := by
  apply List.ext_getElem
  · simp [adR_len]
  · intro j h1 h2
    have h3 : j < x.length := by rw [adR_len] at h2; exact h2
    have e1 := adR_at (y := y) (c := c) (k := k + 1) h3
    rw [gi_mem h2] at e1
    rw [e1, List.getElem_set]
    by_cases e : k = j
    · subst e
      rw [if_pos rfl, if_pos ⟨hk, by omega⟩, adR_at h, if_neg (by omega)]
    · rw [if_neg e]
      have e2 := adR_at (y := y) (c := c) (k := k) h3
      rw [gi_mem (by rw [adR_len]; exact h3)] at e2
      rw [e2]
      by_cases e3 : c ≤ j ∧ j < k
      · rw [if_pos e3, if_pos ⟨e3.1, by omega⟩]
      · rw [if_neg e3, if_neg (by omega)]
def Bin (m : Nat) (x : List Int) : Prop := x.length = m ∧ ∀ e ∈ x, e = 0 ∨ e = 1
theorem Bin.gi {m : Nat} {x : List Int} (h : Bin m x) {j : Nat} (hj : j < m) : Vc.gi x (j : Int) = 0 ∨ Vc.gi x (j : Int) = 1 := by
  have := h.1
  rw [gi_mem (by omega)]; exact h.2 _ (List.getElem_mem _)
theorem adR_bin {m c : Nat} {x y : List Int} (hx : Bin m x) (hy : Bin m y) (k : Nat) : Bin m (adR x y c k) := by
  refine ⟨by rw [adR_len]; exact hx.1, fun e he => ?_⟩
  obtain ⟨j, hj, rfl⟩ := List.mem_iff_getElem.1 he
  have h3 : j < x.length := by rw [adR_len] at hj; exact hj
  have hl := hx.1
  rw [← gi_mem hj, adR_at h3]
  have h1 := hx.gi (j := j) (by omega)
  have h2 := hy.gi (j := j) (by omega)
  split
  · omega
  · exact h1
theorem adR_rowM {m c : Nat} {x y : List Int} (hx : Bin m x) (hy : Bin m y) (hz : ∀ p, p < c → (rowM y).testBit p = false) : rowM (adR x y c m) = rowM x ^^^ rowM y := by
  apply Nat.eq_of_testBit_eq
  intro j
  rw [Nat.testBit_xor]
  have hxl := hx.1
  have hyl := hy.1
  by_cases hj : j < m
  · rw [rowM_gi (by rw [adR_len]; omega), rowM_gi (show j < x.length by omega), adR_at (by omega)]
    by_cases hc : c ≤ j
    · rw [if_pos ⟨hc, hj⟩, rowM_gi (show j < y.length by omega)]
      rcases hx.gi hj with h1 | h1 <;> rcases hy.gi hj with h2 | h2 <;> rw [h1, h2] <;> decide
    · rw [if_neg (by omega), hz j (by omega), Bool.xor_false]
  · rw [rowM_out (by rw [adR_len]; omega), rowM_out (by omega), rowM_out (by omega)]; rfl
/-- two rows exchanged -/
def sw2 {α : Type} (z : α) (M : List α) (r k : Nat) : List α := (M.set r (M.getD k z)).set k (M.getD r z)
theorem sw2_len {α : Type} (z : α) (M : List α) (r k : Nat) : (sw2 z M r k).length = M.length := by simp [sw2]
theorem sw2_at {α : Type} (z : α) {M : List α} {r k j : Nat} (hr : r < M.length) (hk : k < M.length) (hj : j < M.length) : (sw2 z M r k).getD j z = M.getD (if j = k then r else if j = r then k else j) z := by
  unfold sw2
  rw [List.getD_eq_getElem?_getD, List.getElem?_set, List.length_set]
  by_cases e : k = j
  · subst e; rw [if_pos rfl, if_pos hk, if_pos rfl]; rfl
  · rw [if_neg e, if_neg fun h => e h.symm, List.getElem?_set]
    by_cases e2 : r = j
    · subst e2; rw [if_pos rfl, if_pos hr, if_pos rfl]; rfl
    · rw [if_neg e2, if_neg fun h => e2 h.symm, List.getD_eq_getElem?_getD]
theorem sw2_mem {α : Type} (z : α) {M : List α} {r k : Nat} (hr : r < M.length) (hk : k < M.length) (x : α) : x ∈ sw2 z M r k ↔ x ∈ M := by
  have g : ∀ {L : List α} {j : Nat} (h : j < L.length), L.getD j z = L[j] := fun h => by simp [List.getD_eq_getElem?_getD, h]
  constructor
  · intro h
    obtain ⟨j, hj, rfl⟩ := List.mem_iff_getElem.1 h
    have hj' : j < M.length := by rw [sw2_len] at hj; exact hj
    rw [← g hj, sw2_at z hr hk hj', g (by split <;> (try split) <;> omega)]
    exact List.getElem_mem _
  · intro h
    obtain ⟨j, hj, rfl⟩ := List.mem_iff_getElem.1 h
    have key : ∀ i, i < M.length → (if i = k then r else if i = r then k else i) = j → M[j] ∈ sw2 z M r k := fun i hi e => by
      have h1 := sw2_at z hr hk hi
      rw [e, g hj, g (by rw [sw2_len]; exact hi)] at h1
      rw [← h1]; exact List.getElem_mem _
    by_cases e : j = r
    · exact key k hk (by rw [if_pos rfl, e])
    · by_cases e2 : j = k
      · refine key r hr ?_
        by_cases e3 : r = k
        · rw [if_pos e3, e2, e3]
        · rw [if_neg e3, if_pos rfl, e2]
      · exact key j hj (by rw [if_neg e2, if_neg e])

/-- what holds between the columns -/
structure GI (M0 M : List (List Int)) (m rank c : Nat) : Prop where
  len : M.length = M0.length
  row : ∀ x ∈ M, Bin m x
  spn : Eqs (M0.map rowM) (M.map rowM)
  stp : ∀ i, i < rank → ∃ p, (rowM (gl M (i : Int))).testBit p = true ∧ ∀ j, i < j → j < M.length → (rowM (gl M (j : Int))).testBit p = false
  zer : ∀ j, rank ≤ j → j < M.length → ∀ p, p < c → (rowM (gl M (j : Int))).testBit p = false
  rle : rank ≤ M.length
theorem GI.at_ {M0 M : List (List Int)} {m rank c : Nat} (h : GI M0 M m rank c) {j : Nat} (hj : j < M.length) : Bin m (gl M (j : Int)) := h.row _ (by rw [gl_mem hj]; exact List.getElem_mem _)
theorem GI.start {M0 : List (List Int)} {m : Nat} (h : ∀ x ∈ M0, Bin m x) : GI M0 M0 m 0 0 := ⟨rfl, h, Eqs.refl _, fun i hi => by omega, fun j _ _ p hp => by omega, Nat.zero_le _⟩
theorem GI.skip {M0 M : List (List Int)} {m rank c : Nat} (h : GI M0 M m rank c) (hc : c < m) (h0 : ∀ j, rank ≤ j → j < M.length → gi (gl M (j : Int)) (c : Int) = 0) : GI M0 M m rank (c + 1) := ⟨h.len, h.row, h.spn, h.stp, fun j h1 h2 p hp => by
  by_cases e : p = c
  · subst e
    have := (h.at_ h2).1
    rw [rowM_gi (by omega), h0 j h1 h2]; decide
  · exact h.zer j h1 h2 p (by omega), h.rle⟩
theorem GI.swap {M0 M : List (List Int)} {m rank c r : Nat} (h : GI M0 M m rank c) (h1 : rank ≤ r) (h2 : r < M.length) : GI M0 (sw2 [] M r rank) m rank c := by
  have hrk : rank < M.length := by omega
  have hat : ∀ j, j < M.length → gl (sw2 [] M r rank) (j : Int) = gl M ((if j = rank then r else if j = r then rank else j : Nat) : Int) := fun j hj => by
    have := sw2_at [] h2 hrk hj
    simpa [gl] using this
  have hin : ∀ j, j < M.length → (if j = rank then r else if j = r then rank else j) < M.length := fun j hj => by split <;> (try split) <;> omega
  refine ⟨by rw [sw2_len]; exact h.len, fun x hx => h.row x ((sw2_mem [] h2 hrk x).1 hx), h.spn.trans (Eqs.mem fun v => ?_), fun i hi => ?_, fun j hj1 hj2 p hp => ?_, by rw [sw2_len]; exact h.rle⟩
  · simp only [List.mem_map]
    exact ⟨fun ⟨x, hx, e⟩ => ⟨x, (sw2_mem [] h2 hrk x).2 hx, e⟩, fun ⟨x, hx, e⟩ => ⟨x, (sw2_mem [] h2 hrk x).1 hx, e⟩⟩
  · obtain ⟨p, hp, hq⟩ := h.stp i hi
    refine ⟨p, ?_, fun j hj1 hj2 => ?_⟩
    · rw [hat i (by omega), if_neg (by omega), if_neg (by omega)]; exact hp
    · rw [sw2_len] at hj2
      rw [hat j hj2]
      exact hq _ (by split <;> (try split) <;> omega) (hin j hj2)
  · rw [sw2_len] at hj2
    rw [hat j hj2]
    exact h.zer _ (by split <;> (try split) <;> omega) (hin j hj2) p hp
/-- a row with the pivot's added -/
theorem GI.elim {M0 M : List (List Int)} {m rank c i : Nat} (h : GI M0 M m rank c) (h1 : rank < i) (h2 : i < M.length) : GI M0 (M.set i (adR (gl M (i : Int)) (gl M (rank : Int)) c m)) m rank c := by
  have hx := h.at_ h2
  have hy := h.at_ (show rank < M.length by omega)
  have hz := h.zer rank (Nat.le_refl _) (by omega)
  have hm := adR_rowM hx hy hz
  have hat : ∀ j : Nat, gl (M.set i (adR (gl M (i : Int)) (gl M (rank : Int)) c m)) (j : Int) = if j = i then adR (gl M (i : Int)) (gl M (rank : Int)) c m else gl M (j : Int) := fun j => by
    simp only [gl, Int.toNat_natCast, List.getD_eq_getElem?_getD, List.getElem?_set]
    by_cases e : i = j
    · subst e; simp [h2]
    · rw [if_neg e, if_neg fun h => e h.symm]
  have hil : i < (M.set i (adR (gl M (i : Int)) (gl M (rank : Int)) c m)).length := by simpa using h2
  have hrl : rank < (M.set i (adR (gl M (i : Int)) (gl M (rank : Int)) c m)).length := by simp; omega
  have memg : ∀ {L : List (List Int)} {j : Nat}, j < L.length → gl L (j : Int) ∈ L := fun hj => by rw [gl_mem hj]; exact List.getElem_mem _
  refine ⟨by simpa using h.len, fun x hxm => ?_, h.spn.trans ?_, fun k hk => ?_, fun j hj1 hj2 p hp => ?_, by simpa using h.rle⟩
  · rcases List.mem_or_eq_of_mem_set hxm with hh | hh
    · exact h.row x hh
    · rw [hh]; exact adR_bin hx hy m
  · -- the spans
    have hpv : rowM (gl M (rank : Int)) ∈ (M.set i (adR (gl M (i : Int)) (gl M (rank : Int)) c m)).map rowM := List.mem_map.2 ⟨gl M (rank : Int), by
      have := memg hrl
      rwa [hat, if_neg (by omega)] at this, rfl⟩
    have hrow : rowM (adR (gl M (i : Int)) (gl M (rank : Int)) c m) ∈ (M.set i (adR (gl M (i : Int)) (gl M (rank : Int)) c m)).map rowM := List.mem_map.2 ⟨adR (gl M (i : Int)) (gl M (rank : Int)) c m, by
      have := memg hil
      rwa [hat, if_pos rfl] at this, rfl⟩
    refine .of (fun v hv => ?_) fun v hv => ?_
    · obtain ⟨x, hxm, rfl⟩ := List.mem_map.1 hv
      obtain ⟨j, hj, e⟩ := List.mem_iff_getElem.1 hxm
      have e : gl M (j : Int) = x := by rw [gl_mem hj]; exact e
      by_cases ej : j = i
      · subst ej
        have := sums_xor (sums_self hrow) (sums_self hpv)
        rw [hm, Nat.xor_assoc, Nat.xor_self, Nat.xor_zero] at this
        rw [← e]; exact this
      · refine sums_self (List.mem_map.2 ⟨x, ?_, rfl⟩)
        have := memg (L := M.set i (adR (gl M (i : Int)) (gl M (rank : Int)) c m)) (j := j) (by simpa using hj)
        rw [hat, if_neg ej, e] at this
        exact this
    · obtain ⟨x, hxm, rfl⟩ := List.mem_map.1 hv
      rcases List.mem_or_eq_of_mem_set hxm with hh | hh
      · exact sums_self (List.mem_map.2 ⟨x, hh, rfl⟩)
      · rw [hh, hm]
        exact sums_xor (sums_self (List.mem_map.2 ⟨_, memg h2, rfl⟩)) (sums_self (List.mem_map.2 ⟨_, memg (by omega), rfl⟩))
  · obtain ⟨p, hp, hq⟩ := h.stp k hk
    refine ⟨p, by rw [hat, if_neg (by omega)]; exact hp, fun j hj1 hj2 => ?_⟩
    rw [List.length_set] at hj2
    rw [hat]
    by_cases e : j = i
    · rw [if_pos e, hm, Nat.testBit_xor, hq i (by omega) h2, hq rank (by omega) (by omega)]; rfl
    · rw [if_neg e]; exact hq j hj1 hj2
  · rw [List.length_set] at hj2
    rw [hat]
    by_cases e : j = i
    · rw [if_pos e, hm, Nat.testBit_xor, h.zer i (by omega) h2 p hp, hz p hp]; rfl
    · rw [if_neg e]; exact h.zer j hj1 hj2 p hp
theorem GI.next {M0 M : List (List Int)} {m rank c : Nat} (h : GI M0 M m rank c) (hc : c < m) (hr : rank < M.length) (h1 : gi (gl M (rank : Int)) (c : Int) = 1) (h0 : ∀ j, rank < j → j < M.length → gi (gl M (j : Int)) (c : Int) = 0) : GI M0 M m (rank + 1) (c + 1) := by
  have hb0 : ∀ j, rank < j → j < M.length → (rowM (gl M (j : Int))).testBit c = false := fun j a b => by
    have := (h.at_ b).1
    rw [rowM_gi (by omega), h0 j a b]; decide
  refine ⟨h.len, h.row, h.spn, fun i hi => ?_, fun j a b p hp => ?_, by omega⟩
  · by_cases e : i = rank
    · subst e
      have := (h.at_ hr).1
      exact ⟨c, by rw [rowM_gi (by omega), h1]; decide, hb0⟩
    · exact h.stp i (by omega)
  · by_cases e : p = c
    · subst e; exact hb0 j (by omega) b
    · exact h.zer j (by omega) b p (by omega)
theorem stp_of : ∀ (B : List Nat), (∀ i, i < B.length → ∃ p, (B.getD i 0).testBit p = true ∧ ∀ j, i < j → j < B.length → (B.getD j 0).testBit p = false) → Stp B
  | [], _ => trivial
  | b :: B, h => by
    refine ⟨?_, stp_of B fun i hi => ?_⟩
    · obtain ⟨p, hp, hq⟩ := h 0 (by simp)
      refine ⟨p, by simpa using hp, fun x hx => ?_⟩
      obtain ⟨j, hj, rfl⟩ := List.mem_iff_getElem.1 hx
      have := hq (j + 1) (by omega) (by simp; omega)
      simpa [List.getD_eq_getElem?_getD, hj] using this
    · obtain ⟨p, hp, hq⟩ := h (i + 1) (by simp; omega)
      refine ⟨p, by simpa using hp, fun j h1 h2 => ?_⟩
      have := hq (j + 1) (by omega) (by simp; omega)
      simpa using this
theorem GI.rank {M0 M : List (List Int)} {m rank c : Nat} (h : GI M0 M m rank c) (hc : m ≤ c) : IsRk (M0.map rowM) rank := by
  have hr := h.rle
  have hg : ∀ i, i < rank → ((M.take rank).map rowM).getD i 0 = rowM (gl M (i : Int)) := fun i hi => by
    simp [gl, List.getD_eq_getElem?_getD, List.getElem?_take_of_lt hi, show i < M.length by omega]
  have hl : ((M.take rank).map rowM).length = rank := by simp; omega
  refine ⟨(M.take rank).map rowM, hl, Stp.nodup (stp_of _ fun i hi => ?_), h.spn.trans (.of (fun v hv => ?_) fun v hv => ?_)⟩
  · rw [hl] at hi
    obtain ⟨p, hp, hq⟩ := h.stp i hi
    refine ⟨p, by rw [hg i hi]; exact hp, fun j h1 h2 => ?_⟩
    rw [hl] at h2
    rw [hg j h2]; exact hq j h1 (by omega)
  · obtain ⟨x, hx, rfl⟩ := List.mem_map.1 hv
    obtain ⟨j, hj, e⟩ := List.mem_iff_getElem.1 hx
    have e : gl M (j : Int) = x := by rw [gl_mem hj]; exact e
    by_cases hjr : j < rank
    · refine sums_self (List.mem_map.2 ⟨x, List.mem_iff_getElem.2 ⟨j, by simp; omega, ?_⟩, rfl⟩)
      rw [List.getElem_take, ← gl_mem hj]; exact e
    · have h0 : rowM x = 0 := by
        apply Nat.eq_of_testBit_eq
        intro p
        rw [Nat.zero_testBit]
        by_cases hp : p < m
        · rw [← e]; exact h.zer j (by omega) hj p (by omega)
        · exact rowM_out (by rw [(h.row x hx).1]; omega)
      rw [h0]; exact sums_zero _
  · obtain ⟨x, hx, rfl⟩ := List.mem_map.1 hv
    exact sums_self (List.mem_map.2 ⟨x, List.mem_of_mem_take hx, rfl⟩)
end Go.Proofs.YtdedegbendjmbaaGreatDoor.Vc
