/-
  The texts Rk2, Rk3, Rk4, Rk5, Rk6, Rk7, Rk8, Rk9, Drs, Rk10, Ptr, Co34 in one. Conditions: as each part states them.
-/
import Derived.Test.YtiblelgfkakmiaaGreatDoorZg
import Derived.Test.YtiblelgfkakmiaaGreatDoorZf
import Derived.Test.YtiblelgfkakmiaaGreatDoorZe
import Derived.Test.YtiblelgfkakmiaaGreatDoorZd
import Derived.Test.YtiblelgfkakmiaaGreatDoorZb
import Derived.Test.YtiblelgfkakmiaaGreatDoorZa
import Derived.Test.YtiblelgfkakmiaaGreatDoorZc
/-
 Plain mathematics: lists of numbers as sets modulo two, boundaries of faces, their matrix.
-/
namespace Go.Proofs.YtiblelgfkakmiaaGreatDoor.Vc
def mkb (l : List Int) : Nat := l.foldr (fun e a => 2 ^ e.toNat ^^^ a) 0
theorem mkb_nil : mkb [] = 0 := rfl
theorem mkb_cons (a : Int) (l : List Int) : mkb (a :: l) = 2 ^ a.toNat ^^^ mkb l := rfl
theorem mkb_append : ∀ (a b : List Int), mkb (a ++ b) = mkb a ^^^ mkb b
 | [], b => by simp [mkb]
 | x :: a, b => by rw [List.cons_append, mkb_cons, mkb_cons, mkb_append a b, Nat.xor_assoc]
theorem mkb_perm {a b : List Int} (h : a.Perm b) : mkb a = mkb b := by
 induction h with
 | nil => rfl
 | cons x _ ih => rw [mkb_cons, mkb_cons, ih]
 | swap x y l => rw [mkb_cons, mkb_cons, mkb_cons, mkb_cons, ← Nat.xor_assoc, ← Nat.xor_assoc, Nat.xor_comm (2 ^ y.toNat)]
 | trans _ _ h1 h2 => exact h1.trans h2
def odS (out : List Int) (e : Int) : List Int := if out.getLast? = some e then out.dropLast else out ++ [e]
def oddP (l : List Int) : List Int := l.foldl odS []
theorem oddP_snoc (l : List Int) (e : Int) : oddP (l ++ [e]) = odS (oddP l) e := by simp [oddP]
theorem getLast_snoc {l : List Int} {e : Int} (h : l.getLast? = some e) : l = l.dropLast ++ [e] := by
 have hne : l ≠ [] := fun h' => by rw [h'] at h; cases h
 rw [List.getLast?_eq_some_getLast hne] at h
 injection h with h
 rw [← h]; exact (List.dropLast_concat_getLast hne).symm
theorem oddP_inv : ∀ (n : Nat) (l : List Int), l.length = n → Asc l → SA (oddP l) ∧ (∀ x ∈ oddP l, x ∈ l) ∧ mkb (oddP l) = mkb l
 | 0, l, hl, _ => by obtain rfl := List.eq_nil_of_length_eq_zero hl; exact ⟨List.Pairwise.nil, fun _ h => h, rfl⟩
 | n + 1, l, hl, ha => by
  obtain ⟨l0, e, rfl⟩ : ∃ l0 e, l = l0 ++ [e] := ⟨l.dropLast, l.getLast (fun h => by rw [h] at hl; simp at hl), (List.dropLast_concat_getLast _).symm⟩
  have ha' : Asc l0 ∧ ∀ x ∈ l0, x ≤ e := by
   rw [Asc, List.pairwise_append] at ha
   exact ⟨ha.1, fun x hx => ha.2.2 x hx e (by simp)⟩
  obtain ⟨h1, h2, h3⟩ := oddP_inv n l0 (by simpa using hl) ha'.1
  rw [oddP_snoc, odS]
  by_cases hg : (oddP l0).getLast? = some e
  ·rw [if_pos hg]
   refine ⟨List.Pairwise.sublist (List.dropLast_sublist _) h1, fun x hx => List.mem_append_left _ (h2 x ((List.dropLast_sublist _).subset hx)), ?_⟩
   have e1 := getLast_snoc hg
   rw [mkb_append, ← h3]
   conv => rhs; rw [e1]
   rw [mkb_append, Nat.xor_assoc, Nat.xor_self, Nat.xor_zero]
  ·rw [if_neg hg]
   refine ⟨?_, fun x hx => ?_, by rw [mkb_append, mkb_append, h3]⟩
   ·rw [SA, List.pairwise_append]
    refine ⟨h1, List.pairwise_singleton _ _, fun x hx y hy => ?_⟩
    obtain rfl : y = e := by simpa using hy
    have hle := ha'.2 x (h2 x hx)
    refine Int.lt_iff_le_and_ne.2 ⟨hle, fun hxe => hg ?_⟩
    subst hxe
    have hne : oddP l0 ≠ [] := fun h' => by rw [h'] at hx; cases hx
    rw [List.getLast?_eq_some_getLast hne]
    congr 1
    have hgl := List.getLast_mem hne
    have hgle := ha'.2 _ (h2 _ hgl)
    have e2 : oddP l0 = (oddP l0).dropLast ++ [(oddP l0).getLast hne] := (List.dropLast_concat_getLast hne).symm
    have h1' := h1
    rw [e2, SA, List.pairwise_append] at h1'
    rw [e2] at hx
    rcases List.mem_append.1 hx with hx | hx
    ·have := h1'.2.2 x hx _ (List.mem_singleton.2 rfl)
     omega
    ·exact (List.mem_singleton.1 hx).symm
   ·rcases List.mem_append.1 hx with hx | hx
    ·exact List.mem_append_left _ (h2 x hx)
    ·exact List.mem_append_right _ hx
def OkX (x : List Int) : Prop := SA x ∧ ∀ e ∈ x, 0 ≤ e
theorem mkb_bit : ∀ {x : List Int}, x.Nodup → (∀ e ∈ x, 0 ≤ e) → ∀ j, (mkb x).testBit j = decide ((j : Int) ∈ x)
 | [], _, _, j => by simp [mkb]
 | a :: l, hn, h0, j => by
  rw [List.nodup_cons] at hn
  have ih := mkb_bit hn.2 (fun e he => h0 e (List.mem_cons_of_mem _ he)) j
  have ha := h0 a (by simp)
  rw [mkb_cons, Nat.testBit_xor, ih, Nat.testBit_two_pow]
  by_cases e : (j : Int) = a
  ·have hj : ¬ (j : Int) ∈ l := by rw [e]; exact hn.1
   have h1 : a.toNat = j := by omega
   simp [e, h1, hn.1]
  ·have h1 : a.toNat ≠ j := by omega
   simp [e, h1]
theorem OkX.odd {l : List Int} (ha : Asc l) (h0 : ∀ e ∈ l, 0 ≤ e) : OkX (oddP l) := by
 obtain ⟨h1, h2, _⟩ := oddP_inv _ l rfl ha
 exact ⟨h1, fun e he => h0 e (h2 e he)⟩
theorem OkX.top {x : List Int} (h : OkX x) {t : Int} (ht : x.getLast? = some t) : Top (mkb x) t.toNat := by
 have e1 := getLast_snoc ht
 have h2 := h.1
 rw [e1, SA, List.pairwise_append] at h2
 have htm : t ∈ x := by rw [e1]; simp
 have h0 := h.2 t htm
 refine ⟨?_, fun j hj => ?_⟩
 ·rw [mkb_bit h.1.nodup h.2]; simpa [Int.toNat_of_nonneg h0] using htm
 ·rw [mkb_bit h.1.nodup h.2]
  simp only [decide_eq_false_iff_not]
  intro hm
  rw [e1] at hm
  rcases List.mem_append.1 hm with hm | hm
  ·have := h2.2.2 _ hm t (by simp); omega
  ·have := List.mem_singleton.1 hm; omega
theorem OkX.last_le {x : List Int} (h : OkX x) {t : Int} (ht : x.getLast? = some t) : ∀ e ∈ x, e ≤ t := by
 have e1 := getLast_snoc ht
 have h2 := h.1
 rw [e1, SA, List.pairwise_append] at h2
 intro e he
 rw [e1] at he
 rcases List.mem_append.1 he with he | he
 ·have := h2.2.2 e he t (by simp); omega
 ·have := List.mem_singleton.1 he; omega
def stX (x y : List Int) : List Int := oddP (srt (x ++ y))
theorem stX_ok {x y : List Int} (hx : OkX x) (hy : OkX y) : OkX (stX x y) := OkX.odd (srt_asc _) fun e he => by
 rcases List.mem_append.1 ((srt_perm _).subset he) with h | h
 ·exact hx.2 e h
 ·exact hy.2 e h
theorem stX_mkb (x y : List Int) : mkb (stX x y) = mkb x ^^^ mkb y := by
 rw [stX, (oddP_inv _ _ rfl (srt_asc _)).2.2, mkb_perm (srt_perm _), mkb_append]
theorem stX_sub {x y : List Int} : ∀ e ∈ stX x y, e ∈ x ∨ e ∈ y := fun e he => List.mem_append.1 ((srt_perm _).subset ((oddP_inv _ _ rfl (srt_asc _)).2.1 e he))
theorem stX_lt {x y : List Int} (hx : OkX x) (hy : OkX y) {t : Int} (h1 : x.getLast? = some t) (h2 : y.getLast? = some t) : ∀ e ∈ stX x y, e < t := by
 intro e he
 have hle : e ≤ t := by rcases stX_sub e he with h | h; exact hx.last_le h1 e h; exact hy.last_le h2 e h
 refine Int.lt_iff_le_and_ne.2 ⟨hle, fun h => ?_⟩
 subst h
 have hok := stX_ok hx hy
 have h0 := hok.2 e he
 have hb := mkb_bit hok.1.nodup hok.2 e.toNat
 rw [stX_mkb, Nat.testBit_xor, (hx.top h1).1, (hy.top h2).1] at hb
 simp [Int.toNat_of_nonneg h0, he] at hb
theorem OkX.len {x : List Int} (h : OkX x) {b : Nat} (hb : ∀ e ∈ x, e < b) : x.length ≤ b := nodup_le_int h.1.nodup fun e he => ⟨h.2 e he, hb e he⟩
def numF (G : List (List Int)) : List (ByteArray × Int) := (List.range G.length).map fun (i : Nat) => (keyB (gl G (i : Int)), (i : Int))
theorem numF_take {G : List (List Int)} {i : Nat} (h : i < G.length) : numF (G.take (i + 1)) = numF (G.take i) ++ [(keyB (gl G (i : Int)), (i : Int))] := by
 have e1 : (G.take (i + 1)).length = i + 1 := by simp; omega
 have e2 : (G.take i).length = i := by simp; omega
 unfold numF
 rw [e1, e2, List.range_succ, List.map_append]
 congr 1
 ·refine List.map_congr_left fun j hj => ?_
  have hj := List.mem_range.1 hj
  have : gl (G.take (i + 1)) (j : Int) = gl (G.take i) (j : Int) := by
   simp only [gl, Int.toNat_natCast, List.getD_eq_getElem?_getD]
   rw [List.getElem?_take_of_lt (by omega), List.getElem?_take_of_lt hj]
  rw [this]
 ·have : gl (G.take (i + 1)) (i : Int) = gl G (i : Int) := by
   simp only [gl, Int.toNat_natCast, List.getD_eq_getElem?_getD]
   rw [List.getElem?_take_of_lt (by omega)]
  simp [this]
theorem getA_none_mem {κ ν : Type} [DecidableEq κ] : ∀ {L : List (κ × ν)} {x : κ}, getA L x = none → ∀ p ∈ L, p.1 ≠ x
  | [], _, _ => by simp
  | (z, w) :: r, x, h => by
    simp only [getA] at h
    by_cases e : z = x
    · rw [if_pos e] at h; cases h
    · rw [if_neg e] at h
      intro p hp
      rcases List.mem_cons.1 hp with rfl | hp
      · exact e
      · exact getA_none_mem h p hp
theorem getA_some_mem {κ ν : Type} [DecidableEq κ] : ∀ {L : List (κ × ν)} {x : κ} {u : ν}, getA L x = some u → (x, u) ∈ L
  | (z, w) :: r, x, u, h => by
    simp only [getA] at h
    by_cases e : z = x
    · rw [if_pos e] at h; injection h with h; subst e h; simp
    · rw [if_neg e] at h; exact List.mem_cons_of_mem _ (getA_some_mem h)
theorem putA_new {κ ν : Type} [DecidableEq κ] {L : List (κ × ν)} {x : κ} {u : ν} (h : ∀ p ∈ L, p.1 ≠ x) : putA L x u = L ++ [(x, u)] := by
 induction L with
 | nil => rfl
 | cons p r ih =>
  obtain ⟨z, w⟩ := p
  simp only [putA]
  rw [if_neg (h (z, w) (by simp)), ih fun p hp => h p (List.mem_cons_of_mem _ hp)]; rfl
theorem getA_of_mem {κ ν : Type} [DecidableEq κ] : ∀ {L : List (κ × ν)} {x : κ} {u : ν}, (L.map (·.1)).Nodup → (x, u) ∈ L → getA L x = some u
  | (z, w) :: r, x, u, hn, h => by
    simp only [List.map_cons, List.nodup_cons] at hn
    simp only [getA]
    rcases List.mem_cons.1 h with h | h
    · injection h with h1 h2; subst h1 h2; rw [if_pos rfl]
    · rw [if_neg fun e => hn.1 (by rw [e]; exact List.mem_map.2 ⟨_, h, rfl⟩)]
      exact getA_of_mem hn.2 h
theorem nodup_at {G : List (List Int)} (hn : G.Nodup) {i j : Nat} (hi : i < G.length) (hj : j < G.length) (h : gl G (i : Int) = gl G (j : Int)) : i = j := by
 rw [gl_mem hi, gl_mem hj] at h
 exact (List.getElem_inj hn).1 h
theorem numF_nodup {G : List (List Int)} (hn : G.Nodup) : ((numF G).map (·.1)).Nodup := by
 unfold numF
 rw [List.map_map, List.Nodup, List.pairwise_map]
 refine List.Pairwise.imp_of_mem (R := (· ≠ ·)) ?_ List.nodup_range
 intro i j hi hj hne e
 exact hne (nodup_at hn (List.mem_range.1 hi) (List.mem_range.1 hj) (keyB_inj e))
theorem numF_new {G : List (List Int)} (hn : G.Nodup) {i : Nat} (h : i < G.length) : ∀ p ∈ numF (G.take i), p.1 ≠ keyB (gl G (i : Int)) := by
 intro p hp e
 have h2 := numF_nodup (G := G.take (i + 1)) (hn.sublist (List.take_sublist _ _))
 rw [numF_take h, List.map_append, List.nodup_append] at h2
 exact h2.2.2 p.1 (List.mem_map.2 ⟨p, hp, rfl⟩) (keyB (gl G (i : Int))) (by simp) e
def nmb (G : List (List Int)) (x : List Int) : Int := (getA (numF G) (keyB x)).getD 0
theorem nmb_at {G : List (List Int)} (hn : G.Nodup) {i : Nat} (h : i < G.length) : nmb G (gl G (i : Int)) = i := by
 unfold nmb
 rw [getA_of_mem (numF_nodup hn) (u := (i : Int)) (List.mem_map.2 ⟨i, List.mem_range.2 h, rfl⟩)]; rfl
theorem nmb_of {G : List (List Int)} (hn : G.Nodup) {x : List Int} (h : x ∈ G) : ∃ i, i < G.length ∧ gl G (i : Int) = x ∧ nmb G x = i := by
 obtain ⟨i, hi, e⟩ := List.mem_iff_getElem.1 h
 have e2 : gl G (i : Int) = x := by rw [gl_mem hi]; exact e
 exact ⟨i, hi, e2, by rw [← e2]; exact nmb_at hn hi⟩
def bdN (G : List (List Int)) (x : List Int) : List Int := (ptsP x (x.length - 1)).map (nmb G)
def rwB (G : List (List Int)) (x : List Int) : List Int := G.map fun y => if Ins y x then 1 else 0
def rowM : List Int → Nat
 | [] => 0
 | a :: l => (if a = 1 then 1 else 0) + 2 * rowM l
theorem rowM_bit : ∀ (l : List Int) (j : Nat), (rowM l).testBit j = decide (l[j]? = some 1)
 | [], j => by simp [rowM]
 | a :: l, 0 => by
  rw [rowM, Nat.testBit_zero]
  by_cases e : a = 1 <;> simp [e] <;> omega
 | a :: l, j + 1 => by
  rw [rowM, Nat.testBit_succ]
  have : ((if a = 1 then 1 else 0) + 2 * rowM l) / 2 = rowM l := by split <;> omega
  rw [this, rowM_bit l j]
  simp
theorem bd_row {G : List (List Int)} {x : List Int} {k : Nat} (hn : G.Nodup) (hs : ∀ y ∈ G, SA y ∧ y.length = k) (hx : SA x) (hl : x.length = k + 1) (hG : ∀ p ∈ ptsP x k, p ∈ G) : mkb (oddP (srt (bdN G x))) = rowM (rwB G x) ∧ OkX (oddP (srt (bdN G x))) := by
 have hk : x.length - 1 = k := by omega
 have h0 : ∀ e ∈ bdN G x, 0 ≤ e := fun e he => by
  unfold bdN at he
  rw [hk] at he
  obtain ⟨p, hp, rfl⟩ := List.mem_map.1 he
  obtain ⟨i, _, _, h3⟩ := nmb_of hn (hG p hp)
  omega
 have hnd : (bdN G x).Nodup := by
  unfold bdN
  rw [hk, List.Nodup, List.pairwise_map]
  refine List.Pairwise.imp_of_mem (R := (· ≠ ·)) ?_ (ptsP_SL hx).nodup
  intro p q hp hq hne e
  obtain ⟨i, hi, h2, h3⟩ := nmb_of hn (hG p hp)
  obtain ⟨j, hj, h4, h5⟩ := nmb_of hn (hG q hq)
  have : i = j := by omega
  subst this
  exact hne (h2.symm.trans h4)
 refine ⟨?_, OkX.odd (srt_asc _) fun e he => h0 e ((srt_perm _).subset he)⟩
 rw [(oddP_inv _ _ rfl (srt_asc _)).2.2, mkb_perm (srt_perm _)]
 apply Nat.eq_of_testBit_eq
 intro j
 rw [mkb_bit hnd h0, rowM_bit]
 apply decide_eq_decide.2
 unfold rwB
 rw [List.getElem?_map]
 constructor
 ·intro hj
  unfold bdN at hj
  rw [hk] at hj
  obtain ⟨p, hp, e⟩ := List.mem_map.1 hj
  obtain ⟨i, hi, h2, h3⟩ := nmb_of hn (hG p hp)
  obtain rfl : i = j := by omega
  rw [List.getElem?_eq_getElem hi]
  have e2 : G[i] = p := by rw [← gl_mem hi]; exact h2
  rw [e2, Option.map_some, if_pos (Ins.of_sub (ptsP_mem.1 hp).1)]
 ·intro hj
  by_cases hjl : j < G.length
  ·rw [List.getElem?_eq_getElem hjl, Option.map_some] at hj
   by_cases hI : Ins G[j] x
   ·have hy := hs G[j] (List.getElem_mem _)
    have hp : gl G (j : Int) ∈ ptsP x k := by
     rw [gl_mem hjl]
     exact ptsP_mem.2 ⟨Ins.sub hy.1 hx hI, hy.2⟩
    unfold bdN
    rw [hk]
    exact List.mem_map.2 ⟨_, hp, nmb_at hn hjl⟩
   ·rw [if_neg hI] at hj; cases hj
  ·rw [List.getElem?_eq_none (by omega)] at hj; cases hj
end Go.Proofs.YtiblelgfkakmiaaGreatDoor.Vc
/-
 Lists modulo two and lists joined, walked.
-/
namespace Go.Proofs.YtiblelgfkakmiaaGreatDoor.Vc
open Go.RowKit
theorem oddP_take {l : List Int} {k : Nat} (h : k < l.length) : oddP (l.take (k + 1)) = odS (oddP (l.take k)) (gi l (k : Int)) := by rw [take_succ_gi h, oddP_snoc]
theorem oddP_len (l : List Int) : (oddP l).length ≤ l.length := by
 have gen : ∀ l acc : List Int, (l.foldl odS acc).length ≤ acc.length + l.length := by
  intro l
  induction l with
  | nil => intro acc; simp
  | cons a t ih =>
   intro acc
   have h1 := ih (odS acc a)
   have h2 : (odS acc a).length ≤ acc.length + 1 := by unfold odS; split <;> simp <;> omega
   simp only [List.foldl_cons, List.length_cons]; omega
 simpa [oddP] using gen l []
theorem last_gi {l : List Int} {k : Nat} (h : l.length = k + 1) : l.getLast? = some (gi l (k : Int)) := by
 rw [List.getLast?_eq_getElem?, h, Nat.add_sub_cancel, gi_mem (by omega), List.getElem?_eq_getElem]
set_option maxHeartbeats 1000000 in
theorem oddOf_c {w0 w : World} {ks : List Ck} (i : Nat) {A : Option Addr} {n c : Nat} {xs : List Int} (hS : St w0 w ks) (hk : ks[i]? = some (CkI 2 A n c xs)) (hn : n ≤ 1000000000) :
    Ret Tryz.prog 107 [.slice A n c] w (fun v w' => ∃ A' c', v = .slice A' (oddP (srt xs)).length c' ∧ St w0 w' (CkI 2 A' (oddP (srt xs)).length c' (oddP (srt xs)) :: ks.set i (CkI 2 A n c (srt xs)))) := by
  have hxl := hS.lenI i hk
  have hsl : (srt xs).length = n := by rw [(srt_perm xs).length_eq]; exact hxl
  refine Ret.of_cd Tryz.func107 rfl Tryz.ntmps107 rfl (post1 rfl) (Cd.seq (Cd.region (Ops.ms rfl rfl rfl (Ops.n (tQ (Cd.seq (Cd.region (Ops.ms rfl rfl rfl (Ops.call (sort0_c i hS hk hn) rfl rfl rfl ?_)))))))))
  rintro _ w1 ⟨rfl, hS1⟩
  have hk1 : (ks.set i (CkI 2 A n c (srt xs)))[i]? = some (CkI 2 A n c (srt xs)) := by rw [List.getElem?_set_self (List.getElem?_eq_some_iff.1 hk).1]
  generalize ks.set i (CkI 2 A n c (srt xs)) = ks1 at *
  generalize hys : srt xs = ys at *
  clear hS hk
  refine Ops.n (tQ (Cd.seq (Cd.region (Ops.ms rfl rfl rfl (Ops.n (tQ (Cd.seq (Cd.seq (Cd.region ?_)))))))))
  refine Ops.ms rfl rfl rfl (Ops.len rfl rfl (Ops.mi rfl rfl rfl (Ops.n (tQ (Cd.block ?_)))))
  refine Cd.loop (α := Nat × Option Addr × Nat) (fun z => [(3, .slice z.2.1 (oddP (ys.take z.1)).length z.2.2), (8, .slice A n c), (9, .int .i64 (n : Int)), (10, .int .i64 (z.1 : Int))])
    (fun z w' => z.1 ≤ n ∧ St w0 w' (CkI 2 z.2.1 (oddP (ys.take z.1)).length z.2.2 (oddP (ys.take z.1)) :: ks1)) (fun z => n - z.1) (0, none, 0) ⟨rfl, rfl, rfl, rfl, trivial⟩ ⟨Nat.zero_le _, hS1.nil _⟩ ?_
  clear hS1
  rintro ⟨k, A3, c3⟩ e w2 ⟨hk, hS⟩
  dsimp only at hk hS ⊢
  refine Cd.seq (Cd.region (Ops.lss rfl rfl rfl (Ops.n (tQ (Cd.seq ?_)))))
  refine Cd.cond_p _ rfl (fun h1 => ?_) (fun h1 => ?_)
  · have hstep := oddP_take (l := ys) (k := k) (by omega)
    have hol := oddP_len (ys.take k)
    rw [List.length_take] at hol
    have hR := hS.rdI (i + 1) (by rw [List.getElem?_cons_succ]; exact hk1)
    generalize hout : oddP (ys.take k) = out at *
    generalize hel : gi ys (k : Int) = el at *
    refine Cd.skip (tQ (Cd.seq (Cd.block (Cd.seq (Cd.region (Ops.idx hR.2 rfl rfl rfl (by omega) (by omega) (Ops.ld_int hR rfl (by omega) rfl rfl ?_)))))))
    rw [hel]
    refine Ops.mi rfl rfl rfl (Ops.n (tQ (Cd.seq (Cd.region (Ops.ms rfl rfl rfl (Ops.len rfl rfl (Ops.gtr rfl rfl rfl (Ops.mb rfl rfl rfl ?_))))))))
    refine Ops.split_p 17 rfl (fun h2 => ?_) (fun h2 => ?_)
    · obtain ⟨m, hm⟩ : ∃ m, out.length = m + 1 := ⟨out.length - 1, by omega⟩
      have hgl := last_gi hm
      have e1 : ((out.length : Int) - 1) = (m : Int) := by omega
      have h0 : RdI w2 A3 out.length out := hS.rdI 0 rfl
      refine Ops.g rfl rfl rfl (Ops.ms rfl rfl rfl (Ops.g rfl rfl rfl (Ops.ms rfl rfl rfl (Ops.g rfl rfl rfl (Ops.len rfl rfl (Ops.g rfl rfl rfl (Ops.sub rfl rfl rfl (by omega) (Ops.g rfl rfl rfl (Ops.idx h0.2 rfl rfl rfl (by omega) (by omega) ?_)))))))))
      refine Ops.g rfl rfl rfl (Ops.ld_int h0 rfl (by omega) rfl rfl ?_)
      rw [e1]
      refine Ops.g rfl rfl rfl (Ops.mi rfl rfl rfl (Ops.g rfl rfl rfl (Ops.eql rfl rfl rfl (Ops.pick_t rfl rfl rfl (Ops.n (tQ ?_))))))
      refine Cd.cond_p _ rfl (fun h3 => ?_) (fun h3 => ?_)
      · have hod : odS out el = out.take m := by
          unfold odS
          rw [if_pos (by rw [hgl, h3]), List.dropLast_eq_take, hm, Nat.add_sub_cancel]
        have hlen : (out.take m).length = m := by simp; omega
        have hcp : out.length ≤ c3 := (hS.cap 0 rfl).1
        refine Cd.region (Ops.ms rfl rfl rfl (Ops.ms rfl rfl rfl (Ops.len rfl rfl (Ops.sub rfl rfl rfl (by omega) (Ops.cut_h rfl rfl rfl (by omega) (Ops.ms rfl rfl rfl (Ops.n (blockQ_n (tQ ?_)))))))))
        refine Cd.region (Ops.add rfl rfl rfl (by omega) (Ops.mi rfl rfl rfl (Ops.n (tQ ?_))))
        refine ⟨(k + 1, A3, c3), by show n - (k + 1) < n - k; omega, ⟨?_, rfl, rfl, rfl, trivial⟩, by show k + 1 ≤ n; omega, ?_⟩
        · show Value.slice A3 (((out.length : Int) - 1).toNat) c3 = .slice A3 (oddP (ys.take (k + 1))).length c3
          rw [hstep, hod, hlen, e1]; rfl
        · show St w0 _ (CkI 2 A3 (oddP (ys.take (k + 1))).length c3 (oddP (ys.take (k + 1))) :: ks1)
          rw [hstep, hod, hlen]
          exact hS.shrinkI 0 rfl m (by omega)
      · have hod : odS out el = out ++ [el] := by
          unfold odS
          rw [if_neg (by rw [hgl]; intro h; exact h3 (Option.some.inj h))]
        refine Cd.region (Ops.ms rfl rfl rfl (Ops.mi rfl rfl rfl (Ops.bs1I hS rfl rfl rfl ?_)))
        intro A4 w3 hS3
        refine Ops.appI 1 hS3 rfl (hS3.rdI 0 rfl) rfl rfl rfl (by omega) (by omega) rfl ?_
        intro A5 c5 w4 hS4
        refine Ops.ms rfl rfl rfl (Ops.n (blockQ_n (tQ (Cd.region (Ops.add rfl rfl rfl (by omega) (Ops.mi rfl rfl rfl (Ops.n (tQ ?_))))))))
        refine ⟨(k + 1, A5, c5), by show n - (k + 1) < n - k; omega, ⟨?_, rfl, rfl, rfl, trivial⟩, by show k + 1 ≤ n; omega, ?_⟩
        · show Value.slice A5 (out.length + 1) c5 = .slice A5 (oddP (ys.take (k + 1))).length c5
          rw [hstep, hod, List.length_append]; rfl
        · show St w0 _ (CkI 2 A5 (oddP (ys.take (k + 1))).length c5 (oddP (ys.take (k + 1))) :: ks1)
          rw [hstep, hod, List.length_append]
          exact St.tail hS4
    · have hnil : out = [] := List.eq_nil_of_length_eq_zero (by omega)
      have hod : odS out el = out ++ [el] := by
        unfold odS
        rw [if_neg (by rw [hnil]; simp)]
      refine Ops.k rfl rfl rfl rfl rfl (Ops.k rfl rfl rfl rfl rfl (Ops.k rfl rfl rfl rfl rfl (Ops.k rfl rfl rfl rfl rfl (Ops.k rfl rfl rfl rfl rfl (Ops.k rfl rfl rfl rfl rfl (Ops.k rfl rfl rfl rfl rfl (Ops.k rfl rfl rfl rfl rfl (Ops.pick_f rfl rfl rfl (Ops.n ?_)))))))))
      refine tQ (Cd.cond_f rfl (Cd.region (Ops.ms rfl rfl rfl (Ops.mi rfl rfl rfl (Ops.bs1I hS rfl rfl rfl ?_)))))
      intro A4 w3 hS3
      refine Ops.appI 1 hS3 rfl (hS3.rdI 0 rfl) rfl rfl rfl (by omega) (by omega) rfl ?_
      intro A5 c5 w4 hS4
      refine Ops.ms rfl rfl rfl (Ops.n (blockQ_n (tQ (Cd.region (Ops.add rfl rfl rfl (by omega) (Ops.mi rfl rfl rfl (Ops.n (tQ ?_))))))))
      refine ⟨(k + 1, A5, c5), by show n - (k + 1) < n - k; omega, ⟨?_, rfl, rfl, rfl, trivial⟩, by show k + 1 ≤ n; omega, ?_⟩
      · show Value.slice A5 (out.length + 1) c5 = .slice A5 (oddP (ys.take (k + 1))).length c5
        rw [hstep, hod, List.length_append]; rfl
      · show St w0 _ (CkI 2 A5 (oddP (ys.take (k + 1))).length c5 (oddP (ys.take (k + 1))) :: ks1)
        rw [hstep, hod, List.length_append]
        exact St.tail hS4
  · obtain rfl : k = n := by omega
    rw [List.take_of_length_le (by omega)] at hS ⊢
    refine Cd.exit (thenQ_x (thenQ_x (blockQ_x (tQ (Cd.seq (Cd.region (Ops.ms rfl rfl rfl (Ops.ms rfl rfl rfl (Ops.n ?_)))))))))
    refine tQ (Cd.ret (ret1_s rfl ?_))
    exact ⟨A3, c3, rfl, hS⟩
theorem sort00_c (A : Option Addr) (c : Nat) (w : World) : Ret Tryz.prog 79 [.slice A 0 c] w (fun v w' => v = .tuple #[] ∧ w' = w) :=
 Calls.mono (AnyM.slices_Sort_int_none lsort A c w) fun x w' ⟨hx, hw⟩ => ⟨_, hx, rfl, hw⟩
theorem oddOf0_c (A : Option Addr) (c : Nat) (w : World) : Ret Tryz.prog 107 [.slice A 0 c] w (fun v w' => v = .slice none 0 0 ∧ w' = w) := by
 refine Ret.of_cd Tryz.func107 rfl Tryz.ntmps107 rfl (post1 rfl) (Cd.seq (Cd.region (Ops.ms rfl rfl rfl (Ops.n (tQ (Cd.seq (Cd.region (Ops.ms rfl rfl rfl (Ops.call (sort00_c A c _) rfl rfl rfl ?_)))))))))
 rintro _ w ⟨rfl, rfl⟩
 refine Ops.n (tQ (Cd.seq (Cd.region (Ops.ms rfl rfl rfl (Ops.n (tQ (Cd.seq (Cd.seq (Cd.region ?_)))))))))
 refine Ops.ms rfl rfl rfl (Ops.len rfl rfl (Ops.mi rfl rfl rfl (Ops.n (tQ (Cd.block ?_)))))
 refine Cd.loop (α := Unit) (fun z => [(3, .slice none 0 0), (9, .int .i64 0), (10, .int .i64 0)]) (fun z w' => w' = w) (fun z => 0) () ⟨rfl, rfl, rfl, trivial⟩ rfl ?_
 rintro z e w1 rfl
 refine Cd.seq (Cd.region (Ops.lss rfl rfl rfl (Ops.n (tQ (Cd.seq (Cd.cond_pf rfl (by omega) (Cd.exit (thenQ_x (thenQ_x ?_)))))))))
 refine blockQ_x (tQ (Cd.seq (Cd.region (Ops.ms rfl rfl rfl (Ops.ms rfl rfl rfl (Ops.n (tQ (Cd.ret (ret1_s rfl ?_)))))))))
 exact ⟨rfl, rfl⟩
theorem GrowI_c (n : Nat) (w : World) (hn : n ≤ 1000000000) :
  Ret Tryz.prog 145 [.slice none 0 0, .int .i64 (n : Int)] w (fun v w' => ∃ A c, v = .slice A 0 c ∧ n ≤ c ∧ St w w' [CkI 2 A 0 c []]) := by
 refine Ret.of_cd Tryz.func145 rfl Tryz.ntmps145 rfl (post1 rfl) (Cd.seq (Cd.region (Ops.ms rfl rfl rfl (Ops.n (tQ (Cd.seq (Cd.seq (Cd.region (Ops.mi rfl rfl rfl ?_)))))))))
 refine Ops.lss rfl rfl rfl (Ops.n (tQ (Cd.cond_pf rfl (by omega) (Cd.skip (tQ (Cd.seq (Cd.seq (Cd.region (Ops.mi rfl rfl rfl ?_)))))))))
 refine Ops.ms rfl rfl rfl (Ops.cpc rfl rfl (Ops.ms rfl rfl rfl (Ops.len rfl rfl (Ops.sub rfl rfl rfl (by omega) (Ops.sub rfl rfl rfl (by omega) (Ops.mi rfl rfl rfl (Ops.n (tQ (Cd.seq ?_)))))))))
 refine Cd.region (Ops.mi rfl rfl rfl (Ops.gtr rfl rfl rfl (Ops.n (tQ ?_))))
 refine Cd.cond_p _ rfl (fun h1 => ?_) (fun h1 => ?_)
 ·refine Cd.region (Ops.ms rfl rfl rfl (Ops.ms rfl rfl rfl (Ops.cpc rfl rfl ?_)))
  refine Ops.cut_h rfl rfl rfl (by simp) ?_
  refine Ops.mi rfl rfl rfl ?_
  refine Ops.appZ n (by omega) (St.refl w) rfl (by show Value.int _ _ = .int _ _; congr 1) rfl rfl (by simp only [maxLen]; omega) (by omega) rfl ?_
  intro A c w1 hnc hS1
  refine Ops.ms rfl rfl rfl (Ops.len rfl rfl ?_)
  refine Ops.cut_h rfl rfl rfl (by simp) ?_
  refine Ops.ms rfl rfl rfl (Ops.n (tQ (Cd.seq (Cd.region (Ops.ms rfl rfl rfl (Ops.ms rfl rfl rfl (Ops.n (tQ (Cd.ret ?_)))))))))
  refine ret1_s rfl ?_
  exact ⟨A, c, rfl, hnc, hS1⟩
 ·refine Cd.skip (tQ (Cd.seq (Cd.region (Ops.ms rfl rfl rfl (Ops.ms rfl rfl rfl (Ops.n (tQ (Cd.ret (ret1_s rfl ?_)))))))))
  exact ⟨none, 0, rfl, by omega, (St.refl w).nil _⟩
theorem ConcatI_c (Aq : Option Addr) (s t : SlV) (x y : List Int) (w : World) (hQ : RdR w Aq 2 [s, t]) (hx : RdI w s.a s.n x) (hy : RdI w t.a t.n y) (hn : s.n + t.n ≤ 100000000) :
  Ret Tryz.prog 124 [.slice Aq 2 2] w (fun v w' => ∃ A' c', v = .slice A' (x ++ y).length c' ∧ St w w' [CkI 2 A' (x ++ y).length c' (x ++ y)]) := by
 have hxl := hx.1
 have hyl := hy.1
 refine Ret.of_cd Tryz.func124 rfl Tryz.ntmps124 rfl (post1 rfl) (Cd.seq (Cd.region (Ops.ms rfl rfl rfl (Ops.n (tQ (Cd.seq (Cd.region (Ops.mi rfl rfl rfl (Ops.n ?_)))))))))
 refine tQ (Cd.seq (Cd.seq (Cd.region (Ops.ms rfl rfl rfl (Ops.len rfl rfl (Ops.mi rfl rfl rfl (Ops.n (tQ (Cd.block ?_)))))))))
 have e0 : rg [s, t] ((0 : Nat) : Int) = s := rfl
 have e1 : rg [s, t] ((1 : Nat) : Int) = t := rfl
 refine Cd.loop (α := Nat × Nat) (fun k => [(0, .slice Aq 2 2), (3, .int .i64 (k.2 : Int)), (9, .slice Aq 2 2), (10, .int .i64 2), (11, .int .i64 (k.1 : Int))]) (fun k w' => w' = w ∧ k.1 ≤ 2 ∧ k.2 = if k.1 = 0 then 0 else if k.1 = 1 then s.n else s.n + t.n) (fun k => 2 - k.1) (0, 0) ⟨rfl, rfl, rfl, rfl, rfl, trivial⟩ ⟨rfl, by decide, rfl⟩ ?_
 rintro ⟨k, m⟩ e w1 ⟨rfl, hk, hm⟩
 dsimp only at hk hm ⊢
 refine Cd.seq (Cd.region (Ops.lss rfl rfl rfl (Ops.n (tQ (Cd.seq ?_)))))
 refine Cd.cond_p _ rfl (fun h1 => ?_) (fun h1 => ?_)
 ·rcases (show k = 0 ∨ k = 1 by omega) with rfl | rfl --dup 2
  ·obtain rfl : m = 0 := hm
   refine Cd.skip (tQ (Cd.seq (Cd.block (Cd.seq (Cd.region (Ops.idx hQ.2 rfl rfl rfl (by omega) (by omega) ?_))))))
   refine Ops.ld_sl (i := ((0 : Nat) : Int)) hQ rfl (by simp) rfl rfl ?_
   rw [e0]
   refine Ops.ms rfl rfl rfl (Ops.n (tQ (Cd.seq (Cd.region (Ops.mi rfl rfl rfl (Ops.ms rfl rfl rfl (Ops.len rfl rfl (Ops.add rfl rfl rfl (by omega) (Ops.mi rfl rfl rfl ?_)))))))))
   refine Ops.n (tQ (Cd.seq (Cd.region (Ops.mi rfl rfl rfl (Ops.lss rfl rfl rfl (Ops.n (tQ (Cd.cond_pf rfl (by omega) (Cd.skip ?_)))))))))
   refine blockQ_n (tQ (Cd.region (Ops.add rfl rfl rfl (by omega) (Ops.mi rfl rfl rfl (Ops.n (tQ ?_))))))
   exact ⟨(1, s.n), by show 2 - 1 < 2 - 0; omega, ⟨rfl, by show Value.int .i64 (((0 : Nat) : Int) + (s.n : Int)) = .int .i64 (s.n : Int); congr 1; omega, rfl, rfl, rfl, trivial⟩, rfl, by show 1 ≤ 2; omega, rfl⟩
  ·obtain rfl : m = s.n := hm
   refine Cd.skip (tQ (Cd.seq (Cd.block (Cd.seq (Cd.region (Ops.idx hQ.2 rfl rfl rfl (by omega) (by omega) ?_))))))
   refine Ops.ld_sl (i := ((1 : Nat) : Int)) hQ rfl (by simp) rfl rfl ?_
   rw [e1]
   refine Ops.ms rfl rfl rfl (Ops.n (tQ (Cd.seq (Cd.region (Ops.mi rfl rfl rfl (Ops.ms rfl rfl rfl (Ops.len rfl rfl (Ops.add rfl rfl rfl (by omega) (Ops.mi rfl rfl rfl ?_)))))))))
   refine Ops.n (tQ (Cd.seq (Cd.region (Ops.mi rfl rfl rfl (Ops.lss rfl rfl rfl (Ops.n (tQ (Cd.cond_pf rfl (by omega) (Cd.skip ?_)))))))))
   refine blockQ_n (tQ (Cd.region (Ops.add rfl rfl rfl (by omega) (Ops.mi rfl rfl rfl (Ops.n (tQ ?_))))))
   exact ⟨(2, s.n + t.n), by show 2 - 2 < 2 - 1; omega, ⟨rfl, by show Value.int .i64 ((s.n : Int) + (t.n : Int)) = .int .i64 ((s.n + t.n : Nat) : Int); congr 1, rfl, rfl, rfl, trivial⟩, rfl, by show 2 ≤ 2; omega, rfl⟩
 ·obtain rfl : k = 2 := by omega
  obtain rfl : m = s.n + t.n := hm
  refine Cd.exit (thenQ_x (thenQ_x (blockQ_x (tQ (Cd.seq (Cd.region (Ops.mi rfl rfl rfl (Ops.call (GrowI_c (s.n + t.n) _ (by omega)) rfl rfl rfl ?_))))))))
  rintro _ w2 ⟨A6, c6, rfl, hnc, hS2⟩
  refine Ops.ms rfl rfl rfl (Ops.n (tQ (Cd.seq (Cd.seq (Cd.region (Ops.ms rfl rfl rfl (Ops.len rfl rfl (Ops.mi rfl rfl rfl (Ops.n ?_)))))))))
  refine tQ (Cd.block ?_)
  refine Cd.loop (α := Nat × Option Addr × Nat × List Int) (fun k => [(6, .slice k.2.1 k.2.2.2.length k.2.2.1), (25, .slice Aq 2 2), (26, .int .i64 2), (27, .int .i64 (k.1 : Int))]) (fun k w' => St w1 w' [CkI 2 k.2.1 k.2.2.2.length k.2.2.1 k.2.2.2] ∧ k.1 ≤ 2 ∧ k.2.2.2 = if k.1 = 0 then [] else if k.1 = 1 then x else x ++ y) (fun k => 2 - k.1) (0, A6, c6, []) ⟨rfl, rfl, rfl, rfl, trivial⟩ ⟨hS2, by show 0 ≤ 2; omega, rfl⟩ ?_
  rintro ⟨k, A6, c6, zs⟩ e w3 ⟨hS3, hk, hm⟩
  dsimp only at hS3 hk hm ⊢
  have hQ3 := hS3.oldR hQ
  refine Cd.seq (Cd.region (Ops.lss rfl rfl rfl (Ops.n (tQ (Cd.seq ?_)))))
  refine Cd.cond_p _ rfl (fun h2 => ?_) (fun h2 => ?_)
  ·rcases (show k = 0 ∨ k = 1 by omega) with rfl | rfl --dup 2
   ·obtain rfl : zs = [] := hm
    refine Cd.skip (tQ (Cd.seq (Cd.block (Cd.seq (Cd.region (Ops.idx hQ3.2 rfl rfl rfl (by omega) (by omega) ?_))))))
    refine Ops.ld_sl (i := ((0 : Nat) : Int)) hQ3 rfl (by simp) rfl rfl ?_
    rw [e0]
    refine Ops.ms rfl rfl rfl (Ops.n (tQ (Cd.region (Ops.ms rfl rfl rfl (Ops.ms rfl rfl rfl ?_)))))
    refine Ops.appI 0 hS3 rfl (hS3.oldI hx) rfl rfl rfl (by simp; omega) (by simp; omega) rfl ?_
    intro A7 c7 w4 hS4
    refine Ops.ms rfl rfl rfl (Ops.n (blockQ_n (tQ (Cd.region (Ops.add rfl rfl rfl (by omega) (Ops.mi rfl rfl rfl (Ops.n (tQ ?_))))))))
    refine ⟨(1, A7, c7, x), by show 2 - 1 < 2 - 0; omega, ⟨by show Value.slice A7 (0 + s.n) c7 = .slice A7 x.length c7; rw [hxl, Nat.zero_add], rfl, rfl, rfl, trivial⟩, ?_, by show 1 ≤ 2; omega, rfl⟩
    show St w1 w4 [CkI 2 A7 x.length c7 x]
    have h5 : St w1 w4 [CkI 2 A7 (0 + s.n) c7 x] := hS4
    rw [hxl]
    rwa [Nat.zero_add] at h5
   ·obtain rfl : zs = x := hm
    refine Cd.skip (tQ (Cd.seq (Cd.block (Cd.seq (Cd.region (Ops.idx hQ3.2 rfl rfl rfl (by omega) (by omega) ?_))))))
    refine Ops.ld_sl (i := ((1 : Nat) : Int)) hQ3 rfl (by simp) rfl rfl ?_
    rw [e1]
    refine Ops.ms rfl rfl rfl (Ops.n (tQ (Cd.region (Ops.ms rfl rfl rfl (Ops.ms rfl rfl rfl (Ops.appI 0 hS3 rfl (hS3.oldI hy) rfl rfl rfl (by omega) (by omega) rfl ?_))))))
    intro A7 c7 w4 hS4
    refine Ops.ms rfl rfl rfl (Ops.n (blockQ_n (tQ (Cd.region (Ops.add rfl rfl rfl (by omega) (Ops.mi rfl rfl rfl (Ops.n (tQ ?_))))))))
    refine ⟨(2, A7, c7, zs ++ y), by show 2 - 2 < 2 - 1; omega, ⟨by show Value.slice A7 (zs.length + t.n) c7 = .slice A7 (zs ++ y).length c7; rw [List.length_append, hyl], rfl, rfl, rfl, trivial⟩, ?_, by show 2 ≤ 2; omega, rfl⟩
    show St w1 w4 [CkI 2 A7 (zs ++ y).length c7 (zs ++ y)]
    rw [List.length_append, hyl]
    exact hS4
  ·obtain rfl : k = 2 := by omega
   obtain rfl : zs = x ++ y := hm
   refine Cd.exit (thenQ_x (thenQ_x (blockQ_x (tQ (Cd.seq (Cd.region (Ops.ms rfl rfl rfl (Ops.ms rfl rfl rfl (Ops.n ?_)))))))))
   refine tQ (Cd.ret (ret1_s rfl ?_))
   exact ⟨A6, c6, rfl, hS3⟩
/-
 A chain's boundary made small, walked.
-/
section
variable {P : Program} {N : Nat} {ops : Array Oper} {K : Env → World → Prop} {rest : List Oper} {e : Env} {w0 w w' : World} {ks : List Ck} {d : Nat} {ty : TypeId} {pos : String} {af : Array Edge}
theorem Ops.lookGok {κ ν : Type} [DecidableEq κ] {kd : TypeDesc} {kv : κ → Value} {vv : ν → Value} {t kt et : TypeId} {z v : Value} {s b : Nat} [Und P t (.map kt et)] [Und P kt kd] [Inf P et z s b] (KT : KeyT kd kv) {g : Nat} {L : List (κ × ν)} {m ix : Operand} {x : κ} (hR : RdM w g (prV kv vv L)) (hx : ev e m = .map (some g)) (hy : ev e ix = kv x) (hv : ((getA L x).map vv).getD z = v) (hb : Nat.blt d N = true)
    (hK : Ops P N ops K rest (upd e d (.tuple #[v, .bool (getA L x).isSome])) w) : Ops P N ops K (⟨some d, .lookup t m ix true, ty, pos, af, none⟩ :: rest) e w := by
  subst hv
  refine .val (w' := w) ?_ hb hK
  have := run_look (P := P) (t := t) (x := x) KT hR true
  simp [execOp, hx, hy, this]
end
abbrev KE := Int × (SlV × List Int)
def redV (u : SlV × List Int) : Value := .agg #[.slice none 0 0, .slice u.1.a u.1.n u.1.c]
def KpE (b : Nat) (p : KE) : Prop := (OkX p.2.2 ∧ ∀ e ∈ p.2.2, e < b) ∧ p.2.2.getLast? = some p.1
def spK (M : List KE) : List Nat := M.map fun p => mkb p.2.2
def muX (x : List Int) : Nat := match x.getLast? with | some t => t.toNat + 1 | none => 0
theorem muX_lt {x y : List Int} {t : Int} (h : x.getLast? = some t) (hy : ∀ e ∈ y, 0 ≤ e ∧ e < t) (h0 : 0 ≤ t) : muX y < muX x := by
 unfold muX
 rw [h]
 cases e : y.getLast? with
 | none => show 0 < t.toNat + 1; omega
 | some u =>
  have := hy u (by rw [getLast_snoc e]; simp)
  show u.toNat + 1 < t.toNat + 1
  omega
abbrev bxR (A : Option Addr) (s : SlV) : Ck := Bx 111 2 A [.slice none 0 0, .slice s.a s.n s.c]
theorem mem_rd {w0 w : World} {ks : List Ck} {t : TypeId} {A : Option Addr} {n c : Nat} {xs : List Int} (h : St w0 w ks) (hm : CkI t A n c xs ∈ ks) : RdI w A n xs := by
 obtain ⟨i, hi⟩ := List.mem_iff_getElem?.1 hm
 exact h.rdI i hi
set_option maxHeartbeats 2000000 in
theorem reduce_c (g : Nat) (M : List KE) (s : SlV) (x : List Int) (b : Nat) (w : World) (hM : RdM w g (prV (Value.int .i64) redV M)) (hMr : ∀ p ∈ M, RdI w p.2.1.a p.2.1.n p.2.2 ∧ KpE b p) (hx : RdI w s.a s.n x) (hX : OkX x ∧ ∀ e ∈ x, e < b) (hb : b ≤ 1000000) :
    Ret Tryz.prog 106 [.map (some g), .agg #[.slice none 0 0, .slice s.a s.n s.c]] w (fun v w' => ∃ s' x' X, v = redV (s', x') ∧ (OkX x' ∧ ∀ e ∈ x', e < b) ∧ mkb x ^^^ mkb x' ∈ sums (spK M) ∧ (∀ t, x'.getLast? = some t → getA M t = none) ∧ St w w' X ∧ (s' = s ∧ x' = x ∨ CkI 2 s'.a s'.n s'.c x' ∈ X)) := by
  refine Ret.of_cd Tryz.func106 rfl Tryz.ntmps106 rfl (postc rfl rfl) (Cd.seq (Cd.region (Ops.box2 (St.refl w) rfl rfl ?_)))
  intro P3 w1 hS1
  refine Ops.new2 hS1 rfl ?_
  intro P4 w2 hS2
  refine Ops.n (tQ (Cd.seq (Cd.block ?_)))
  have hS2 : St w w2 (bxR P3 s :: bxR P4 ⟨none, 0, 0⟩ :: []) := hS2.swap
  refine Cd.loop (α := SlV × List Int × List Ck) (fun z => [(0, .map (some g)), (3, .pointer P3), (4, .pointer P4)])
    (fun z w' => (OkX z.2.1 ∧ ∀ e ∈ z.2.1, e < b) ∧ mkb x ^^^ mkb z.2.1 ∈ sums (spK M) ∧ (z.1 = s ∧ z.2.1 = x ∨ CkI 2 z.1.a z.1.n z.1.c z.2.1 ∈ z.2.2) ∧ St w w' (bxR P3 z.1 :: bxR P4 ⟨none, 0, 0⟩ :: z.2.2)) (fun z => muX z.2.1) (s, x, []) ⟨rfl, rfl, rfl, trivial⟩ ⟨hX, by show mkb x ^^^ mkb x ∈ _; rw [Nat.xor_self]; exact sums_zero _, .inl ⟨rfl, rfl⟩, hS2⟩ ?_
  clear hS2 hS1
  rintro ⟨u, y, X⟩ e w3 ⟨hy, hsp, hor, hS⟩
  dsimp only at hy hsp hor hS ⊢
  have hyR : RdI w3 u.a u.n y := by
    rcases hor with ⟨rfl, rfl⟩ | h
    · exact hS.oldI hx
    · exact mem_rd hS (List.mem_cons_of_mem _ (List.mem_cons_of_mem _ h))
  have hyl := hyR.1
  have hyb := hy.1.len hy.2
  have hB3 := hS.rd 0 rfl
  have hB4 := hS.rd 1 rfl
  refine Cd.seq (Cd.seq (Cd.region (Ops.fld hB3 rfl rfl rfl rfl inferInstance ?_)))
  skip
  refine Ops.ldf_s hB3 rfl rfl rfl rfl rfl (Ops.len rfl rfl (Ops.gtr rfl rfl rfl (Ops.n (tQ ?_))))
  refine Cd.cond_p _ rfl (fun h1 => ?_) (fun h1 => ?_)
  · obtain ⟨m, hm⟩ : ∃ m, y.length = m + 1 := ⟨y.length - 1, by omega⟩
    have hgl := last_gi hm
    have e1 : ((u.n : Int) - 1) = (m : Int) := by omega
    have h0 := hy.1.2 _ (show gi y (m : Int) ∈ y by rw [gi_mem (by omega)]; exact List.getElem_mem _)
    generalize ht : gi y (m : Int) = t at *
    refine Cd.skip (tQ (Cd.block (Cd.seq (Cd.region (Ops.mv_map rfl rfl rfl (Ops.fld hB3 rfl rfl rfl rfl inferInstance ?_))))))
    skip
    refine Ops.ldf_s hB3 rfl rfl rfl rfl rfl ?_
    skip
    refine Ops.fld hB3 rfl rfl rfl rfl inferInstance ?_
    skip
    refine Ops.ldf_s hB3 rfl rfl rfl rfl rfl (Ops.len rfl rfl (Ops.sub rfl rfl rfl (by omega) (Ops.idx hyR.2 rfl rfl rfl (by omega) (by omega) (Ops.ld_int hyR rfl (by omega) rfl rfl ?_))))
    rw [e1, ht]
    cases hg : getA M t with
    | none => --dup 2
      refine Ops.lookGok (v := .agg #[.slice none 0 0, .slice none 0 0]) keyI (x := t) (hS.oldM hM) rfl rfl (by rw [hg]; try rfl) rfl ?_
      rw [hg]
      refine Ops.mv_tup rfl rfl rfl (Ops.extract rfl rfl rfl (Ops.extract rfl rfl rfl (Ops.new2 hS rfl ?_)))
      intro P5 w4 hS4
      refine Ops.st_agg 2 0 hS4 rfl rfl rfl rfl rfl rfl rfl ?_
      intro w5 hS5
      have hS5 : St w w5 (bxR P5 ⟨none, 0, 0⟩ :: bxR P3 u :: bxR P4 ⟨none, 0, 0⟩ :: X) := hS5
      refine Ops.mb rfl rfl rfl (Ops.n (tQ (Cd.seq (Cd.seq (Cd.region (Ops.mb rfl rfl rfl ?_))))))
      first | refine Ops.not_p rfl rfl ?_ | refine Ops.not rfl rfl ?_
      refine Ops.n (tQ (Cd.cond_t rfl (Cd.seq (Cd.region (Ops.ld_agg 1 (hS5.rd 1 rfl) rfl rfl rfl (Ops.st_agg 2 2 hS5 rfl rfl rfl rfl rfl rfl rfl ?_))))))
      intro w6 hS6
      have hS6 : St w w6 (bxR P5 ⟨none, 0, 0⟩ :: bxR P3 u :: bxR P4 u :: X) := hS6
      refine Ops.n (tQ (Cd.ret (thenQ_r (blockQ_r (thenQ_r (blockQ_r (thenQ_r ?_)))))))
      skip
      refine ⟨P4, _, rfl, hS6.rd 2 rfl, u, y, _, rfl, hy, hsp, fun t' h' => ?_, hS6, ?_⟩
      · rw [hgl] at h'; cases h'; exact hg
      · exact hor.imp id fun h => by simp [h]
    | some p =>
      have hpm := getA_some_mem hg
      obtain ⟨hpR, hpo, hpl⟩ := hMr _ hpm
      dsimp only at hpR hpo hpl
      obtain ⟨s2, z⟩ := p
      dsimp only at hpR hpo hpl
      refine Ops.lookGok (v := .agg #[.slice none 0 0, .slice s2.a s2.n s2.c]) keyI (x := t) (hS.oldM hM) rfl rfl (by rw [hg]; try rfl) rfl ?_
      rw [hg]
      refine Ops.mv_tup rfl rfl rfl (Ops.extract rfl rfl rfl (Ops.extract rfl rfl rfl (Ops.new2 hS rfl ?_)))
      intro P5 w4 hS4
      refine Ops.st_agg 2 0 hS4 rfl rfl rfl rfl rfl rfl rfl ?_
      intro w5 hS5
      have hS5 : St w w5 (bxR P5 s2 :: bxR P3 u :: bxR P4 ⟨none, 0, 0⟩ :: X) := hS5
      refine Ops.mb rfl rfl rfl (Ops.n (tQ (Cd.seq (Cd.seq (Cd.region (Ops.mb rfl rfl rfl ?_))))))
      first | refine Ops.not_p rfl rfl ?_ | refine Ops.not rfl rfl ?_
      refine Ops.n (tQ (Cd.cond_f rfl ?_))
      have hzl := hpR.1
      have hzR := hS5.oldI hpR
      have hyR5 : RdI w5 u.a u.n y := by
        rcases hor with ⟨rfl, rfl⟩ | h
        · exact hS5.oldI hx
        · exact mem_rd hS5 (List.mem_cons_of_mem _ (List.mem_cons_of_mem _ (List.mem_cons_of_mem _ h)))
      have hzb := hpo.1.len hpo.2
      have hst : stX y z = oddP (srt (y ++ z)) := rfl
      have hF3 := hS5.rd 1 rfl
      have hF5 := hS5.rd 0 rfl
      clear hS hS4 hB3 hB4
      refine Cd.skip (tQ ?_)
      refine Cd.drawN [13, 15] [.ex (.pointer (ptrAt (P3) 0)), .ex (.slice (none) (0) (0)), .ex (.pointer (ptrAt (P5) 0)), .ex (.slice (none) (0) (0)), .pr (fun v w' => ∃ A, v = .slice A 2 2 ∧ RdR w' A 2 [slNil, slNil]), .pr (fun v w' => ∃ A c, v = .slice A 0 c), .ex (.slice (none) (0) (0)), .ex (.pointer (ptrAt (P3) 1)), .ex (.slice (u.a) (u.n) (u.c)), .ex (.pointer (ptrAt (P5) 1)), .ex (.slice (s2.a) (s2.n) (s2.c)), .pr (fun v w' => ∃ A, v = .slice A 2 2 ∧ RdR w' A 2 [u, s2]), .pr (fun v w' => ∃ A c, v = .slice A (y ++ z).length c ∧ St w5 w' [CkI 2 A (y ++ z).length c (y ++ z)]), .pr (fun v w' => ∃ A c Ac cc, v = .slice A (stX y z).length c ∧ St w w' (CkI 2 A (stX y z).length c (stX y z) :: CkI 2 Ac (y ++ z).length cc (srt (y ++ z)) :: bxR P5 s2 :: bxR P3 u :: bxR P4 ⟨none, 0, 0⟩ :: X)), .pr (fun v w' => ∃ A c Ac cc, v = .agg #[.slice none 0 0, .slice A (stX y z).length c] ∧ St w w' (CkI 2 A (stX y z).length c (stX y z) :: CkI 2 Ac (y ++ z).length cc (srt (y ++ z)) :: bxR P5 s2 :: bxR P3 u :: bxR P4 ⟨none, 0, 0⟩ :: X)), .pr (fun _ w' => ∃ A c Ac cc, St w w' (CkI 2 A (stX y z).length c (stX y z) :: CkI 2 Ac (y ++ z).length cc (srt (y ++ z)) :: bxR P5 s2 :: bxR P3 ⟨A, (stX y z).length, c⟩ :: bxR P4 ⟨none, 0, 0⟩ :: X))] (by kernel_rfl) (by kernel_rfl) (lx (lx (lx (lx (List.forall_mem_cons.2 ⟨Yd.lasts_pr (fun v w w' h hb => by obtain ⟨A, hv, hT⟩ := h; exact ⟨A, hv, hT.later hb⟩), (List.forall_mem_cons.2 ⟨Yd.lasts_pr (fun v w w' h hb => h), (lx (lx (lx (lx (lx (List.forall_mem_cons.2 ⟨Yd.lasts_pr (fun v w w' h hb => by obtain ⟨A, hv, hT⟩ := h; exact ⟨A, hv, hT.later hb⟩), (List.forall_mem_cons.2 ⟨Yd.lasts_pr (fun v w w' h hb => by obtain ⟨A, c, hv, hT⟩ := h; exact ⟨A, c, hv, hT.later hb⟩), (List.forall_mem_cons.2 ⟨Yd.lasts_pr (fun v w w' h hb => by obtain ⟨A, c, Ac, cc, hv, hT⟩ := h; exact ⟨A, c, Ac, cc, hv, hT.later hb⟩), (List.forall_mem_cons.2 ⟨Yd.lasts_pr (fun v w w' h hb => by obtain ⟨A, c, Ac, cc, hv, hT⟩ := h; exact ⟨A, c, Ac, cc, hv, hT.later hb⟩), (List.forall_mem_cons.2 ⟨Yd.lasts_pr (fun v w w' h hb => by obtain ⟨A, c, Ac, cc, hT⟩ := h; exact ⟨A, c, Ac, cc, hT.later hb⟩), (fun _ h => by cases h)⟩)⟩)⟩)⟩)⟩))))))⟩)⟩))))) ⟨?_, ?_, ?_, ?_, ?_, ?_, ?_, ?_, ?_, ?_, ?_, ?_, ?_, ?_, ?_, ?_, trivial⟩ ?_
      · intro e1 w1 cc hlo hhi hb0 hp hun hq
        show Ops _ _ _ _ _ _ _
        obtain rfl := cc_of hlo hhi (b := 0) (by kernel_rfl) (by kernel_rfl)
        have hb := hb0 rfl
        refine Ops.fld (hF3.below hb) rfl rfl rfl rfl inferInstance (Ops.n (n0 rfl (by exact rfl)))
      · intro e1 w1 cc hlo hhi hb0 hp hun hq
        show Ops _ _ _ _ _ _ _
        obtain rfl := cc_of hlo hhi (b := 0) (by kernel_rfl) (by kernel_rfl)
        have hb := hb0 rfl
        refine Ops.ldf_s (hF3.below hb) rfl rfl rfl rfl rfl (Ops.n (n0 rfl (by exact rfl)))
      · intro e1 w1 cc hlo hhi hb0 hp hun hq
        show Ops _ _ _ _ _ _ _
        obtain rfl := cc_of hlo hhi (b := 0) (by kernel_rfl) (by kernel_rfl)
        have hb := hb0 rfl
        refine Ops.fld (hF5.below hb) rfl rfl rfl rfl inferInstance (Ops.n (n0 rfl (by exact rfl)))
      · intro e1 w1 cc hlo hhi hb0 hp hun hq
        show Ops _ _ _ _ _ _ _
        obtain rfl := cc_of hlo hhi (b := 0) (by kernel_rfl) (by kernel_rfl)
        have hb := hb0 rfl
        refine Ops.ldf_s (hF5.below hb) rfl rfl rfl rfl rfl (Ops.n (n0 rfl (by exact rfl)))
      · intro e1 w1 cc hlo hhi hb0 hp hun hq
        show Ops _ _ _ _ _ _ _
        refine Ops.bs2 (St.refl _) rfl rfl rfl rfl rfl rfl ?_
        intro A w9 hst9
        refine Ops.n ?_
        exact AfterN.dn rfl hst9.below ⟨A, rfl, St.rdR (show St _ w9 (CkR 28 A 2 2 [slNil, slNil] :: _) from hst9) 0 rfl⟩
      · intro e1 w1 cc hlo hhi hb0 hp hun hq
        show Ops _ _ _ _ _ _ _
        obtain rfl := cc_of hlo hhi (b := 0) (by kernel_rfl) (by kernel_rfl)
        have hb := hb0 rfl
        obtain ⟨A, h31, hT⟩ := (hp 4 _ _ (by kernel_rfl) rfl rfl (by kernel_rfl))
        refine Ops.call (ConcatI_c A slNil slNil [] [] _ hT RdI.nil RdI.nil (Nat.zero_le _)) rfl (by exact congrArg (fun v => [v]) h31) rfl ?_
        rintro _ w9 ⟨A2, c2, rfl, hst9⟩
        refine Ops.n ?_
        exact AfterN.dn rfl hst9.below ⟨A2, c2, rfl⟩
      · intro e1 w1 cc hlo hhi hb0 hp hun hq
        show Ops _ _ _ _ _ _ _
        obtain rfl := cc_of hlo hhi (b := 0) (by kernel_rfl) (by kernel_rfl)
        have hb := hb0 rfl
        obtain ⟨A, c, h32⟩ := (hp 5 _ _ (by kernel_rfl) rfl rfl (by kernel_rfl))
        refine Ops.call (oddOf0_c A c _) rfl (by exact congrArg (fun v => [v]) h32) rfl ?_
        rintro _ w9 ⟨rfl, rfl⟩
        refine Ops.n (n0 rfl (by exact rfl))
      · intro e1 w1 cc hlo hhi hb0 hp hun hq
        show Ops _ _ _ _ _ _ _
        obtain rfl := cc_of hlo hhi (b := 0) (by kernel_rfl) (by kernel_rfl)
        have hb := hb0 rfl
        refine Ops.fld (hF3.below hb) rfl rfl rfl rfl inferInstance (Ops.n (n0 rfl (by exact rfl)))
      · intro e1 w1 cc hlo hhi hb0 hp hun hq
        show Ops _ _ _ _ _ _ _
        obtain rfl := cc_of hlo hhi (b := 0) (by kernel_rfl) (by kernel_rfl)
        have hb := hb0 rfl
        refine Ops.ldf_s (hF3.below hb) rfl rfl rfl rfl rfl (Ops.n (n0 rfl (by exact rfl)))
      · intro e1 w1 cc hlo hhi hb0 hp hun hq
        show Ops _ _ _ _ _ _ _
        obtain rfl := cc_of hlo hhi (b := 0) (by kernel_rfl) (by kernel_rfl)
        have hb := hb0 rfl
        refine Ops.fld (hF5.below hb) rfl rfl rfl rfl inferInstance (Ops.n (n0 rfl (by exact rfl)))
      · intro e1 w1 cc hlo hhi hb0 hp hun hq
        show Ops _ _ _ _ _ _ _
        obtain rfl := cc_of hlo hhi (b := 0) (by kernel_rfl) (by kernel_rfl)
        have hb := hb0 rfl
        refine Ops.ldf_s (hF5.below hb) rfl rfl rfl rfl rfl (Ops.n (n0 rfl (by exact rfl)))
      · intro e1 w1 cc hlo hhi hb0 hp hun hq
        show Ops _ _ _ _ _ _ _
        refine Ops.bs2 (St.refl _) rfl rfl rfl rfl rfl rfl ?_
        intro A w9 hst9
        refine Ops.n ?_
        exact AfterN.dn rfl hst9.below ⟨A, rfl, St.rdR (show St _ w9 (CkR 28 A 2 2 [u, s2] :: _) from hst9) 0 rfl⟩
      · intro e1 w1 cc hlo hhi hb0 hp hun hq
        show Ops _ _ _ _ _ _ _
        obtain rfl := cc_of hlo hhi (b := 0) (by kernel_rfl) (by kernel_rfl)
        have hb := hb0 rfl
        obtain ⟨A, h38, hT⟩ := (hp 11 _ _ (by kernel_rfl) rfl rfl (by kernel_rfl))
        refine Ops.call (ConcatI_c A u s2 y z _ hT (hyR5.later hb) (hzR.later hb) (by omega)) rfl (by exact congrArg (fun v => [v]) h38) rfl ?_
        rintro _ w9 ⟨A2, c2, rfl, hst9⟩
        refine Ops.n ?_
        exact AfterN.dn rfl hst9.below ⟨A2, c2, rfl, by have := ((St.refl w5).later hb).call hst9; rwa [List.append_nil] at this⟩
      · intro e1 w1 cc hlo hhi hb0 hp hun hq
        show Ops _ _ _ _ _ _ _
        obtain rfl := cc_of hlo hhi (b := 0) (by kernel_rfl) (by kernel_rfl)
        have hb := hb0 rfl
        obtain ⟨Ac, cc, h39, hT⟩ := (hp 12 _ _ (by kernel_rfl) rfl rfl (by kernel_rfl))
        refine Ops.call (oddOf_c 0 (hS5.call hT) rfl (by rw [List.length_append]; omega)) rfl (by exact congrArg (fun v => [v]) h39) rfl ?_
        rintro _ w9 ⟨A2, c2, rfl, hS9⟩
        refine Ops.n ?_
        exact AfterT.dn rfl ⟨A2, c2, Ac, cc, rfl, hS9⟩
      · intro e1 w1 cc hlo hhi hb0 hp hun hq
        show Ops _ _ _ _ _ _ _
        obtain rfl := cc_of hlo hhi (b := 1) (by kernel_rfl) (by kernel_rfl)
        have hph := hp 13 _ _ (by kernel_rfl) rfl rfl (by kernel_rfl)
        obtain ⟨A, c, Ac, cc, h40, hT⟩ := (hp 13 _ _ (by kernel_rfl) rfl rfl (by kernel_rfl))
        refine Ops.bld2c (by exact inferInstance) (by exact inferInstance) rfl rfl rfl (by exact h40) rfl rfl rfl (Ops.n ?_)
        exact AfterN.dn rfl (Below.refl _ _) ⟨A, c, Ac, cc, rfl, hT⟩
      · intro e1 w1 cc hlo hhi hb0 hp hun hq
        show Ops _ _ _ _ _ _ _
        obtain rfl := cc_of hlo hhi (b := 1) (by kernel_rfl) (by kernel_rfl)
        have hph := hp 13 _ _ (by kernel_rfl) rfl rfl (by kernel_rfl)
        obtain ⟨A, c, Ac, cc, h41, hT⟩ := (hp 14 _ _ (by kernel_rfl) rfl rfl (by kernel_rfl))
        refine Ops.st_agg 2 3 hT rfl rfl (by exact h41) rfl rfl rfl rfl ?_
        intro w9 hS9
        refine Ops.n ?_
        exact AfterT.st rfl ⟨A, c, Ac, cc, hS9⟩
      intro _ w7 _ hu
      obtain ⟨A, c, Ac, cc, hT⟩ := hu 15 _ rfl (by kernel_rfl)
      have hso := stX_ok hy.1 hpo.1
      refine blockQ_n (tQ ?_)
      refine ⟨(⟨A, (stX y z).length, c⟩, stX y z, CkI 2 A (stX y z).length c (stX y z) :: CkI 2 Ac (y ++ z).length cc (srt (y ++ z)) :: bxR P5 s2 :: X), ?_, ⟨rfl, rfl, rfl, trivial⟩, ⟨hso, fun e he => ?_⟩, ?_, .inr (by simp), ?_⟩
      · exact muX_lt hgl (fun e he => ⟨hso.2 e he, stX_lt hy.1 hpo.1 hgl hpl e he⟩) h0
      · rcases stX_sub e he with h | h
        · exact hy.2 e h
        · exact hpo.2 e h
      · show mkb x ^^^ mkb (stX y z) ∈ _
        rw [stX_mkb, ← Nat.xor_assoc]
        exact sums_xor hsp (sums_self (List.mem_map.2 ⟨_, hpm, rfl⟩))
      · refine hT.perm ?_
        show ([_, _, _] ++ [bxR P3 _, bxR P4 _] ++ X).Perm ([bxR P3 _, bxR P4 _] ++ [_, _, _] ++ X)
        exact List.perm_append_comm.append_right X
  · have hnil : y = [] := List.eq_nil_of_length_eq_zero (by omega)
    refine Cd.exit (thenQ_x (thenQ_x (blockQ_x (tQ (Cd.seq (Cd.region (Ops.ld_agg 1 hB3 rfl rfl rfl (Ops.st_agg 2 1 hS rfl rfl rfl rfl rfl rfl rfl ?_))))))))
    intro w6 hS6
    have hS6 : St w w6 (bxR P3 u :: bxR P4 u :: X) := hS6
    refine Ops.n (tQ (Cd.ret ?_))
    skip
    refine ⟨P4, _, rfl, hS6.rd 1 rfl, u, y, _, rfl, hy, hsp, fun t' h' => ?_, hS6, hor.imp id fun h => by simp [h]⟩
    rw [hnil] at h'; cases h'
/-
 The rank of faces' boundaries, walked in the program.
-/
section
variable {P : Program} {N : Nat} {ops : Array Oper} {K : Env → World → Prop} {rest : List Oper} {e : Env} {w0 w w' : World} {ks : List Ck} {d : Nat} {ty : TypeId} {pos : String} {af : Array Edge}
theorem Ops.lenM {x : Operand} {t kt et : TypeId} {g : Nat} {kvs : List (Value × Value)} [Und P t (.map kt et)] (hR : RdM w g kvs) (hx : ev e x = .map (some g)) (hb : Nat.blt d N = true) (hK : Ops P N ops K rest (upd e d (.int .i64 (kvs.length : Int))) w) :
  Ops P N ops K (⟨some d, .call ⟨.builtin .len, #[x], #[t]⟩, ty, pos, af, none⟩ :: rest) e w := by
 obtain ⟨es, cl, hh, hm⟩ := hR
 have hl : es.size = kvs.length := by rw [← hm]; simp
 refine .val (w' := w) ?_ hb hK
 simp [execOp, resolve, invoke, builtin, Builtin.len_, hx, run_underlying (Und.out (P := P) (t := t)), MapKept.run_getObj_map hh, goInt, Result.andThen, hl]
end
theorem odd_lt {G : List (List Int)} {x : List Int} {k : Nat} (hn : G.Nodup) (hl : x.length = k + 1) (hG : ∀ p ∈ ptsP x k, p ∈ G) : ∀ e ∈ oddP (srt (bdN G x)), e < G.length := by
 intro e he
 have h1 := (srt_perm _).subset ((oddP_inv _ _ rfl (srt_asc _)).2.1 e he)
 unfold bdN at h1
 rw [show x.length - 1 = k by omega] at h1
 obtain ⟨p, hp, rfl⟩ := List.mem_map.1 h1
 obtain ⟨i, hi, _, h3⟩ := nmb_of hn (hG p hp)
 omega
theorem spK_snoc (M : List KE) (p : KE) : spK (M ++ [p]) = spK M ++ [mkb p.2.2] := by simp [spK]
theorem eqs_snoc0 {B L : List Nat} {r : Nat} (h : Eqs B L) (hr : r ∈ sums B) : Eqs B (L ++ [r]) := .of (fun b hb => sums_mono (fun x hx => List.mem_append_left _ hx) b ((h b).1 (sums_self hb))) fun b hb => by
 rcases List.mem_append.1 hb with hb | hb
 ·exact (h b).2 (sums_self hb)
 ·obtain rfl := List.mem_singleton.1 hb; exact hr
theorem eqs_snoc1 {B L : List Nat} {r v : Nat} (h : Eqs B L) (hr : r ^^^ v ∈ sums B) : Eqs (B ++ [v]) (L ++ [r]) := by
 have hB : ∀ u ∈ sums B, u ∈ sums (B ++ [v]) := sums_mono fun x hx => List.mem_append_left _ hx
 have hL : ∀ u ∈ sums L, u ∈ sums (L ++ [r]) := sums_mono fun x hx => List.mem_append_left _ hx
 have hv : v ∈ sums (B ++ [v]) := sums_self (by simp)
 have hr' : r ∈ sums (L ++ [r]) := sums_self (by simp)
 refine .of (fun b hb => ?_) fun b hb => ?_
 ·rcases List.mem_append.1 hb with hb | hb
  ·exact hL _ ((h b).1 (sums_self hb))
  ·obtain rfl := List.mem_singleton.1 hb
   have := sums_xor hr' (hL _ ((h _).1 hr))
   rwa [xor_cancel] at this
 ·rcases List.mem_append.1 hb with hb | hb
  ·exact hB _ ((h b).2 (sums_self hb))
  ·obtain rfl := List.mem_singleton.1 hb
   have := sums_xor hv (hB _ hr)
   rwa [Nat.xor_comm b v, xor_cancel] at this
def matF (F : List (List Int)) (k : Nat) : List Nat := (fcs F (k + 1)).map fun x => rowM (rwB (fcs F k) x)
theorem kept_rk {M : List KE} {b : Nat} {L : List Nat} (hk : (M.map (·.1)).Nodup) (hM : ∀ p ∈ M, KpE b p) (h : Eqs (spK M) L) : IsRk L M.length := by
 refine ⟨spK M, by simp [spK], ?_, h.symm⟩
 have e : spK M = (M.map fun p => (p.1.toNat, mkb p.2.2)).map (·.2) := by simp [spK]
 rw [e]
 refine top_nodup (fun p hp => ?_) ?_
 ·obtain ⟨q, hq, rfl⟩ := List.mem_map.1 hp
  exact (hM q hq).1.1.top (hM q hq).2
 ·rw [List.map_map]
  have h0 : ∀ p ∈ M, 0 ≤ p.1 := fun p hp => (hM p hp).1.1.2 _ (by rw [getLast_snoc (hM p hp).2]; simp)
  rw [List.Nodup, List.pairwise_map] at hk ⊢
  refine hk.imp_of_mem fun {p q} hp hq hne e => hne ?_
  have e : p.1.toNat = q.1.toNat := e
  have := h0 p hp
  have := h0 q hq
  omega
theorem getA_keys {M : List KE} {t : Int} (h : getA M t = none) : t ∉ M.map (·.1) := fun hm => by
 obtain ⟨p, hp, e⟩ := List.mem_map.1 hm
 exact getA_none_mem h p hp e
theorem keys_snoc {M : List KE} {p : KE} (h : (M.map (·.1)).Nodup) (hp : p.1 ∉ M.map (·.1)) : ((M ++ [p]).map (·.1)).Nodup := by
 rw [List.map_append, List.nodup_append]
 refine ⟨h, by simp, fun a ha b hb e => hp ?_⟩
 obtain rfl : b = p.1 := by simpa using hb
 rw [← e]; exact ha
theorem permK (a : List Ck) (b : Ck) (X Z Y : List Ck) : (b :: (X ++ (Z ++ (a ++ Y)))).Perm (a ++ (b :: ((X ++ Z) ++ Y))) := by
 have e1 : b :: (X ++ (Z ++ (a ++ Y))) = ((b :: (X ++ Z)) ++ a) ++ Y := by simp
 have e2 : a ++ (b :: ((X ++ Z) ++ Y)) = (a ++ (b :: (X ++ Z))) ++ Y := by simp
 rw [e1, e2]
 exact List.perm_append_comm.append_right Y
abbrev stK (g2 g1 : Nat) (M : List KE) (G : List (List Int)) (Y : List Ck) : List Ck := CkM 109 g2 (prV (Value.int .i64) redV M) :: CkM 95 g1 (prV Value.string (Value.int .i64) (numF G)) :: Y
set_option maxHeartbeats 4000000 in
theorem rankWith_c (Pc : Option Addr) (V : Int) (A : Option Addr) (n c : Nat) (rs : List SlV) (F : List (List Int)) (k : Nat) (w : World) (hT : Tab w) (hP : Rd w Pc 2 (fun j => [Value.int .i64 V, .slice A n c].getD j undef)) (hR : RowsI w A n rs F) (hC : Cplx V F) (hk : 1 ≤ k ∧ k ≤ 5) :
    Ret Tryz.prog 64 [.pointer Pc, .int .i64 ((k : Int) + 1)] w (fun v w' => ∃ r : Nat, v = .int .i64 (r : Int) ∧ IsRk (matF F k) r ∧ r ≤ 30000 ∧ St w w' []) := by
  have hFl := hR.len
  have hF4 := hC.f
  have h6 : ∀ f ∈ F, f.length ≤ 6 := fun f hf => (hC.row f hf).1.2
  have hsa : ∀ f ∈ F, SA f := fun f hf => (hC.row f hf).2.1
  have hGl := fcs_num k h6
  have hHl := fcs_num (k + 1) h6
  have hGn := (fcs_SL F k).nodup
  have hGs : ∀ y ∈ fcs F k, SA y ∧ y.length = k := fun y hy => ⟨fcs_sa hsa hy, fcs_len hy⟩
  have hGb : ∀ y ∈ fcs F k, ∀ a ∈ y, -9223372036854775808 ≤ a ∧ a ≤ 9223372036854775807 := fun y hy a ha => by
    obtain ⟨f, hf, hs, _⟩ := (fcs_pos (by omega)).1 hy
    have := (hC.row f hf).2.2 a (hs.subset ha)
    have := hC.v
    omega
  have hHp : ∀ x ∈ fcs F (k + 1), SA x ∧ x.length = k + 1 ∧ ∀ p ∈ ptsP x k, p ∈ fcs F k := fun x hx => ⟨fcs_sa hsa hx, fcs_len hx, fun p hp => by
    obtain ⟨f, hf, hs, _⟩ := (fcs_pos (by omega)).1 hx
    exact (fcs_pos (by omega)).2 ⟨f, hf, (ptsP_mem.1 hp).1.trans hs, (ptsP_mem.1 hp).2⟩⟩
  have hmat : matF F k = (fcs F (k + 1)).map fun x => rowM (rwB (fcs F k) x) := rfl
  refine Ret.of_cd Tryz.func64 rfl Tryz.ntmps64 rfl (post1 rfl) (Cd.seq (Cd.region (Ops.mi rfl rfl rfl (Ops.n (tQ (Cd.seq (Cd.region (Ops.mkmap (St.refl w) rfl ?_))))))))
  intro g1 w1 hS1
  refine Ops.mv_map rfl rfl rfl (Ops.n (tQ (Cd.seq (Cd.seq (Cd.region (Ops.mv_ptr rfl rfl rfl (Ops.mi rfl rfl rfl (Ops.sub rfl rfl rfl (by omega) ?_))))))))
  have hg1 := facesWith_c Pc V A n c rs F k w1 (hS1.old hP) (hS1.oldRows hR) (by omega) h6 (by omega)
  have hg2 := fun w => facesWith_c Pc V A n c rs F (k + 1) w
  generalize hG : fcs F k = G at *
  generalize hH : fcs F (k + 1) = H at *
  refine Ops.call hg1 rfl (by show [_, Value.int .i64 ((k : Int) + 1 - 1)] = _; congr 3; omega) rfl ?_
  rintro _ w2 ⟨A19, c19, rs19, rfl, hrl19, hst⟩
  have hS2 : St w w2 (mat 28 2 A19 G.length c19 rs19 G ++ [CkM 95 g1 (prV Value.string (Value.int .i64) (numF (G.take 0)))]) := by
    have := hS1.call hst
    rw [List.append_nil] at this
    exact this
  clear hst hg1
  refine Ops.len rfl rfl (Ops.mi rfl rfl rfl (Ops.n (tQ (Cd.block ?_))))
  refine Cd.loop (α := Nat) (fun z => [(0, .pointer Pc), (1, .int .i64 ((k : Int) + 1)), (5, .map (some g1)), (19, .slice A19 G.length c19), (20, .int .i64 (G.length : Int)), (21, .int .i64 (z : Int))])
    (fun z w' => z ≤ G.length ∧ St w w' (mat 28 2 A19 G.length c19 rs19 G ++ [CkM 95 g1 (prV Value.string (Value.int .i64) (numF (G.take z)))])) (fun z => G.length - z) 0 ⟨rfl, rfl, rfl, rfl, rfl, rfl, trivial⟩ ⟨Nat.zero_le _, hS2⟩ ?_
  clear hS2 hS1
  rintro i e w3 ⟨hi, hS⟩
  refine Cd.seq (Cd.region (Ops.lss rfl rfl rfl (Ops.n (tQ (Cd.seq ?_)))))
  refine Cd.cond_p _ rfl (fun h1 => ?_) (fun h1 => ?_)
  · have hiG : i < G.length := by omega
    have hM19 := hS.rowsI rfl
    have hr0 := hM19.at_ (i := (i : Int)) (by omega) (by omega)
    have hgm : gl G (i : Int) ∈ G := by rw [gl_mem hiG]; exact List.getElem_mem _
    have hlen := (hGs _ hgm).2
    have hnew := numF_new hGn hiG
    have htk := numF_take hiG
    have hrl0 := hr0.1
    refine Cd.skip (tQ (Cd.seq (Cd.block (Cd.seq (Cd.region (Ops.mi rfl rfl rfl (Ops.idx hM19.top.2 rfl rfl rfl (by omega) (by omega) (Ops.ld_sl hM19.top rfl (by omega) rfl rfl (Ops.mi rfl rfl rfl ?_)))))))))
    refine Ops.ms rfl rfl rfl (Ops.n (tQ (Cd.region (Ops.mv_map rfl rfl rfl (Ops.ms rfl rfl rfl (Ops.call (keyOf_c _ _ _ (gl G (i : Int)) _ (hT.later hS.below) hr0 (hGb _ hgm) (by omega)) rfl rfl rfl ?_))))))
    rintro _ w4 ⟨rfl, hst⟩
    have hS4 := (hS.later hst.below).perm List.perm_append_comm
    refine Ops.mi rfl rfl rfl (Ops.upm rfl keyS 0 (u := (i : Int)) (a := keyB (gl G (i : Int))) hS4 rfl rfl rfl rfl ?_)
    intro w5 hS5
    have hS5 : St w w5 ([CkM 95 g1 (prV Value.string (Value.int .i64) (putA (numF (G.take i)) (keyB (gl G (i : Int))) (i : Int)))] ++ mat 28 2 A19 G.length c19 rs19 G) := hS5
    rw [putA_new hnew, ← htk] at hS5
    refine Ops.n (blockQ_n (tQ (Cd.region (Ops.add rfl rfl rfl (by omega) (Ops.mi rfl rfl rfl (Ops.n (tQ ?_)))))))
    exact ⟨i + 1, by show G.length - (i + 1) < G.length - i; omega, ⟨rfl, rfl, rfl, rfl, rfl, rfl, trivial⟩, by show i + 1 ≤ G.length; omega, hS5.perm List.perm_append_comm⟩
  · rw [List.take_of_length_le (show G.length ≤ i by omega)] at hS
    refine Cd.exit (thenQ_x (thenQ_x (blockQ_x (tQ (Cd.seq (Cd.region (Ops.mkmap (hS.perm List.perm_append_comm) rfl ?_)))))))
    intro g2 w4 hS4
    refine Ops.mv_map rfl rfl rfl (Ops.n (tQ (Cd.seq (Cd.seq (Cd.region (Ops.mv_ptr rfl rfl rfl (Ops.mi rfl rfl rfl (Ops.call (hg2 w4 (hS4.old hP) (hS4.oldRows hR) (by omega) h6 (by omega)) rfl rfl rfl ?_))))))))
    rintro _ w5 ⟨A34, c34, rs34, rfl, hrl34, hst⟩
    clear hg2
    have hS5 : St w w5 (stK g2 g1 [] G (mat 28 2 A34 H.length c34 rs34 H ++ mat 28 2 A19 G.length c19 rs19 G)) := by
      have := hS4.call hst
      rw [List.append_nil] at this
      refine this.perm ?_
      show (mat _ _ _ _ _ _ _ ++ ([_, _] ++ mat _ _ _ _ _ _ _)).Perm ([_, _] ++ (mat _ _ _ _ _ _ _ ++ mat _ _ _ _ _ _ _))
      rw [← List.append_assoc, ← List.append_assoc]
      exact List.perm_append_comm.append_right _
    have hmm : ∀ q ∈ mat 28 2 A34 H.length c34 rs34 H, q ∈ mat 28 2 A34 H.length c34 rs34 H ++ mat 28 2 A19 G.length c19 rs19 G := fun q hq => List.mem_append_left _ hq
    generalize mat 28 2 A34 H.length c34 rs34 H ++ mat 28 2 A19 G.length c19 rs19 G = Y0 at *
    clear hS4 hst hS
    refine Ops.len rfl rfl (Ops.mi rfl rfl rfl (Ops.n (tQ (Cd.block ?_))))
    refine Cd.loop (α := Nat × List KE × List Ck) (fun z => [(1, .int .i64 ((k : Int) + 1)), (5, .map (some g1)), (8, .map (some g2)), (34, .slice A34 H.length c34), (35, .int .i64 (H.length : Int)), (36, .int .i64 (z.1 : Int))])
      (fun z w' => z.1 ≤ H.length ∧ z.2.1.length ≤ z.1 ∧ (∀ p ∈ z.2.1, KpE G.length p ∧ CkI 2 p.2.1.a p.2.1.n p.2.1.c p.2.2 ∈ z.2.2) ∧ (z.2.1.map (·.1)).Nodup ∧ Eqs (spK z.2.1) ((H.take z.1).map fun x => rowM (rwB G x)) ∧ (∀ q ∈ mat 28 2 A34 H.length c34 rs34 H, q ∈ z.2.2) ∧ St w w' (stK g2 g1 z.2.1 G z.2.2)) (fun z => H.length - z.1) (0, [], Y0) ⟨rfl, rfl, rfl, rfl, rfl, rfl, trivial⟩ ⟨Nat.zero_le _, Nat.zero_le _, (fun _ h => by cases h), List.Pairwise.nil, Eqs.refl _, hmm, hS5⟩ ?_
    clear hS5 hmm
    rintro ⟨i, M, Y⟩ e w6 ⟨hi, hMi, hM, hMk, hE, hin, hS⟩
    dsimp only at hi hMi hM hMk hE hin hS ⊢
    refine Cd.seq (Cd.region (Ops.lss rfl rfl rfl (Ops.n (tQ (Cd.seq ?_)))))
    refine Cd.cond_p _ rfl (fun h2 => ?_) (fun h2 => ?_)
    · have hiH : i < H.length := by omega
      have hY : ∀ q ∈ Y, q ∈ stK g2 g1 M G Y := fun q hq => List.mem_cons_of_mem _ (List.mem_cons_of_mem _ hq)
      obtain ⟨q0, hq0⟩ := List.mem_iff_getElem?.1 (hY _ (hin _ (show CkR 28 A34 H.length c34 rs34 ∈ mat _ _ _ _ _ _ _ from List.mem_cons_self)))
      have hR34 : RdR w6 A34 H.length rs34 := hS.rdR q0 hq0
      have hrow : CkI 2 (rg rs34 (i : Int)).a (rg rs34 (i : Int)).n (rg rs34 (i : Int)).c (gl H (i : Int)) ∈ Y := hin _ (List.mem_cons_of_mem _ (List.mem_iff_getElem?.2 ⟨i, rowsCk_get hrl34 (by omega)⟩))
      have hface := mem_rd hS (hY _ hrow)
      obtain ⟨q1, hq1⟩ := List.mem_iff_getElem?.1 (hY _ hrow)
      have hcap := (hS.cap q1 hq1).1
      have hcap : (rg rs34 (i : Int)).n ≤ (rg rs34 (i : Int)).c := hcap
      have hgm : gl H (i : Int) ∈ H := by rw [gl_mem hiH]; exact List.getElem_mem _
      obtain ⟨hxs, hxl, hxp⟩ := hHp _ hgm
      have hfl := hface.1
      have hbr := bd_row hGn hGs hxs hxl hxp
      have hlt := odd_lt hGn hxl hxp
      have hbdN : bdN G (gl H (i : Int)) = (ptsP (gl H (i : Int)) k).map (nmb G) := by unfold bdN; rw [show (gl H (i : Int)).length - 1 = k by omega]
      have htk : (H.take (i + 1)).map (fun x => rowM (rwB G x)) = (H.take i).map (fun x => rowM (rwB G x)) ++ [rowM (rwB G (gl H (i : Int)))] := by rw [take_succ_gl hiH, List.map_append]; rfl
      rw [hbdN] at hbr hlt
      generalize gl H (i : Int) = x at *
      have hNl := ptsP_small (l := x) k (by omega)
      refine Cd.skip (tQ (Cd.seq (Cd.block (Cd.seq (Cd.region (Ops.idx hR34.2 rfl rfl rfl (by omega) (by omega) (Ops.ld_sl hR34 rfl (by omega) rfl rfl (Ops.ms rfl rfl rfl (Ops.n ?_)))))))))
      refine tQ (Cd.seq (Cd.region (Ops.ms rfl rfl rfl (Ops.n (tQ (Cd.seq (Cd.seq (Cd.region (Ops.ms rfl rfl rfl ?_)))))))))
      refine Ops.mi rfl rfl rfl (Ops.sub rfl rfl rfl (by omega) ?_)
      refine Ops.call (partsOf_c k _ _ _ x _ hface hcap (by omega) (by omega)) rfl (by show [_, Value.int .i64 ((k : Int) + 1 - 1)] = _; congr 3; omega) rfl ?_
      rintro _ w7 ⟨A43, c43, rs43, rfl, hrl43, hst⟩
      generalize hN : ptsP x k = N at *
      have hS7 : St w w7 (CkI 2 none 0 0 [] :: (mat 28 2 A43 N.length c43 rs43 N ++ stK g2 g1 M G Y)) := by
        have := hS.call hst
        rw [List.append_nil] at this
        exact this.nil _
      refine Ops.len rfl rfl (Ops.mi rfl rfl rfl (Ops.n (tQ (Cd.block ?_))))
      refine Cd.loop (α := Nat × Option Addr × Nat) (fun z => [(1, .int .i64 ((k : Int) + 1)), (5, .map (some g1)), (8, .map (some g2)), (11, .slice z.2.1 z.1 z.2.2), (34, .slice A34 H.length c34), (35, .int .i64 (H.length : Int)), (36, .int .i64 (i : Int)), (43, .slice A43 N.length c43), (44, .int .i64 (N.length : Int)), (45, .int .i64 (z.1 : Int))])
        (fun z w' => z.1 ≤ N.length ∧ St w w' (CkI 2 z.2.1 z.1 z.2.2 ((N.take z.1).map (nmb G)) :: (mat 28 2 A43 N.length c43 rs43 N ++ stK g2 g1 M G Y))) (fun z => N.length - z.1) (0, none, 0) ⟨rfl, rfl, rfl, rfl, rfl, rfl, rfl, rfl, rfl, rfl, trivial⟩ ⟨Nat.zero_le _, hS7⟩ ?_
      clear hS7 hst hS hq0 hR34 hface hq1
      rintro ⟨j, A11, c11⟩ e w8 ⟨hj, hS⟩
      dsimp only at hj hS ⊢
      refine Cd.seq (Cd.region (Ops.lss rfl rfl rfl (Ops.n (tQ (Cd.seq ?_)))))
      refine Cd.cond_p _ rfl (fun h3 => ?_) (fun h3 => ?_)
      · have hjN : j < N.length := by omega
        have hM43 := hS.tail.rowsI rfl
        have hr1 := hM43.at_ (i := (j : Int)) (by omega) (by omega)
        have hrl1 := hr1.1
        have hpm : gl N (j : Int) ∈ N := by rw [gl_mem hjN]; exact List.getElem_mem _
        have hpG := hxp _ hpm
        have hpl := (hGs _ hpG).2
        refine Cd.skip (tQ (Cd.seq (Cd.block (Cd.seq (Cd.region (Ops.idx hM43.top.2 rfl rfl rfl (by omega) (by omega) (Ops.ld_sl hM43.top rfl (by omega) rfl rfl (Ops.ms rfl rfl rfl (Ops.n ?_)))))))))
        refine tQ (Cd.region (Ops.ms rfl rfl rfl (Ops.mv_map rfl rfl rfl (Ops.ms rfl rfl rfl (Ops.call (keyOf_c _ _ _ (gl N (j : Int)) _ (hT.later hS.below) hr1 (hGb _ hpG) (by omega)) rfl rfl rfl ?_)))))
        rintro _ w9 ⟨rfl, hst⟩
        have hS9 := hS.later hst.below
        have hRg : RdM w9 g1 (prV Value.string (Value.int .i64) (numF G)) := by
          have h9 : St w w9 ((CkI 2 A11 j c11 ((N.take j).map (nmb G)) :: mat 28 2 A43 N.length c43 rs43 N) ++ stK g2 g1 M G Y) := hS9
          exact (h9.sub (List.sublist_append_right _ _)).rdM 1 rfl
        refine Ops.lookI keyS (keyB (gl N (j : Int))) hRg rfl rfl rfl ?_
        skip
        refine Ops.bs1I hS9 rfl rfl rfl ?_
        intro A54 w10 hS10
        refine Ops.appI 1 hS10 rfl (hS10.rdI 0 rfl) rfl rfl rfl (by omega) (by omega) rfl ?_
        intro A55 c55 w11 hS11
        refine Ops.ms rfl rfl rfl (Ops.n (blockQ_n (tQ (Cd.region (Ops.add rfl rfl rfl (by omega) (Ops.mi rfl rfl rfl (Ops.n (tQ ?_))))))))
        refine ⟨(j + 1, A55, c55), by show N.length - (j + 1) < N.length - j; omega, ⟨rfl, rfl, rfl, rfl, rfl, rfl, rfl, rfl, rfl, rfl, trivial⟩, by show j + 1 ≤ N.length; omega, ?_⟩
        show St w w11 (CkI 2 A55 (j + 1) c55 ((N.take (j + 1)).map (nmb G)) :: _)
        rw [take_succ_gl hjN, List.map_append]
        exact St.tail hS11
      · rw [List.take_of_length_le (show N.length ≤ j by omega)] at hS
        have hjl : j = N.length := by omega
        refine Cd.exit (thenQ_x (thenQ_x (blockQ_x (tQ (Cd.seq (Cd.region (Ops.mv_map rfl rfl rfl (Ops.ms rfl rfl rfl (Ops.call (oddOf_c 0 hS rfl (by omega)) rfl rfl rfl ?_)))))))))
        rintro _ w9 ⟨A59, c59, rfl, hS9⟩
        generalize hx0 : oddP (srt (N.map (nmb G))) = x0 at *
        refine Ops.bld2c (by exact inferInstance) (by exact inferInstance) rfl rfl rfl rfl rfl rfl rfl ?_
        have hS9 : St w w9 ((CkI 2 A59 x0.length c59 x0 :: CkI 2 A11 j c11 (srt (N.map (nmb G))) :: mat 28 2 A43 N.length c43 rs43 N) ++ stK g2 g1 M G Y) := hS9
        have hK9 := hS9.sub (List.sublist_append_right _ _)
        refine Ops.call (reduce_c g2 M ⟨A59, x0.length, c59⟩ x0 G.length _ (hK9.rdM 0 rfl) (fun p hp => ⟨mem_rd hK9 (hY _ (hM p hp).2), (hM p hp).1⟩) (hS9.rdI 0 rfl) ⟨hbr.2, hlt⟩ (by omega)) rfl rfl rfl ?_
        rintro _ w10 ⟨s', x', X, rfl, hx', hsp, hno, hst10, hor⟩
        have hS10 := hS9.call hst10
        refine Ops.new2 hS10 rfl ?_
        intro A14 w11 hS11
        refine Ops.st_agg 2 0 hS11 rfl rfl rfl rfl rfl rfl rfl ?_
        intro w12 hS12
        have hS12 : St w w12 (bxR A14 s' :: (X ++ ((CkI 2 A59 x0.length c59 x0 :: CkI 2 A11 j c11 (srt (N.map (nmb G))) :: mat 28 2 A43 N.length c43 rs43 N) ++ stK g2 g1 M G Y))) := hS12
        have hx'm : CkI 2 s'.a s'.n s'.c x' ∈ X ++ (CkI 2 A59 x0.length c59 x0 :: CkI 2 A11 j c11 (srt (N.map (nmb G))) :: mat 28 2 A43 N.length c43 rs43 N) := by
          rcases hor with ⟨rfl, rfl⟩ | h
          · exact List.mem_append_right _ List.mem_cons_self
          · exact List.mem_append_left _ h
        have hS13 : St w w12 (stK g2 g1 M G (bxR A14 s' :: ((X ++ (CkI 2 A59 x0.length c59 x0 :: CkI 2 A11 j c11 (srt (N.map (nmb G))) :: mat 28 2 A43 N.length c43 rs43 N)) ++ Y))) := by
          refine hS12.perm ?_
          exact permK [_, _] _ _ _ _
        generalize X ++ (CkI 2 A59 x0.length c59 x0 :: CkI 2 A11 j c11 (srt (N.map (nmb G))) :: mat 28 2 A43 N.length c43 rs43 N) = Z at *
        clear hS12 hS11 hS10 hS9 hK9 hS
        have hZ : ∀ q ∈ Z, q ∈ bxR A14 s' :: (Z ++ Y) := fun q hq => List.mem_cons_of_mem _ (List.mem_append_left _ hq)
        have hYZ : ∀ q ∈ Y, q ∈ bxR A14 s' :: (Z ++ Y) := fun q hq => List.mem_cons_of_mem _ (List.mem_append_right _ hq)
        have hB14 := hS13.rd 2 rfl
        have hxR := mem_rd hS13 (List.mem_cons_of_mem _ (List.mem_cons_of_mem _ (hZ _ hx'm)))
        have hxl' := hxR.1
        have hxb := hx'.1.len hx'.2
        generalize hZY : bxR A14 s' :: (Z ++ Y) = ZY at *
        rw [hbr.1] at hsp
        refine Ops.n (tQ (Cd.seq (Cd.region (Ops.fld hB14 rfl rfl rfl rfl inferInstance ?_))))
        skip
        refine Ops.ldf_s hB14 rfl rfl rfl rfl rfl (Ops.len rfl rfl (Ops.gtr rfl rfl rfl (Ops.n (tQ ?_))))
        refine Cd.cond_p _ rfl (fun h4 => ?_) (fun h4 => ?_)
        · obtain ⟨m, hm⟩ : ∃ m, x'.length = m + 1 := ⟨x'.length - 1, by omega⟩
          have hgl := last_gi hm
          have e1 : ((s'.n : Int) - 1) = (m : Int) := by omega
          have hnone := hno _ hgl
          skip
          refine Cd.drawN [10] [.ex (.map (some g2)), .ex (.pointer (ptrAt (A14) 1)), .ex (.slice (s'.a) (s'.n) (s'.c)), .ex (.pointer (ptrAt (A14) 1)), .ex (.slice (s'.a) (s'.n) (s'.c)), .ex (.int .i64 (((s'.n : Nat) : Int))), .ex (.int .i64 ((((s'.n : Nat) : Int)) - ((1 : Int)))), .ex (.pointer (ptrAt s'.a ((s'.n : Int) - 1).toNat)), .ex (.int .i64 (gi x' ((s'.n : Int) - 1))), .ex (.agg #[.slice (none) (0) (0), .slice (s'.a) (s'.n) (s'.c)]), .pr (fun _ w' => St w w' (stK g2 g1 (putA M (gi x' ((s'.n : Int) - 1)) (s', x')) G ZY))] (by kernel_rfl) (by kernel_rfl) (lx (lx (lx (lx (lx (lx (lx (lx (lx (lx (List.forall_mem_cons.2 ⟨Yd.lasts_pr (fun v w w' h hb => h.later hb), (fun _ h => by cases h)⟩))))))))))) ⟨?_, ?_, ?_, ?_, ?_, ?_, ?_, ?_, ?_, ?_, ?_, trivial⟩ ?_
          · intro e1 w1 cc hlo hhi hb0 hp hun hq
            show Ops _ _ _ _ _ _ _
            refine Ops.mv_map rfl rfl rfl (Ops.n (n0 rfl (by exact rfl)))
          · intro e1 w1 cc hlo hhi hb0 hp hun hq
            show Ops _ _ _ _ _ _ _
            obtain rfl := cc_of hlo hhi (b := 0) (by kernel_rfl) (by kernel_rfl)
            have hb := hb0 rfl
            refine Ops.fld (hB14.below hb) rfl rfl rfl rfl inferInstance (Ops.n (n0 rfl (by exact rfl)))
          · intro e1 w1 cc hlo hhi hb0 hp hun hq
            show Ops _ _ _ _ _ _ _
            obtain rfl := cc_of hlo hhi (b := 0) (by kernel_rfl) (by kernel_rfl)
            have hb := hb0 rfl
            refine Ops.ldf_s (hB14.below hb) rfl rfl rfl rfl rfl (Ops.n (n0 rfl (by exact rfl)))
          · intro e1 w1 cc hlo hhi hb0 hp hun hq
            show Ops _ _ _ _ _ _ _
            obtain rfl := cc_of hlo hhi (b := 0) (by kernel_rfl) (by kernel_rfl)
            have hb := hb0 rfl
            refine Ops.fld (hB14.below hb) rfl rfl rfl rfl inferInstance (Ops.n (n0 rfl (by exact rfl)))
          · intro e1 w1 cc hlo hhi hb0 hp hun hq
            show Ops _ _ _ _ _ _ _
            obtain rfl := cc_of hlo hhi (b := 0) (by kernel_rfl) (by kernel_rfl)
            have hb := hb0 rfl
            refine Ops.ldf_s (hB14.below hb) rfl rfl rfl rfl rfl (Ops.n (n0 rfl (by exact rfl)))
          · intro e1 w1 cc hlo hhi hb0 hp hun hq
            show Ops _ _ _ _ _ _ _
            refine Ops.len rfl rfl (Ops.n (n0 rfl (by exact rfl)))
          · intro e1 w1 cc hlo hhi hb0 hp hun hq
            show Ops _ _ _ _ _ _ _
            refine Ops.sub rfl rfl rfl (by omega) (Ops.n (n0 rfl (by exact rfl)))
          · intro e1 w1 cc hlo hhi hb0 hp hun hq
            show Ops _ _ _ _ _ _ _
            obtain rfl := cc_of hlo hhi (b := 0) (by kernel_rfl) (by kernel_rfl)
            have hb := hb0 rfl
            refine Ops.idx (i := (s'.n : Int) - 1) (hxR.later hb).2 rfl rfl rfl (by omega) (by omega) (Ops.n (n0 rfl (by exact rfl)))
          · intro e1 w1 cc hlo hhi hb0 hp hun hq
            show Ops _ _ _ _ _ _ _
            obtain rfl := cc_of hlo hhi (b := 0) (by kernel_rfl) (by kernel_rfl)
            have hb := hb0 rfl
            refine Ops.ld_int (i := (s'.n : Int) - 1) (hxR.later hb) rfl (by omega) rfl rfl (Ops.n (n0 rfl (by exact rfl)))
          · intro e1 w1 cc hlo hhi hb0 hp hun hq
            show Ops _ _ _ _ _ _ _
            obtain rfl := cc_of hlo hhi (b := 0) (by kernel_rfl) (by kernel_rfl)
            have hb := hb0 rfl
            refine Ops.ld_agg 1 (hB14.below hb) rfl rfl rfl (Ops.n (n0 rfl (by exact rfl)))
          · intro e1 w1 cc hlo hhi hb0 hp hun hq
            show Ops _ _ _ _ _ _ _
            obtain rfl := cc_of hlo hhi (b := 0) (by kernel_rfl) (by kernel_rfl)
            have hb := hb0 rfl
            refine Ops.upm rfl keyI 0 (u := (s', x')) (a := gi x' ((s'.n : Int) - 1)) (hS13.later hb) rfl rfl rfl rfl ?_
            intro w9 hS9
            refine Ops.n ?_
            exact AfterT.st rfl hS9
          intro _ w13 _ hu
          have hT := hu 10 _ rfl (by kernel_rfl)
          rw [e1, putA_new (getA_none_mem hnone)] at hT
          generalize gi x' (m : Int) = t at *
          refine blockQ_n (tQ (Cd.region (Ops.add rfl rfl rfl (by omega) (Ops.mi rfl rfl rfl (Ops.n (tQ ?_))))))
          refine ⟨(i + 1, M ++ [(t, (s', x'))], ZY), by show H.length - (i + 1) < H.length - i; omega, ⟨rfl, rfl, rfl, rfl, rfl, rfl, trivial⟩, by show i + 1 ≤ H.length; omega, by show (M ++ [_]).length ≤ i + 1; simp; omega, fun p hp => ?_, keys_snoc hMk (getA_keys hnone), ?_, fun q hq => hYZ _ (hin q hq), hT⟩
          · rcases List.mem_append.1 hp with hp | hp
            · exact ⟨(hM p hp).1, hYZ _ (hM p hp).2⟩
            · obtain rfl := List.mem_singleton.1 hp
              exact ⟨⟨hx', hgl⟩, hZ _ hx'm⟩
          · show Eqs (spK (M ++ [_])) ((H.take (i + 1)).map _)
            rw [spK_snoc, htk]
            exact eqs_snoc1 hE hsp
        · have hnil : x' = [] := List.eq_nil_of_length_eq_zero (by omega)
          rw [hnil, mkb_nil, Nat.xor_zero] at hsp
          refine Cd.skip (blockQ_n (tQ (Cd.region (Ops.add rfl rfl rfl (by omega) (Ops.mi rfl rfl rfl (Ops.n (tQ ?_)))))))
          exact ⟨(i + 1, M, ZY), by show H.length - (i + 1) < H.length - i; omega, ⟨rfl, rfl, rfl, rfl, rfl, rfl, trivial⟩, by show i + 1 ≤ H.length; omega, by show M.length ≤ i + 1; omega, fun p hp => ⟨(hM p hp).1, hYZ _ (hM p hp).2⟩, hMk, by show Eqs (spK M) ((H.take (i + 1)).map _); rw [htk]; exact eqs_snoc0 hE hsp, fun q hq => hYZ _ (hin q hq), hS13⟩
    · rw [List.take_of_length_le (show H.length ≤ i by omega)] at hE
      refine Cd.exit (thenQ_x (thenQ_x (blockQ_x (tQ (Cd.seq (Cd.region (Ops.mv_map rfl rfl rfl (Ops.lenM (hS.rdM 0 rfl) rfl rfl (Ops.mi rfl rfl rfl ?_)))))))))
      refine Ops.n (tQ (Cd.ret (ret1_i rfl ?_)))
      refine ⟨M.length, by show Value.int .i64 ((prV (Value.int .i64) redV M).length : Int) = _; simp [prV], ?_, by omega, hS.none⟩
      rw [hmat]
      exact kept_rk hMk (fun p hp => (hM p hp).1) hE
/-
 Betti numbers of complexes: what they are, and the program's walk.
-/
open Classical in
noncomputable def rkN (L : List Nat) : Nat := if h : ∃ r, IsRk L r then h.choose else 0
theorem rkN_eq {L : List Nat} {r : Nat} (h : IsRk L r) : rkN L = r := by
 have he : ∃ r, IsRk L r := ⟨r, h⟩
 unfold rkN
 rw [dif_pos he]
 exact he.choose_spec.eq h
noncomputable def rkF (F : List (List Int)) (k : Nat) : Nat := if k = 0 then 0 else rkN (matF F k)
theorem rkF_eq {F : List (List Int)} {k r : Nat} (hk : 1 ≤ k) (h : IsRk (matF F k) r) : rkF F k = r := by
 unfold rkF
 rw [if_neg (by omega)]
 exact rkN_eq h
theorem rkF_top {F : List (List Int)} {k : Nat} (hk : dpt F ≤ k) (h1 : 1 ≤ k) : rkF F k = 0 := by
 refine rkF_eq h1 ?_
 unfold matF
 rw [show fcs F (k + 1) = [] from fcs_short (by omega)]
 exact ⟨[], rfl, by simp [sums], Eqs.refl _⟩
noncomputable def btA (F : List (List Int)) (j : Nat) : Int := ((fcs F (j + 1)).length : Int) - (rkF F j : Int) - (rkF F (j + 1) : Int)
noncomputable def btG (F : List (List Int)) (j : Nat) : List Int := (List.range j).map (btA F)
noncomputable def btP (F : List (List Int)) : List Int := btG F (dpt F)
theorem btG_len (F : List (List Int)) (j : Nat) : (btG F j).length = j := by simp [btG]
theorem btG_succ (F : List (List Int)) (j : Nat) : btG F (j + 1) = btG F j ++ [btA F j] := by simp [btG, List.range_succ]
noncomputable def btV (V : Int) (F : List (List Int)) : List Int := if Cplx V F then btP F else []
set_option maxHeartbeats 1000000 in
theorem betti_c (Pc : Option Addr) (V : Int) (A : Option Addr) (n c : Nat) (rs : List SlV) (F : List (List Int)) (w : World) (hT : Tab w) (hP : Rd w Pc 2 (fun j => [Value.int .i64 V, .slice A n c].getD j undef)) (hR : RowsI w A n rs F) (hC : Cplx V F) :
    Ret Tryz.prog 29 [.pointer Pc] w (fun v w' => ∃ A' c', v = .slice A' (dpt F) c' ∧ St w w' [CkI 2 A' (dpt F) c' (btP F)]) := by
  have hFl := hR.len
  have hF4 := hC.f
  have h6 : ∀ f ∈ F, f.length ≤ 6 := fun f hf => (hC.row f hf).1.2
  have hd := dpt_bd h6
  refine Ret.of_cd Tryz.func29 rfl Tryz.ntmps29 rfl (post1 rfl) (Cd.seq (Cd.region (Ops.ms rfl rfl rfl (Ops.n (tQ (Cd.seq (Cd.region (Ops.mv_ptr rfl rfl rfl (Ops.call (fVector_c Pc V A n c rs F _ hP hR (by omega) h6) rfl rfl rfl ?_)))))))))
  rintro _ w1 ⟨A3, c3, rfl, hst⟩
  have hf1 : RdI w1 A3 (dpt F + 1) (fvP F) := hst.rdI 0 rfl
  refine Ops.ms rfl rfl rfl (Ops.n (tQ (Cd.seq (Cd.region (Ops.ms rfl rfl rfl (Ops.n (tQ (Cd.seq (Cd.region ?_)))))))))
  refine Ops.mi rfl rfl rfl (Ops.n (tQ (Cd.seq (Cd.seq (Cd.region (Ops.mi rfl rfl rfl (Ops.n (tQ (Cd.block ?_)))))))))
  refine Cd.loop (α := Nat × Option Addr × Nat) (fun z => [(0, .pointer Pc), (3, .slice A3 (dpt F + 1) c3), (4, .slice z.2.1 z.1 z.2.2), (5, .int .i64 (rkF F z.1 : Int)), (6, .int .i64 ((z.1 : Int) + 1))])
    (fun z w' => z.1 ≤ dpt F ∧ rkF F z.1 ≤ 30000 ∧ St w w' [CkI 2 z.2.1 z.1 z.2.2 (btG F z.1), CkI 2 A3 (dpt F + 1) c3 (fvP F)]) (fun z => dpt F - z.1) (0, none, 0) ⟨rfl, rfl, rfl, rfl, rfl, trivial⟩ ⟨Nat.zero_le _, by show rkF F 0 ≤ 30000; simp [rkF], hst.nil _⟩ ?_
  clear hf1 hst
  rintro ⟨j, A4, c4⟩ e w2 ⟨hj, hrk, hS⟩
  dsimp only at hj hrk hS ⊢
  refine Cd.seq (Cd.seq (Cd.region (Ops.mi rfl rfl rfl (Ops.ms rfl rfl rfl (Ops.call (sizeI_c _ _ _ _) rfl rfl rfl ?_)))))
  rintro _ w2 ⟨rfl, rfl⟩
  refine Ops.lss rfl rfl rfl (Ops.n (tQ ?_))
  refine Cd.cond_p _ rfl (fun h1 => ?_) (fun h1 => ?_)
  · refine Cd.skip (tQ (Cd.seq (Cd.block (Cd.seq (Cd.region (Ops.mi rfl rfl rfl (Ops.n (tQ ?_))))))))
    refine Cd.join (α := Unit) (fun z => [(0, .pointer Pc), (3, .slice A3 (dpt F + 1) c3), (4, .slice A4 j c4), (5, .int .i64 (rkF F j : Int)), (6, .int .i64 ((j : Int) + 1)), (7, .int .i64 (rkF F (j + 1) : Int))])
      (fun z w' => rkF F (j + 1) ≤ 30000 ∧ St w w' [CkI 2 A4 j c4 (btG F j), CkI 2 A3 (dpt F + 1) c3 (fvP F)]) ?_ ?_
    · refine Cd.seq (Cd.region (Ops.mi rfl rfl rfl (Ops.add rfl rfl rfl (by omega) (Ops.ms rfl rfl rfl (Ops.call (sizeI_c _ _ _ _) rfl rfl rfl ?_)))))
      rintro _ w2 ⟨rfl, rfl⟩
      refine Ops.lss rfl rfl rfl (Ops.n (tQ ?_))
      refine Cd.cond_p _ rfl (fun h2 => ?_) (fun h2 => ?_)
      · refine Cd.region (Ops.mv_ptr rfl rfl rfl (Ops.mi rfl rfl rfl (Ops.add rfl rfl rfl (by omega) (Ops.call (rankWith_c Pc V A n c rs F (j + 1) _ (hT.later hS.below) (hS.old hP) (hS.oldRows hR) hC (by omega)) rfl rfl rfl ?_))))
        rintro _ w3 ⟨r, rfl, hr, hr3, hst⟩
        have e := rkF_eq (by omega) hr
        refine Ops.mi rfl rfl rfl (Ops.n (tQ ?_))
        exact ⟨(), ⟨rfl, rfl, rfl, rfl, rfl, by rw [e]; rfl, trivial⟩, by omega, hS.later hst.below⟩
      · have e := rkF_top (F := F) (k := j + 1) (by omega) (by omega)
        refine Cd.skip (tQ ?_)
        exact ⟨(), ⟨rfl, rfl, rfl, rfl, rfl, by rw [e]; rfl, trivial⟩, by omega, hS⟩
    rintro _ e w3 ⟨hrk1, hS3⟩
    have hf3 : RdI w3 A3 (dpt F + 1) (fvP F) := hS3.rdI 1 rfl
    have hfa := fvP_at F (k := j + 1) (by omega)
    have hbd := fvP_bd hF4 h6 _ (show gi (fvP F) ((j + 1 : Nat) : Int) ∈ fvP F by rw [gi_mem (by rw [fvP_len]; omega)]; exact List.getElem_mem _)
    have e1 : ((j : Int) + 1) = ((j + 1 : Nat) : Int) := by omega
    refine Cd.seq (Cd.region (Ops.ms rfl rfl rfl (Ops.ms rfl rfl rfl (Ops.mi rfl rfl rfl (Ops.idx hf3.2 rfl rfl rfl (by omega) (by omega) (Ops.ld_int hf3 rfl (by omega) rfl rfl ?_))))))
    rw [e1]
    refine Ops.mi rfl rfl rfl (Ops.sub rfl rfl rfl (by omega) (Ops.mi rfl rfl rfl (Ops.sub rfl rfl rfl (by omega) (Ops.bs1I hS3 rfl rfl rfl ?_))))
    intro A34 w4 hS4
    refine Ops.appI 1 hS4 rfl (hS4.rdI 0 rfl) rfl rfl rfl (by omega) (by omega) rfl ?_
    intro A35 c35 w5 hS5
    refine Ops.ms rfl rfl rfl (Ops.n (tQ (Cd.region (Ops.mi rfl rfl rfl (Ops.mi rfl rfl rfl (Ops.n (blockQ_n (tQ (Cd.region ?_)))))))))
    refine Ops.mi rfl rfl rfl (Ops.add rfl rfl rfl (by omega) (Ops.mi rfl rfl rfl (Ops.n (tQ ?_))))
    refine ⟨(j + 1, A35, c35), by show dpt F - (j + 1) < dpt F - j; omega, ⟨rfl, rfl, rfl, rfl, rfl, trivial⟩, by show j + 1 ≤ dpt F; omega, hrk1, ?_⟩
    show St w w5 [CkI 2 A35 (j + 1) c35 (btG F (j + 1)), _]
    rw [btG_succ, btA, ← hfa]
    exact St.tail hS5
  · have hje : j = dpt F := by omega
    refine Cd.exit (thenQ_x (thenQ_x (blockQ_x (tQ (Cd.seq (Cd.region (Ops.ms rfl rfl rfl (Ops.ms rfl rfl rfl (Ops.n ?_)))))))))
    refine tQ (Cd.ret (ret1_s rfl ?_))
    subst hje
    exact ⟨A4, c4, rfl, hS.sub (List.Sublist.cons_cons _ (List.nil_sublist _))⟩
theorem ComplexBetti_c (V : Int) (A : Option Addr) (n c : Nat) (rs : List SlV) (F : List (List Int)) (w : World) (hT : Tab w) (hR : RowsI w A n rs F) (hn : n ≤ 9223372036854775807) :
  Ret Tryz.prog 7 [.agg #[.int .i64 V, .slice A n c]] w (AnsR (btV V F) (hvK V F) w) := by
 have hFl := hR.len
 refine Ret.of_cd Tryz.func7 rfl Tryz.ntmps7 rfl (post2 rfl) (Cd.seq (Cd.region (Ops.box2 (St.refl w) rfl rfl ?_)))
 intro Ab w1 hS1
 refine Ops.ms rfl rfl rfl (Ops.mi rfl rfl rfl (Ops.n (tQ (Cd.seq (Cd.seq (Cd.region (Ops.ld_agg 1 (hS1.rd 0 rfl) rfl rfl rfl (Ops.call (isComplex_c V A n c rs F _ (hT.later hS1.below) (hS1.oldRows hR) hn) rfl rfl rfl ?_))))))))
 rintro _ w2 ⟨rfl, hst⟩
 have hS2 := hS1.later hst.below
 unfold btV hvK
 first | refine Ops.not_p rfl rfl ?_ | refine Ops.not rfl rfl ?_
 refine Ops.n (tQ ?_)
 refine Cd.cond_p _ rfl (fun h1 => ?_) (fun h1 => ?_)
 ·rw [if_neg h1, if_neg h1]
  refine Cd.seq (Cd.region (Ops.ms rfl rfl rfl (Ops.mi rfl rfl rfl (Ops.n (tQ (Cd.ret (thenQ_r (ret2_si rfl rfl ?_))))))))
  exact ⟨none, 0, rfl, hS2.none.nil _⟩
 have hC := Classical.not_not.1 h1
 rw [if_pos hC, if_pos hC]
 refine Cd.skip (tQ (Cd.seq (Cd.region (Ops.call (betti_c Ab V A n c rs F _ (hT.later hS2.below) (hS2.rd 0 rfl) (hS2.oldRows hR) hC) rfl rfl rfl ?_))))
 rintro _ w3 ⟨A4, c4, rfl, hst3⟩
 have hl : (btP F).length = dpt F := btG_len _ _
 refine Ops.ms rfl rfl rfl (Ops.mi rfl rfl rfl (Ops.n (tQ (Cd.ret (ret2_si rfl rfl ?_)))))
 exact ⟨A4, c4, by rw [hl], by rw [hl]; exact (hS2.call hst3).sub (List.sublist_append_left _ _)⟩
end Go.Proofs.YtiblelgfkakmiaaGreatDoor.Vc
/-
 Plain mathematics: the elimination over two elements.
-/
namespace Go.Proofs.YtiblelgfkakmiaaGreatDoor.Vc
theorem rowM_gi {x : List Int} {c : Nat} (h : c < x.length) : (rowM x).testBit c = decide (gi x (c : Int) = 1) := by
 rw [rowM_bit, gi_mem h, List.getElem?_eq_getElem h]; simp
theorem rowM_out {x : List Int} {p : Nat} (h : x.length ≤ p) : (rowM x).testBit p = false := by
 rw [rowM_bit, List.getElem?_eq_none h]; simp
def adR (x y : List Int) (c k : Nat) : List Int := (List.range x.length).map fun j => if c ≤ j ∧ j < k then (gi x (j : Int) + gi y (j : Int)) % 2 else gi x (j : Int)
theorem adR_len (x y : List Int) (c k : Nat) : (adR x y c k).length = x.length := by simp [adR]
theorem adR_at {x y : List Int} {c k j : Nat} (h : j < x.length) : gi (adR x y c k) (j : Int) = if c ≤ j ∧ j < k then (gi x (j : Int) + gi y (j : Int)) % 2 else gi x (j : Int) := by
 rw [gi_mem (by rw [adR_len]; exact h)]; simp [adR]
theorem adR_zero (x y : List Int) (c : Nat) : adR x y c c = x := by
 apply List.ext_getElem
 ·exact adR_len _ _ _ _
 ·intro j h1 h2
  have := adR_at (y := y) (c := c) (k := c) h2
  rw [if_neg (by omega), gi_mem h1, gi_mem h2] at this
  exact this
theorem adR_succ {x y : List Int} {c k : Nat} (hk : c ≤ k) (h : k < x.length) : (adR x y c k).set k ((gi (adR x y c k) (k : Int) + gi y (k : Int)) % 2) = adR x y c (k + 1) := by
 apply List.ext_getElem
 ·simp [adR_len]
 ·intro j h1 h2
  have h3 : j < x.length := by rw [adR_len] at h2; exact h2
  have e1 := adR_at (y := y) (c := c) (k := k + 1) h3
  rw [gi_mem h2] at e1
  rw [e1, List.getElem_set]
  by_cases e : k = j
  ·subst e
   rw [if_pos rfl, if_pos ⟨hk, by omega⟩, adR_at h, if_neg (by omega)]
  ·rw [if_neg e]
   have e2 := adR_at (y := y) (c := c) (k := k) h3
   rw [gi_mem (by rw [adR_len]; exact h3)] at e2
   rw [e2]
   by_cases e3 : c ≤ j ∧ j < k
   ·rw [if_pos e3, if_pos ⟨e3.1, by omega⟩]
   ·rw [if_neg e3, if_neg (by omega)]
def Bin (m : Nat) (x : List Int) : Prop := x.length = m ∧ ∀ e ∈ x, e = 0 ∨ e = 1
theorem Bin.gi {m : Nat} {x : List Int} (h : Bin m x) {j : Nat} (hj : j < m) : Vc.gi x (j : Int) = 0 ∨ Vc.gi x (j : Int) = 1 := by
 have := h.1
 rw [gi_mem (by omega)]; exact h.2 _ (List.getElem_mem _)
theorem adR_bin {m c : Nat} {x y : List Int} (hx : Bin m x) (hy : Bin m y) (k : Nat) : Bin m (adR x y c k) := by
 refine ⟨by rw [adR_len]; exact hx.1, fun e he => ?_⟩
 obtain ⟨j, hj, rfl⟩ := List.mem_iff_getElem.1 he
 have h3 : j < x.length := by rw [adR_len] at hj; exact hj
 have hl := hx.1
 rw [← gi_mem hj, adR_at h3]
 have h1 := hx.gi (j := j) (by omega)
 have h2 := hy.gi (j := j) (by omega)
 split
 ·omega
 ·exact h1
theorem adR_rowM {m c : Nat} {x y : List Int} (hx : Bin m x) (hy : Bin m y) (hz : ∀ p, p < c → (rowM y).testBit p = false) : rowM (adR x y c m) = rowM x ^^^ rowM y := by
 apply Nat.eq_of_testBit_eq
 intro j
 rw [Nat.testBit_xor]
 have hxl := hx.1
 have hyl := hy.1
 by_cases hj : j < m
 ·rw [rowM_gi (by rw [adR_len]; omega), rowM_gi (show j < x.length by omega), adR_at (by omega)]
  by_cases hc : c ≤ j
  ·rw [if_pos ⟨hc, hj⟩, rowM_gi (show j < y.length by omega)]
   rcases hx.gi hj with h1 | h1 <;> rcases hy.gi hj with h2 | h2 <;> rw [h1, h2] <;> decide
  ·rw [if_neg (by omega), hz j (by omega), Bool.xor_false]
 ·rw [rowM_out (by rw [adR_len]; omega), rowM_out (by omega), rowM_out (by omega)]; rfl
def sw2 {α : Type} (z : α) (M : List α) (r k : Nat) : List α := (M.set r (M.getD k z)).set k (M.getD r z)
theorem sw2_len {α : Type} (z : α) (M : List α) (r k : Nat) : (sw2 z M r k).length = M.length := by simp [sw2]
theorem sw2_at {α : Type} (z : α) {M : List α} {r k j : Nat} (hr : r < M.length) (hk : k < M.length) (hj : j < M.length) : (sw2 z M r k).getD j z = M.getD (if j = k then r else if j = r then k else j) z := by
 unfold sw2
 rw [List.getD_eq_getElem?_getD, List.getElem?_set, List.length_set]
 by_cases e : k = j
 ·subst e; rw [if_pos rfl, if_pos hk, if_pos rfl]; rfl
 ·rw [if_neg e, if_neg fun h => e h.symm, List.getElem?_set]
  by_cases e2 : r = j
  ·subst e2; rw [if_pos rfl, if_pos hr, if_pos rfl]; rfl
  ·rw [if_neg e2, if_neg fun h => e2 h.symm, List.getD_eq_getElem?_getD]
theorem sw2_mem {α : Type} (z : α) {M : List α} {r k : Nat} (hr : r < M.length) (hk : k < M.length) (x : α) : x ∈ sw2 z M r k ↔ x ∈ M := by
  have g : ∀ {L : List α} {j : Nat} (h : j < L.length), L.getD j z = L[j] := fun h => by simp [List.getD_eq_getElem?_getD, h]
  constructor
  · intro h
    obtain ⟨j, hj, rfl⟩ := List.mem_iff_getElem.1 h
    have hj' : j < M.length := by rw [sw2_len] at hj; exact hj
    rw [← g hj, sw2_at z hr hk hj', g (by split <;> (try split) <;> omega)]
    exact List.getElem_mem _
  · intro h
    obtain ⟨j, hj, rfl⟩ := List.mem_iff_getElem.1 h
    have key : ∀ i, i < M.length → (if i = k then r else if i = r then k else i) = j → M[j] ∈ sw2 z M r k := fun i hi e => by
      have h1 := sw2_at z hr hk hi
      rw [e, g hj, g (by rw [sw2_len]; exact hi)] at h1
      rw [← h1]; exact List.getElem_mem _
    by_cases e : j = r
    · exact key k hk (by rw [if_pos rfl, e])
    · by_cases e2 : j = k
      · refine key r hr ?_
        by_cases e3 : r = k
        · rw [if_pos e3, e2, e3]
        · rw [if_neg e3, if_pos rfl, e2]
      · exact key j hj (by rw [if_neg e2, if_neg e])
structure GI (M0 M : List (List Int)) (m rank c : Nat) : Prop where
 len : M.length = M0.length
 row : ∀ x ∈ M, Bin m x
 spn : Eqs (M0.map rowM) (M.map rowM)
 stp : ∀ i, i < rank → ∃ p, (rowM (gl M (i : Int))).testBit p = true ∧ ∀ j, i < j → j < M.length → (rowM (gl M (j : Int))).testBit p = false
 zer : ∀ j, rank ≤ j → j < M.length → ∀ p, p < c → (rowM (gl M (j : Int))).testBit p = false
 rle : rank ≤ M.length
theorem GI.at_ {M0 M : List (List Int)} {m rank c : Nat} (h : GI M0 M m rank c) {j : Nat} (hj : j < M.length) : Bin m (gl M (j : Int)) := h.row _ (by rw [gl_mem hj]; exact List.getElem_mem _)
theorem GI.start {M0 : List (List Int)} {m : Nat} (h : ∀ x ∈ M0, Bin m x) : GI M0 M0 m 0 0 := ⟨rfl, h, Eqs.refl _, fun i hi => by omega, fun j _ _ p hp => by omega, Nat.zero_le _⟩
theorem GI.skip {M0 M : List (List Int)} {m rank c : Nat} (h : GI M0 M m rank c) (hc : c < m) (h0 : ∀ j, rank ≤ j → j < M.length → gi (gl M (j : Int)) (c : Int) = 0) : GI M0 M m rank (c + 1) := ⟨h.len, h.row, h.spn, h.stp, fun j h1 h2 p hp => by
 by_cases e : p = c
 ·subst e
  have := (h.at_ h2).1
  rw [rowM_gi (by omega), h0 j h1 h2]; decide
 ·exact h.zer j h1 h2 p (by omega), h.rle⟩
theorem GI.swap {M0 M : List (List Int)} {m rank c r : Nat} (h : GI M0 M m rank c) (h1 : rank ≤ r) (h2 : r < M.length) : GI M0 (sw2 [] M r rank) m rank c := by
  have hrk : rank < M.length := by omega
  have hat : ∀ j, j < M.length → gl (sw2 [] M r rank) (j : Int) = gl M ((if j = rank then r else if j = r then rank else j : Nat) : Int) := fun j hj => by
    have := sw2_at [] h2 hrk hj
    simpa [gl] using this
  have hin : ∀ j, j < M.length → (if j = rank then r else if j = r then rank else j) < M.length := fun j hj => by split <;> (try split) <;> omega
  refine ⟨by rw [sw2_len]; exact h.len, fun x hx => h.row x ((sw2_mem [] h2 hrk x).1 hx), h.spn.trans (Eqs.mem fun v => ?_), fun i hi => ?_, fun j hj1 hj2 p hp => ?_, by rw [sw2_len]; exact h.rle⟩
  · simp only [List.mem_map]
    exact ⟨fun ⟨x, hx, e⟩ => ⟨x, (sw2_mem [] h2 hrk x).2 hx, e⟩, fun ⟨x, hx, e⟩ => ⟨x, (sw2_mem [] h2 hrk x).1 hx, e⟩⟩
  · obtain ⟨p, hp, hq⟩ := h.stp i hi
    refine ⟨p, ?_, fun j hj1 hj2 => ?_⟩
    · rw [hat i (by omega), if_neg (by omega), if_neg (by omega)]; exact hp
    · rw [sw2_len] at hj2
      rw [hat j hj2]
      exact hq _ (by split <;> (try split) <;> omega) (hin j hj2)
  · rw [sw2_len] at hj2
    rw [hat j hj2]
    exact h.zer _ (by split <;> (try split) <;> omega) (hin j hj2) p hp
theorem GI.elim {M0 M : List (List Int)} {m rank c i : Nat} (h : GI M0 M m rank c) (h1 : rank < i) (h2 : i < M.length) : GI M0 (M.set i (adR (gl M (i : Int)) (gl M (rank : Int)) c m)) m rank c := by
 have hx := h.at_ h2
 have hy := h.at_ (show rank < M.length by omega)
 have hz := h.zer rank (Nat.le_refl _) (by omega)
 have hm := adR_rowM hx hy hz
 have hat : ∀ j : Nat, gl (M.set i (adR (gl M (i : Int)) (gl M (rank : Int)) c m)) (j : Int) = if j = i then adR (gl M (i : Int)) (gl M (rank : Int)) c m else gl M (j : Int) := fun j => by
  simp only [gl, Int.toNat_natCast, List.getD_eq_getElem?_getD, List.getElem?_set]
  by_cases e : i = j
  ·subst e; simp [h2]
  ·rw [if_neg e, if_neg fun h => e h.symm]
 have hil : i < (M.set i (adR (gl M (i : Int)) (gl M (rank : Int)) c m)).length := by simpa using h2
 have hrl : rank < (M.set i (adR (gl M (i : Int)) (gl M (rank : Int)) c m)).length := by simp; omega
 have memg : ∀ {L : List (List Int)} {j : Nat}, j < L.length → gl L (j : Int) ∈ L := fun hj => by rw [gl_mem hj]; exact List.getElem_mem _
 refine ⟨by simpa using h.len, fun x hxm => ?_, h.spn.trans ?_, fun k hk => ?_, fun j hj1 hj2 p hp => ?_, by simpa using h.rle⟩
 ·rcases List.mem_or_eq_of_mem_set hxm with hh | hh
  ·exact h.row x hh
  ·rw [hh]; exact adR_bin hx hy m
 ·-- the spans
  have hpv : rowM (gl M (rank : Int)) ∈ (M.set i (adR (gl M (i : Int)) (gl M (rank : Int)) c m)).map rowM := List.mem_map.2 ⟨gl M (rank : Int), by
   have := memg hrl
   rwa [hat, if_neg (by omega)] at this, rfl⟩
  have hrow : rowM (adR (gl M (i : Int)) (gl M (rank : Int)) c m) ∈ (M.set i (adR (gl M (i : Int)) (gl M (rank : Int)) c m)).map rowM := List.mem_map.2 ⟨adR (gl M (i : Int)) (gl M (rank : Int)) c m, by
   have := memg hil
   rwa [hat, if_pos rfl] at this, rfl⟩
  refine .of (fun v hv => ?_) fun v hv => ?_
  ·obtain ⟨x, hxm, rfl⟩ := List.mem_map.1 hv
   obtain ⟨j, hj, e⟩ := List.mem_iff_getElem.1 hxm
   have e : gl M (j : Int) = x := by rw [gl_mem hj]; exact e
   by_cases ej : j = i
   ·subst ej
    have := sums_xor (sums_self hrow) (sums_self hpv)
    rw [hm, Nat.xor_assoc, Nat.xor_self, Nat.xor_zero] at this
    rw [← e]; exact this
   ·refine sums_self (List.mem_map.2 ⟨x, ?_, rfl⟩)
    have := memg (L := M.set i (adR (gl M (i : Int)) (gl M (rank : Int)) c m)) (j := j) (by simpa using hj)
    rw [hat, if_neg ej, e] at this
    exact this
  ·obtain ⟨x, hxm, rfl⟩ := List.mem_map.1 hv
   rcases List.mem_or_eq_of_mem_set hxm with hh | hh
   ·exact sums_self (List.mem_map.2 ⟨x, hh, rfl⟩)
   ·rw [hh, hm]
    exact sums_xor (sums_self (List.mem_map.2 ⟨_, memg h2, rfl⟩)) (sums_self (List.mem_map.2 ⟨_, memg (by omega), rfl⟩))
 ·obtain ⟨p, hp, hq⟩ := h.stp k hk
  refine ⟨p, by rw [hat, if_neg (by omega)]; exact hp, fun j hj1 hj2 => ?_⟩
  rw [List.length_set] at hj2
  rw [hat]
  by_cases e : j = i
  ·rw [if_pos e, hm, Nat.testBit_xor, hq i (by omega) h2, hq rank (by omega) (by omega)]; rfl
  ·rw [if_neg e]; exact hq j hj1 hj2
 ·rw [List.length_set] at hj2
  rw [hat]
  by_cases e : j = i
  ·rw [if_pos e, hm, Nat.testBit_xor, h.zer i (by omega) h2 p hp, hz p hp]; rfl
  ·rw [if_neg e]; exact h.zer j hj1 hj2 p hp
theorem GI.next {M0 M : List (List Int)} {m rank c : Nat} (h : GI M0 M m rank c) (hc : c < m) (hr : rank < M.length) (h1 : gi (gl M (rank : Int)) (c : Int) = 1) (h0 : ∀ j, rank < j → j < M.length → gi (gl M (j : Int)) (c : Int) = 0) : GI M0 M m (rank + 1) (c + 1) := by
 have hb0 : ∀ j, rank < j → j < M.length → (rowM (gl M (j : Int))).testBit c = false := fun j a b => by
  have := (h.at_ b).1
  rw [rowM_gi (by omega), h0 j a b]; decide
 refine ⟨h.len, h.row, h.spn, fun i hi => ?_, fun j a b p hp => ?_, by omega⟩
 ·by_cases e : i = rank
  ·subst e
   have := (h.at_ hr).1
   exact ⟨c, by rw [rowM_gi (by omega), h1]; decide, hb0⟩
  ·exact h.stp i (by omega)
 ·by_cases e : p = c
  ·subst e; exact hb0 j (by omega) b
  ·exact h.zer j (by omega) b p (by omega)
theorem stp_of : ∀ (B : List Nat), (∀ i, i < B.length → ∃ p, (B.getD i 0).testBit p = true ∧ ∀ j, i < j → j < B.length → (B.getD j 0).testBit p = false) → Stp B
 | [], _ => trivial
 | b :: B, h => by
  refine ⟨?_, stp_of B fun i hi => ?_⟩
  ·obtain ⟨p, hp, hq⟩ := h 0 (by simp)
   refine ⟨p, by simpa using hp, fun x hx => ?_⟩
   obtain ⟨j, hj, rfl⟩ := List.mem_iff_getElem.1 hx
   have := hq (j + 1) (by omega) (by simp; omega)
   simpa [List.getD_eq_getElem?_getD, hj] using this
  ·obtain ⟨p, hp, hq⟩ := h (i + 1) (by simp; omega)
   refine ⟨p, by simpa using hp, fun j h1 h2 => ?_⟩
   have := hq (j + 1) (by omega) (by simp; omega)
   simpa using this
theorem GI.rank {M0 M : List (List Int)} {m rank c : Nat} (h : GI M0 M m rank c) (hc : m ≤ c) : IsRk (M0.map rowM) rank := by
 have hr := h.rle
 have hg : ∀ i, i < rank → ((M.take rank).map rowM).getD i 0 = rowM (gl M (i : Int)) := fun i hi => by
  simp [gl, List.getD_eq_getElem?_getD, List.getElem?_take_of_lt hi, show i < M.length by omega]
 have hl : ((M.take rank).map rowM).length = rank := by simp; omega
 refine ⟨(M.take rank).map rowM, hl, Stp.nodup (stp_of _ fun i hi => ?_), h.spn.trans (.of (fun v hv => ?_) fun v hv => ?_)⟩
 ·rw [hl] at hi
  obtain ⟨p, hp, hq⟩ := h.stp i hi
  refine ⟨p, by rw [hg i hi]; exact hp, fun j h1 h2 => ?_⟩
  rw [hl] at h2
  rw [hg j h2]; exact hq j h1 (by omega)
 ·obtain ⟨x, hx, rfl⟩ := List.mem_map.1 hv
  obtain ⟨j, hj, e⟩ := List.mem_iff_getElem.1 hx
  have e : gl M (j : Int) = x := by rw [gl_mem hj]; exact e
  by_cases hjr : j < rank
  ·refine sums_self (List.mem_map.2 ⟨x, List.mem_iff_getElem.2 ⟨j, by simp; omega, ?_⟩, rfl⟩)
   rw [List.getElem_take, ← gl_mem hj]; exact e
  ·have h0 : rowM x = 0 := by
    apply Nat.eq_of_testBit_eq
    intro p
    rw [Nat.zero_testBit]
    by_cases hp : p < m
    ·rw [← e]; exact h.zer j (by omega) hj p (by omega)
    ·exact rowM_out (by rw [(h.row x hx).1]; omega)
   rw [h0]; exact sums_zero _
 ·obtain ⟨x, hx, rfl⟩ := List.mem_map.1 hv
  exact sums_self (List.mem_map.2 ⟨x, List.mem_of_mem_take hx, rfl⟩)
end Go.Proofs.YtiblelgfkakmiaaGreatDoor.Vc
/-
 The reference's matrix of faces and its elimination, walked.
-/
namespace Go.Proofs.YtiblelgfkakmiaaGreatDoor.Vc
open Go.RowKit
theorem rows_sw {t : TypeId} {rs : List SlV} {M : List (List Int)} {r k : Nat} (hl : rs.length = M.length) (hr : r < rs.length) (hk : k < rs.length) : (rowsCk t (sw2 slNil rs r k) (sw2 [] M r k)).Perm (rowsCk t rs M) := by
 have hg : ∀ j, j < rs.length → ∀ h, (rowsCk t rs M)[j]'h = CkI t (rs.getD j slNil).a (rs.getD j slNil).n (rs.getD j slNil).c (M.getD j []) := fun j hj h => by
  have := rowsCk_get (t := t) hl hj
  rw [List.getElem?_eq_getElem h] at this
  exact Option.some.inj this
 have hrl := rowsCk_length (t := t) hl
 have e : rowsCk t (sw2 slNil rs r k) (sw2 [] M r k) = ((rowsCk t rs M).set r (rowsCk t rs M)[k]).set k (rowsCk t rs M)[r] := by
  rw [hg k hk (by omega), hg r hr (by omega), rowsCk_upd hl, rowsCk_upd (by simpa using hl)]
  rfl
 rw [e]
 exact List.set_set_perm (by omega) (by omega)
def rwK (G : List (List Int)) (x : List Int) (k : Nat) : List Int := (List.range G.length).map fun (j : Nat) => if j < k ∧ Ins (gl G (j : Int)) x then 1 else 0
theorem rwK_len (G : List (List Int)) (x : List Int) (k : Nat) : (rwK G x k).length = G.length := by simp [rwK]
theorem rwK_zero (G : List (List Int)) (x : List Int) : rwK G x 0 = List.replicate G.length 0 := by
 rw [List.eq_replicate_iff]
 refine ⟨rwK_len _ _ _, fun b hb => ?_⟩
 obtain ⟨j, _, rfl⟩ := List.mem_map.1 hb
 rw [if_neg (by omega)]
theorem rwK_all (G : List (List Int)) (x : List Int) : rwK G x G.length = rwB G x := by
 apply List.ext_getElem
 ·simp [rwK, rwB]
 ·intro j h1 h2
  have hj : j < G.length := by rw [rwK_len] at h1; exact h1
  simp [rwK, rwB, hj, gl, List.getD_eq_getElem?_getD]
theorem rwK_succ (G : List (List Int)) (x : List Int) {k : Nat} (hk : k < G.length) : rwK G x (k + 1) = if Ins (gl G (k : Int)) x then (rwK G x k).set k 1 else rwK G x k := by
 apply List.ext_getElem
 ·split <;> simp [rwK_len]
 ·intro j h1 h2
  have hj : j < G.length := by rw [rwK_len] at h1; exact h1
  by_cases e : j = k
  ·subst e
   by_cases hI : Ins (gl G (j : Int)) x
   ·simp [rwK, hI]
   ·simp [rwK, hI]
  ·by_cases hI : Ins (gl G (k : Int)) x
   ·simp only [if_pos hI, List.getElem_set, if_neg (show ¬ k = j from fun h => e h.symm)]
    simp only [rwK, List.getElem_map, List.getElem_range]
    have : (j < k + 1 ∧ Ins (gl G (j : Int)) x) ↔ (j < k ∧ Ins (gl G (j : Int)) x) := ⟨fun h => ⟨by omega, h.2⟩, fun h => ⟨by omega, h.2⟩⟩
    simp only [this]
   ·simp only [if_neg hI]
    simp only [rwK, List.getElem_map, List.getElem_range]
    have : (j < k + 1 ∧ Ins (gl G (j : Int)) x) ↔ (j < k ∧ Ins (gl G (j : Int)) x) := ⟨fun h => ⟨by omega, h.2⟩, fun h => ⟨by omega, h.2⟩⟩
    simp only [this]
theorem rwB_bin (G : List (List Int)) (x : List Int) : Bin G.length (rwB G x) := by
 refine ⟨by simp [rwB], fun e he => ?_⟩
 obtain ⟨y, _, rfl⟩ := List.mem_map.1 he
 split
 ·exact .inr rfl
 ·exact .inl rfl
set_option maxHeartbeats 1000000 in
theorem l17Matrix_c (A : Option Addr) (n c : Nat) (rs : List SlV) (H : List (List Int)) (B : Option Addr) (m d : Nat) (ts : List SlV) (G : List (List Int)) (w : World) (hA : RowsI w A n rs H) (hB : RowsI w B m ts G) (hn : n ≤ 1000000) (hm : m ≤ 1000000) (hHl : ∀ x ∈ H, x.length ≤ 1000000) (hGl : ∀ x ∈ G, x.length ≤ 1000000) :
    Ret Tryz.prog 34 [.slice A n c, .slice B m d] w (AnsL (H.map (rwB G)) w) := by
  have hHn := hA.len
  have hGm := hB.len
  refine Ret.of_cd Tryz.func34 rfl Tryz.ntmps34 rfl (post1 rfl) (Cd.seq (Cd.region (Ops.ms rfl rfl rfl (Ops.n (tQ (Cd.seq (Cd.region (Ops.bs0 (St.refl w) rfl ?_))))))))
  intro A5 w1 hS1
  have hS1 : St w w1 (mat 28 2 A5 0 0 [] [] ++ []) := hS1
  refine Ops.ms rfl rfl rfl (Ops.n (tQ (Cd.seq (Cd.seq (Cd.region (Ops.mi rfl rfl rfl (Ops.n (tQ (Cd.block ?_)))))))))
  refine Cd.loop (α := Nat × (Option Addr × Nat) × List SlV) (fun z => [(0, .slice A n c), (1, .slice B m d), (5, .slice z.2.1.1 z.1 z.2.1.2), (6, .int .i64 (z.1 : Int))])
    (fun z w' => z.1 ≤ n ∧ z.2.2.length = z.1 ∧ St w w' (mat 28 2 z.2.1.1 z.1 z.2.1.2 z.2.2 ((H.take z.1).map (rwB G)) ++ [])) (fun z => n - z.1) (0, (A5, 0), []) ⟨rfl, rfl, rfl, rfl, trivial⟩ ⟨Nat.zero_le _, rfl, hS1⟩ ?_
  clear hS1
  rintro ⟨i, ⟨A5, c5⟩, rs5⟩ e w2 ⟨hi, hrl, hS⟩
  dsimp only at hi hrl hS ⊢
  refine Cd.seq (Cd.seq (Cd.region (Ops.mi rfl rfl rfl (Ops.ms rfl rfl rfl (Ops.len rfl rfl (Ops.lss rfl rfl rfl (Ops.n (tQ ?_))))))))
  refine Cd.cond_p _ rfl (fun h1 => ?_) (fun h1 => ?_)
  · have hiH : i < H.length := by omega
    have hz := rwK_zero G (gl H (i : Int))
    have hal := rwK_all G (gl H (i : Int))
    have hsc := fun k hk => rwK_succ G (gl H (i : Int)) (k := k) hk
    have hgH : (gl H (i : Int)).length ≤ 1000000 := hHl _ (by rw [gl_mem hiH]; exact List.getElem_mem _)
    have htk : (H.take (i + 1)).map (rwB G) = (H.take i).map (rwB G) ++ [rwB G (gl H (i : Int))] := by rw [take_succ_gl hiH, List.map_append]; rfl
    have hml : ((H.take i).map (rwB G)).length = i := by simp; omega
    refine Cd.skip (tQ (Cd.seq (Cd.block (Cd.seq (Cd.region (Ops.ms rfl rfl rfl (Ops.len rfl rfl (Ops.mkI m hS rfl rfl (by omega) ?_))))))))
    intro A7 w3 hS3
    rw [← hGm, ← hz, hGm] at hS3
    refine Ops.ms rfl rfl rfl (Ops.n (tQ (Cd.seq (Cd.seq (Cd.region (Ops.mi rfl rfl rfl (Ops.n (tQ (Cd.block ?_)))))))))
    refine Cd.loop (α := Nat) (fun z => [(0, .slice A n c), (1, .slice B m d), (5, .slice A5 i c5), (6, .int .i64 (i : Int)), (7, .slice A7 m m), (8, .int .i64 (z : Int))])
      (fun z w' => z ≤ m ∧ St w w' (CkI 2 A7 m m (rwK G (gl H (i : Int)) z) :: (mat 28 2 A5 i c5 rs5 ((H.take i).map (rwB G)) ++ []))) (fun z => m - z) 0 ⟨rfl, rfl, rfl, rfl, rfl, rfl, trivial⟩ ⟨Nat.zero_le _, hS3⟩ ?_
    clear hS3 hS
    rintro k e w4 ⟨hk, hS⟩
    refine Cd.seq (Cd.seq (Cd.region (Ops.mi rfl rfl rfl (Ops.ms rfl rfl rfl (Ops.len rfl rfl (Ops.lss rfl rfl rfl (Ops.n (tQ ?_))))))))
    refine Cd.cond_p _ rfl (fun h2 => ?_) (fun h2 => ?_)
    · have hkG : k < G.length := by omega
      have hM := hS.oldRows hA
      have hQ := hS.oldRows hB
      have hra := hQ.at_ (i := (k : Int)) (by omega) (by omega)
      have hrb := hM.at_ (i := (i : Int)) (by omega) (by omega)
      have hla := hra.1
      have hlb := hrb.1
      have hgG : (gl G (k : Int)).length ≤ 1000000 := hGl _ (by rw [gl_mem hkG]; exact List.getElem_mem _)
      have hs := hsc k hkG
      refine Cd.skip (tQ (Cd.seq (Cd.block (Cd.seq ?_))))
      refine Cd.draw [.ex (.slice (B) (m) (d)), .ex (.int .i64 ((k : Int))), .ex (.pointer (ptrAt (B) ((k : Int)).toNat)), .ex (.slice ((rg (ts) ((k : Int))).a) ((rg (ts) ((k : Int))).n) ((rg (ts) ((k : Int))).c)), .ex (.slice (A) (n) (c)), .ex (.int .i64 ((i : Int))), .ex (.pointer (ptrAt (A) ((i : Int)).toNat)), .ex (.slice ((rg (rs) ((i : Int))).a) ((rg (rs) ((i : Int))).n) ((rg (rs) ((i : Int))).c)), .ex (.bool (decide (Ins (gl G (k : Int)) (gl H (i : Int)))))] (by kernel_rfl) (by kernel_rfl) rfl (lx (lx (lx (lx (lx (lx (lx (lx (lx (fun _ h => by cases h)))))))))) ⟨?_, ?_, ?_, ?_, ?_, ?_, ?_, ?_, ?_, trivial⟩ ?_
      · intro e1 w1 hb hp hun
        refine Ops.ms rfl rfl rfl (Ops.n (d0 (by exact rfl)))
      · intro e1 w1 hb hp hun
        refine Ops.mi rfl rfl rfl (Ops.n (d0 (by exact rfl)))
      · intro e1 w1 hb hp hun
        refine Ops.idx (hQ.top.later hb).2 rfl rfl rfl (by omega) (by omega) (Ops.n (d0 (by exact rfl)))
      · intro e1 w1 hb hp hun
        refine Ops.ld_sl (hQ.top.later hb) rfl (by omega) rfl rfl (Ops.n (d0 (by exact rfl)))
      · intro e1 w1 hb hp hun
        refine Ops.ms rfl rfl rfl (Ops.n (d0 (by exact rfl)))
      · intro e1 w1 hb hp hun
        refine Ops.mi rfl rfl rfl (Ops.n (d0 (by exact rfl)))
      · intro e1 w1 hb hp hun
        refine Ops.idx (hM.top.later hb).2 rfl rfl rfl (by omega) (by omega) (Ops.n (d0 (by exact rfl)))
      · intro e1 w1 hb hp hun
        refine Ops.ld_sl (hM.top.later hb) rfl (by omega) rfl rfl (Ops.n (d0 (by exact rfl)))
      · intro e1 w1 hb hp hun
        refine Ops.call (l17Within_c _ _ _ _ _ _ _ _ _ (hra.later hb) (hrb.later hb) (by omega) (by omega)) rfl rfl rfl ?_
        rintro _ w2 ⟨rfl, hst⟩
        subst hst
        refine Ops.n (d0 (by exact rfl))
      intro u w5 hb _
      have hS5 := hS.later hb
      refine tQ ?_
      refine Cd.cond_p _ rfl (fun h3 => ?_) (fun h3 => ?_)
      · rw [if_pos h3] at hs
        have hO : RdI w5 A7 m (rwK G (gl H (i : Int)) k) := hS5.rdI 0 rfl
        refine Cd.region (Ops.ms rfl rfl rfl (Ops.mi rfl rfl rfl (Ops.idx hO.2 rfl rfl rfl (by omega) (by omega) (Ops.st_int 0 hS5 rfl rfl rfl (by omega) ?_))))
        intro w6 hS6
        refine Ops.n (blockQ_n (tQ (Cd.region (Ops.mi rfl rfl rfl (Ops.add rfl rfl rfl (by omega) (Ops.mi rfl rfl rfl (Ops.n (tQ ?_))))))))
        exact ⟨k + 1, by show m - (k + 1) < m - k; omega, ⟨rfl, rfl, rfl, rfl, rfl, rfl, trivial⟩, by show k + 1 ≤ m; omega, by rw [hs]; exact hS6⟩
      · rw [if_neg h3] at hs
        refine Cd.skip (blockQ_n (tQ (Cd.region (Ops.mi rfl rfl rfl (Ops.add rfl rfl rfl (by omega) (Ops.mi rfl rfl rfl (Ops.n (tQ ?_))))))))
        exact ⟨k + 1, by show m - (k + 1) < m - k; omega, ⟨rfl, rfl, rfl, rfl, rfl, rfl, trivial⟩, by show k + 1 ≤ m; omega, by rw [hs]; exact hS5⟩
    · have hke : k = G.length := by omega
      rw [hke, hal] at hS
      have hkm : k = m := by omega
      refine Cd.exit (thenQ_x (thenQ_x (blockQ_x (tQ (Cd.region (Ops.ms rfl rfl rfl (Ops.ms rfl rfl rfl (Ops.bs1R hS rfl rfl rfl ?_))))))))
      intro A39 w5 hS5
      refine Ops.appR 2 hS5 rfl (hS5.rdR 0 rfl) rfl rfl rfl (by omega) (by omega) rfl ?_
      intro A40 c40 w6 hS6
      have hS6 : St w w6 (CkI 2 A7 m m (rwB G (gl H (i : Int))) :: (CkR 28 A40 (i + 1) c40 (rs5 ++ [⟨A7, m, m⟩]) :: (rowsCk 2 rs5 ((H.take i).map (rwB G)) ++ []))) := St.tail hS6
      refine Ops.ms rfl rfl rfl (Ops.n (blockQ_n (tQ (Cd.region (Ops.mi rfl rfl rfl (Ops.add rfl rfl rfl (by omega) (Ops.mi rfl rfl rfl (Ops.n (tQ ?_)))))))))
      exact ⟨(i + 1, (A40, c40), rs5 ++ [⟨A7, m, m⟩]), by show n - (i + 1) < n - i; omega, ⟨rfl, rfl, rfl, rfl, trivial⟩, by show i + 1 ≤ n; omega, by simp; omega, by rw [htk]; exact hS6.matAdd (by omega)⟩
  · have hin : i = H.length := by omega
    rw [hin, List.take_length] at hS
    have hl : (H.map (rwB G)).length = H.length := by simp
    refine Cd.exit (thenQ_x (thenQ_x (blockQ_x (tQ (Cd.seq (Cd.region (Ops.ms rfl rfl rfl (Ops.ms rfl rfl rfl (Ops.n ?_)))))))))
    refine tQ (Cd.ret (ret1_s rfl ?_))
    refine ⟨A5, c5, rs5, by rw [hl, ← hin], by rw [hl]; omega, ?_⟩
    rw [hl]; exact hS
/-
 The reference's elimination, walked.
-/
theorem rg_sw {rs : List SlV} {r k j : Nat} (hr : r < rs.length) (hk : k < rs.length) (hj : j < rs.length) : rg (sw2 slNil rs r k) (j : Int) = rg rs ((if j = k then r else if j = r then k else j : Nat) : Int) := by
 have := sw2_at slNil hr hk hj
 simpa [rg] using this
theorem gl_sw {M : List (List Int)} {r k j : Nat} (hr : r < M.length) (hk : k < M.length) (hj : j < M.length) : gl (sw2 [] M r k) (j : Int) = gl M ((if j = k then r else if j = r then k else j : Nat) : Int) := by
 have := sw2_at [] hr hk hj
 simpa [gl] using this
theorem gl_set_ne {M : List (List Int)} {i j : Nat} {x : List Int} (h : j ≠ i) : gl (M.set i x) (j : Int) = gl M (j : Int) := by
 simp only [gl, Int.toNat_natCast, List.getD_eq_getElem?_getD, List.getElem?_set]
 rw [if_neg fun e => h e.symm]
theorem gl_set_eq {M : List (List Int)} {i : Nat} {x : List Int} (h : i < M.length) : gl (M.set i x) (i : Int) = x := by
 simp only [gl, Int.toNat_natCast, List.getD_eq_getElem?_getD, List.getElem?_set]
 simp [h]
theorem set_gl {M : List (List Int)} {i : Nat} (h : i < M.length) : M.set i (gl M (i : Int)) = M := by
 rw [gl_mem h]; exact List.set_getElem_self h
set_option maxHeartbeats 4000000 in
theorem l17Rank_c (A : Option Addr) (n c : Nat) (rs : List SlV) (M0 : List (List Int)) (m : Nat) (w : World) (hR : RowsI w A n rs M0) (hn : n ≤ 1000000) (hm : m ≤ 1000000) (hB : ∀ x ∈ M0, Bin m x) :
    Ret Tryz.prog 33 [.slice A n c] w (fun v w' => ∃ r : Nat, v = .int .i64 (r : Int) ∧ IsRk (M0.map rowM) r ∧ St w w' []) := by
  have hMl := hR.len
  obtain ⟨mm, hmm, hmB⟩ : ∃ mm, (mm = if n = 0 then 0 else m) ∧ ∀ x ∈ M0, Bin mm x := by
    by_cases e : n = 0
    · exact ⟨0, by rw [if_pos e], fun x hx => by rw [List.eq_nil_of_length_eq_zero (by omega : M0.length = 0)] at hx; cases hx⟩
    · exact ⟨m, by rw [if_neg e], hB⟩
  have hmm1 : mm ≤ 1000000 := by rw [hmm]; split <;> omega
  refine Ret.of_cd Tryz.func33 rfl Tryz.ntmps33 rfl (post1 rfl) (Cd.seq (Cd.region (Ops.mi rfl rfl rfl (Ops.n (tQ (Cd.seq (Cd.region (Ops.ms rfl rfl rfl ?_))))))))
  refine Ops.call (l01Own2_c A n c rs M0 _ hR (by omega) (fun i hi => by
    have h1 := (hR.row i hi).1
    have h2 : (M0.getD i []).length = m := (hB _ (by rw [List.getD_eq_getElem?_getD, List.getElem?_eq_getElem (by omega : i < M0.length)]; exact List.getElem_mem _)).1
    omega)) rfl rfl rfl ?_
  rintro _ w1 ⟨A3, c3, rs3, rfl, hrl3, hst⟩
  have hS : St w w1 (mat 28 2 A3 n c3 rs3 M0 ++ []) := by rw [List.append_nil]; exact hst
  clear hst
  refine Ops.ms rfl rfl rfl (Ops.mi rfl rfl rfl (Ops.n (tQ (Cd.seq (Cd.region (Ops.mi rfl rfl rfl (Ops.n (tQ ?_))))))))
  refine Cd.join (α := Unit) (fun z => [(3, .slice A3 n c3), (4, .int .i64 0), (5, .int .i64 (mm : Int))]) (fun z w' => St w w' (mat 28 2 A3 n c3 rs3 M0 ++ [])) ?_ ?_
  · refine Cd.seq (Cd.region (Ops.ms rfl rfl rfl (Ops.len rfl rfl (Ops.gtr rfl rfl rfl (Ops.n (tQ ?_))))))
    refine Cd.cond_p _ rfl (fun h1 => ?_) (fun h1 => ?_)
    · have hM3 := hS.rowsI hMl
      have h0 := hM3.at_ (i := ((0 : Nat) : Int)) (by omega) (by omega)
      have h0l := h0.1
      have hb0 := (hmB _ (show gl M0 ((0 : Nat) : Int) ∈ M0 by rw [gl_mem (by omega)]; exact List.getElem_mem _)).1
      refine Cd.region (Ops.ms rfl rfl rfl (Ops.idx hM3.top.2 rfl rfl rfl (by omega) (by omega) ?_))
      refine Ops.ld_sl (i := ((0 : Nat) : Int)) hM3.top rfl (by simp; omega) rfl rfl ?_
      refine Ops.len rfl rfl (Ops.mi rfl rfl rfl (Ops.n (tQ ?_)))
      exact ⟨(), ⟨rfl, rfl, by show Value.int .i64 _ = .int .i64 _; congr 1; omega, trivial⟩, hS⟩
    · refine Cd.skip (tQ ?_)
      exact ⟨(), ⟨rfl, rfl, by rw [hmm, if_pos (by omega)]; rfl, trivial⟩, hS⟩
  clear hS
  rintro _ e w2 hS
  refine Cd.seq (Cd.seq (Cd.region (Ops.mi rfl rfl rfl (Ops.n (tQ (Cd.block ?_))))))
  refine Cd.loop (α := Nat × Nat × List SlV × List (List Int)) (fun z => [(3, .slice A3 n c3), (4, .int .i64 (z.2.1 : Int)), (5, .int .i64 (mm : Int)), (6, .int .i64 (z.1 : Int))])
    (fun z w' => z.1 ≤ mm ∧ GI M0 z.2.2.2 mm z.2.1 z.1 ∧ z.2.2.1.length = n ∧ St w w' (mat 28 2 A3 n c3 z.2.2.1 z.2.2.2 ++ [])) (fun z => mm - z.1) (0, 0, rs3, M0) ⟨rfl, rfl, rfl, rfl, trivial⟩ ⟨Nat.zero_le _, GI.start hmB, by show rs3.length = n; omega, hS⟩ ?_
  clear hS hrl3
  rintro ⟨k, rank, rs3, M⟩ e w3 ⟨hk, hG, hrl, hS⟩
  dsimp only at hk hG hrl hS ⊢
  have hl0 := hG.len
  have hrle := hG.rle
  have hMn : M.length = n := by omega
  refine Cd.seq (Cd.seq (Cd.region (Ops.mi rfl rfl rfl (Ops.mi rfl rfl rfl (Ops.lss rfl rfl rfl (Ops.n (tQ ?_)))))))
  refine Cd.cond_p _ rfl (fun h1 => ?_) (fun h1 => ?_)
  · have hM3 := hS.rowsI hMn
    refine Cd.skip (tQ (Cd.seq (Cd.block (Cd.seq (Cd.region (Ops.mi rfl rfl rfl (Ops.mi rfl rfl rfl (Ops.n (tQ ?_)))))))))
    refine Cd.seq (Cd.block ?_)
    refine Cd.loop (α := Nat) (fun z => [(3, .slice A3 n c3), (4, .int .i64 (rank : Int)), (5, .int .i64 (mm : Int)), (6, .int .i64 (k : Int)), (7, .int .i64 (z : Int))])
      (fun z w' => w' = w3 ∧ rank ≤ z ∧ z ≤ n ∧ ∀ j, rank ≤ j → j < z → gi (gl M (j : Int)) (k : Int) = 0) (fun z => n - z) rank ⟨rfl, rfl, rfl, rfl, rfl, trivial⟩ ⟨rfl, Nat.le_refl _, by omega, fun j a b => by omega⟩ ?_
    rintro r e w4 ⟨rfl, hr1, hr2, hz⟩
    -- behind the search
    have after : ∀ h : ¬ (r < n ∧ gi (gl M (r : Int)) (k : Int) = 0), (r = n ∧ ∀ j, rank ≤ j → j < M.length → gi (gl M (j : Int)) (k : Int) = 0) ∨ (r < n ∧ gi (gl M (r : Int)) (k : Int) = 1) := fun h => by
      by_cases e : r < n
      · right
        refine ⟨e, ?_⟩
        rcases (hG.at_ (show r < M.length by omega)).gi (show k < mm by omega) with h2 | h2
        · exact absurd ⟨e, h2⟩ h
        · exact h2
      · left
        exact ⟨by omega, fun j a b => hz j a (by omega)⟩
    refine Cd.seq (Cd.seq (Cd.region (Ops.mi rfl rfl rfl (Ops.ms rfl rfl rfl (Ops.len rfl rfl (Ops.lss rfl rfl rfl (Ops.mb rfl rfl rfl ?_)))))))
    refine Ops.split_p 30 rfl (fun h2 => ?_) (fun h2 => ?_)
    · have hrow := hM3.at_ (i := (r : Int)) (by omega) (by omega)
      have hrw := hrow.1
      have hbn := (hG.at_ (show r < M.length by omega)).1
      refine Ops.g rfl rfl rfl (Ops.ms rfl rfl rfl (Ops.g rfl rfl rfl (Ops.mi rfl rfl rfl (Ops.g rfl rfl rfl (Ops.idx hM3.top.2 rfl rfl rfl (by omega) (by omega) (Ops.g rfl rfl rfl (Ops.ld_sl hM3.top rfl (by omega) rfl rfl (Ops.g rfl rfl rfl (Ops.mi rfl rfl rfl ?_)))))))))
      refine Ops.g rfl rfl rfl (Ops.idx hrow.2 rfl rfl rfl (by omega) (by omega) (Ops.g rfl rfl rfl (Ops.ld_int hrow rfl (by omega) rfl rfl (Ops.g rfl rfl rfl (Ops.eql rfl rfl rfl (Ops.pick_t rfl rfl rfl (Ops.n (tQ ?_))))))))
      refine Cd.cond_p _ rfl (fun h3 => ?_) (fun h3 => ?_)
      · refine Cd.skip (tQ (Cd.block (Cd.region (Ops.mi rfl rfl rfl (Ops.add rfl rfl rfl (by omega) (Ops.mi rfl rfl rfl (Ops.n (blockQ_n (tQ ?_)))))))))
        exact ⟨r + 1, by show n - (r + 1) < n - r; omega, ⟨rfl, rfl, rfl, rfl, rfl, trivial⟩, rfl, by omega, by omega, fun j a b => by
          by_cases ej : j = r
          · subst ej; exact h3
          · exact hz j a (by omega)⟩
      · have hgr : gi (gl M (r : Int)) (k : Int) = 1 := by
          rcases after (fun h => h3 h.2) with h | h
          · omega
          · exact h.2
        have hsl : (sw2 slNil rs3 r rank).length = n := by rw [sw2_len]; exact hrl
        have hsm : (sw2 [] M r rank).length = n := by rw [sw2_len]; exact hMn
        have hGs := hG.swap hr1 (show r < M.length by omega)
        have hgk : gi (gl (sw2 [] M r rank) (rank : Int)) (k : Int) = 1 := by rw [gl_sw (by omega) (by omega) (by omega), if_pos rfl]; exact hgr
        have hpv : rg (sw2 slNil rs3 r rank) (rank : Int) = rg rs3 (r : Int) := by rw [rg_sw (by omega) (by omega) (by omega), if_pos rfl]
        refine Cd.exit (thenQ_x (thenQ_x (blockQ_x (tQ (Cd.seq (Cd.seq (Cd.region (Ops.mi rfl rfl rfl (Ops.ms rfl rfl rfl ?_)))))))))
        refine Ops.len rfl rfl (Ops.eql rfl rfl rfl (Ops.n (tQ (Cd.cond_pf rfl (by omega) (Cd.skip (tQ (Cd.seq (Cd.region (Ops.ms rfl rfl rfl ?_)))))))))
        refine Ops.mi rfl rfl rfl (Ops.idx hM3.top.2 rfl rfl rfl (by omega) (by omega) (Ops.ld_sl hM3.top rfl (by omega) rfl rfl (Ops.ms rfl rfl rfl (Ops.n (tQ (Cd.seq (Cd.region (Ops.ms rfl rfl rfl (Ops.mi rfl rfl rfl ?_)))))))))
        refine Ops.ms rfl rfl rfl (Ops.mi rfl rfl rfl (Ops.idx hM3.top.2 rfl rfl rfl (by omega) (by omega) (Ops.ld_sl hM3.top rfl (by omega) rfl rfl (Ops.idx hM3.top.2 rfl rfl rfl (by omega) (by omega) (Ops.st_sl (te := 28) (n := n) (c := c3) (A := A3) (xs := rs3) 0 hS rfl rfl rfl (by omega) ?_)))))
        intro w5 hS5
        have hT5 : RdR w5 A3 n (rs3.set (r : Int).toNat (rg rs3 (rank : Int))) := hS5.rdR 0 rfl
        refine Ops.n (tQ (Cd.seq (Cd.region (Ops.ms rfl rfl rfl (Ops.mi rfl rfl rfl (Ops.ms rfl rfl rfl (Ops.idx hT5.2 rfl rfl rfl (by omega) (by omega) (Ops.st_sl (te := 28) (n := n) (c := c3) (A := A3) (xs := rs3.set (r : Int).toNat (rg rs3 (rank : Int))) 0 hS5 rfl rfl rfl (by omega) ?_))))))))
        intro w6 hS6
        have hS6 : St w w6 (mat 28 2 A3 n c3 (sw2 slNil rs3 r rank) (sw2 [] M r rank) ++ []) := by
          have h6 : St w w6 (CkR 28 A3 n c3 (sw2 slNil rs3 r rank) :: (rowsCk 2 rs3 M ++ [])) := hS6
          exact h6.perm (List.Perm.cons _ ((rows_sw (by omega) (by omega) (by omega)).symm.append_right _))
        generalize hRS : sw2 slNil rs3 r rank = rs4 at *
        generalize hMS : sw2 [] M r rank = M4 at *
        clear hS5 hT5 hM3 hS
        refine Ops.n (tQ (Cd.seq (Cd.seq (Cd.region (Ops.mi rfl rfl rfl (Ops.add rfl rfl rfl (by omega) (Ops.mi rfl rfl rfl (Ops.n (tQ ?_)))))))))
        refine Cd.block ?_
        refine Cd.loop (α := Nat × List (List Int)) (fun z => [(3, .slice A3 n c3), (4, .int .i64 (rank : Int)), (5, .int .i64 (mm : Int)), (6, .int .i64 (k : Int)), (8, .slice (rg rs3 (r : Int)).a (rg rs3 (r : Int)).n (rg rs3 (r : Int)).c), (9, .int .i64 (z.1 : Int))])
          (fun z w' => rank < z.1 ∧ z.1 ≤ n ∧ GI M0 z.2 mm rank k ∧ gi (gl z.2 (rank : Int)) (k : Int) = 1 ∧ (∀ j, rank < j → j < z.1 → gi (gl z.2 (j : Int)) (k : Int) = 0) ∧ St w w' (mat 28 2 A3 n c3 rs4 z.2 ++ [])) (fun z => n - z.1) (rank + 1, M4) ⟨rfl, rfl, rfl, rfl, rfl, rfl, trivial⟩ ⟨by show rank < rank + 1; omega, by show rank + 1 ≤ n; omega, hGs, hgk, fun j a b => absurd b (by show ¬ j < rank + 1; omega), hS6⟩ ?_
        clear hS6 hGs hgk
        rintro ⟨i, M5⟩ e w7 ⟨hi1, hi2, hG5, hg5, hz5, hS⟩
        dsimp only at hi1 hi2 hG5 hg5 hz5 hS ⊢
        have hl5 := hG5.len
        have hM5n : M5.length = n := by omega
        refine Cd.seq (Cd.seq (Cd.region (Ops.mi rfl rfl rfl (Ops.ms rfl rfl rfl (Ops.len rfl rfl (Ops.lss rfl rfl rfl (Ops.n (tQ ?_))))))))
        refine Cd.cond_p _ rfl (fun h4 => ?_) (fun h4 => ?_)
        · have hM5 := hS.rowsI hM5n
          have hri := hM5.at_ (i := (i : Int)) (by omega) (by omega)
          have hril := hri.1
          have hbi := hG5.at_ (show i < M5.length by omega)
          have hbl := hbi.1
          have hbr := hG5.at_ (show rank < M5.length by omega)
          have hbrl := hbr.1
          refine Cd.skip (tQ (Cd.seq (Cd.block (Cd.seq (Cd.region (Ops.ms rfl rfl rfl (Ops.mi rfl rfl rfl (Ops.idx hM5.top.2 rfl rfl rfl (by omega) (by omega) (Ops.ld_sl hM5.top rfl (by omega) rfl rfl ?_)))))))))
          refine Ops.mi rfl rfl rfl (Ops.idx hri.2 rfl rfl rfl (by omega) (by omega) (Ops.ld_int hri rfl (by omega) rfl rfl (Ops.eql rfl rfl rfl (Ops.n (tQ ?_)))))
          refine Cd.cond_p _ rfl (fun h5 => ?_) (fun h5 => ?_)
          · have hel := hG5.elim hi1 (show i < M5.length by omega)
            have hrn : (rg rs4 (i : Int)).n = mm := by omega
            generalize hx : gl M5 (i : Int) = x at *
            generalize hy : gl M5 (rank : Int) = y at *
            refine Cd.seq (Cd.region (Ops.mi rfl rfl rfl (Ops.mi rfl rfl rfl (Ops.n (tQ (Cd.block ?_))))))
            refine Cd.loop (α := Nat) (fun z => [(3, .slice A3 n c3), (4, .int .i64 (rank : Int)), (5, .int .i64 (mm : Int)), (6, .int .i64 (k : Int)), (8, .slice (rg rs3 (r : Int)).a (rg rs3 (r : Int)).n (rg rs3 (r : Int)).c), (9, .int .i64 (i : Int)), (10, .int .i64 (z : Int))])
              (fun z w' => k ≤ z ∧ z ≤ mm ∧ St w w' (mat 28 2 A3 n c3 rs4 (M5.set i (adR x y k z)) ++ [])) (fun z => mm - z) k ⟨rfl, rfl, rfl, rfl, rfl, rfl, rfl, trivial⟩ ⟨Nat.le_refl _, by omega, by rw [adR_zero, ← hx, set_gl (by omega)]; exact hS⟩ ?_
            clear hS hM5 hri
            rintro q e w8 ⟨hq1, hq2, hS⟩
            refine Cd.seq (Cd.seq (Cd.region (Ops.mi rfl rfl rfl (Ops.mi rfl rfl rfl (Ops.lss rfl rfl rfl (Ops.n (tQ ?_)))))))
            refine Cd.cond_p _ rfl (fun h6 => ?_) (fun h6 => ?_)
            · have hM6 := hS.rowsI (show (M5.set i (adR x y k q)).length = n by simpa using hM5n)
              have hri := hM6.at_ (i := (i : Int)) (by omega) (by omega)
              rw [gl_set_eq (by omega)] at hri
              have hrp := hM6.at_ (i := (rank : Int)) (by omega) (by omega)
              rw [gl_set_ne (by omega), hpv, hy] at hrp
              have hrpl := hrp.1
              have hal := adR_len x y k q
              have hb1 := (adR_bin (c := k) hbi hbr q).gi (show q < mm by omega)
              have hb2 := hbr.gi (show q < mm by omega)
              have hset := adR_succ (x := x) (y := y) hq1 (show q < x.length by omega)
              generalize hz : adR x y k q = z at *
              refine Cd.skip (tQ (Cd.seq (Cd.block ?_)))
              refine Cd.drawN [19] [.ex (.slice (A3) (n) (c3)), .ex (.int .i64 ((i : Int))), .ex (.pointer (ptrAt (A3) ((i : Int)).toNat)), .ex (.slice ((rg (rs4) ((i : Int))).a) ((rg (rs4) ((i : Int))).n) ((rg (rs4) ((i : Int))).c)), .ex (.int .i64 ((q : Int))), .ex (.slice (A3) (n) (c3)), .ex (.int .i64 ((i : Int))), .ex (.pointer (ptrAt (A3) ((i : Int)).toNat)), .ex (.slice ((rg (rs4) ((i : Int))).a) ((rg (rs4) ((i : Int))).n) ((rg (rs4) ((i : Int))).c)), .ex (.int .i64 ((q : Int))), .ex (.pointer (ptrAt ((rg (rs4) ((i : Int))).a) ((q : Int)).toNat)), .ex (.int .i64 (gi (z) ((q : Int)))), .ex (.slice ((rg rs3 (r : Int)).a) ((rg rs3 (r : Int)).n) ((rg rs3 (r : Int)).c)), .ex (.int .i64 ((q : Int))), .ex (.pointer (ptrAt ((rg rs3 (r : Int)).a) ((q : Int)).toNat)), .ex (.int .i64 (gi (y) ((q : Int)))), .ex (.int .i64 ((gi (z) ((q : Int))) + (gi (y) ((q : Int))))), .ex (.int .i64 ((gi z (q : Int) + gi y (q : Int)) % 2)), .ex (.pointer (ptrAt ((rg (rs4) ((i : Int))).a) ((q : Int)).toNat)), .pr (fun _ w' => St w w' (mat 28 2 A3 n c3 rs4 (M5.set i (adR x y k (q + 1))) ++ []))] (by kernel_rfl) (by kernel_rfl) (lx (lx (lx (lx (lx (lx (lx (lx (lx (lx (lx (lx (lx (lx (lx (lx (lx (lx (lx (List.forall_mem_cons.2 ⟨Yd.lasts_pr (fun v w w' h hb => h.later hb), (fun _ h => by cases h)⟩)))))))))))))))))))) ⟨?_, ?_, ?_, ?_, ?_, ?_, ?_, ?_, ?_, ?_, ?_, ?_, ?_, ?_, ?_, ?_, ?_, ?_, ?_, ?_, trivial⟩ ?_
              · intro e1 w1 cc hlo hhi hb0 hp hun hq
                show Ops _ _ _ _ _ _ _
                refine Ops.ms rfl rfl rfl (Ops.n (n0 rfl (by exact rfl)))
              · intro e1 w1 cc hlo hhi hb0 hp hun hq
                show Ops _ _ _ _ _ _ _
                refine Ops.mi rfl rfl rfl (Ops.n (n0 rfl (by exact rfl)))
              · intro e1 w1 cc hlo hhi hb0 hp hun hq
                show Ops _ _ _ _ _ _ _
                obtain rfl := cc_of hlo hhi (b := 0) (by kernel_rfl) (by kernel_rfl)
                have hb := hb0 rfl
                refine Ops.idx (hM6.top.later hb).2 rfl rfl rfl (by omega) (by omega) (Ops.n (n0 rfl (by exact rfl)))
              · intro e1 w1 cc hlo hhi hb0 hp hun hq
                show Ops _ _ _ _ _ _ _
                obtain rfl := cc_of hlo hhi (b := 0) (by kernel_rfl) (by kernel_rfl)
                have hb := hb0 rfl
                refine Ops.ld_sl (hM6.top.later hb) rfl (by omega) rfl rfl (Ops.n (n0 rfl (by exact rfl)))
              · intro e1 w1 cc hlo hhi hb0 hp hun hq
                show Ops _ _ _ _ _ _ _
                refine Ops.mi rfl rfl rfl (Ops.n (n0 rfl (by exact rfl)))
              · intro e1 w1 cc hlo hhi hb0 hp hun hq
                show Ops _ _ _ _ _ _ _
                refine Ops.ms rfl rfl rfl (Ops.n (n0 rfl (by exact rfl)))
              · intro e1 w1 cc hlo hhi hb0 hp hun hq
                show Ops _ _ _ _ _ _ _
                refine Ops.mi rfl rfl rfl (Ops.n (n0 rfl (by exact rfl)))
              · intro e1 w1 cc hlo hhi hb0 hp hun hq
                show Ops _ _ _ _ _ _ _
                obtain rfl := cc_of hlo hhi (b := 0) (by kernel_rfl) (by kernel_rfl)
                have hb := hb0 rfl
                refine Ops.idx (hM6.top.later hb).2 rfl rfl rfl (by omega) (by omega) (Ops.n (n0 rfl (by exact rfl)))
              · intro e1 w1 cc hlo hhi hb0 hp hun hq
                show Ops _ _ _ _ _ _ _
                obtain rfl := cc_of hlo hhi (b := 0) (by kernel_rfl) (by kernel_rfl)
                have hb := hb0 rfl
                refine Ops.ld_sl (hM6.top.later hb) rfl (by omega) rfl rfl (Ops.n (n0 rfl (by exact rfl)))
              · intro e1 w1 cc hlo hhi hb0 hp hun hq
                show Ops _ _ _ _ _ _ _
                refine Ops.mi rfl rfl rfl (Ops.n (n0 rfl (by exact rfl)))
              · intro e1 w1 cc hlo hhi hb0 hp hun hq
                show Ops _ _ _ _ _ _ _
                obtain rfl := cc_of hlo hhi (b := 0) (by kernel_rfl) (by kernel_rfl)
                have hb := hb0 rfl
                refine Ops.idx (hri.later hb).2 rfl rfl rfl (by omega) (by omega) (Ops.n (n0 rfl (by exact rfl)))
              · intro e1 w1 cc hlo hhi hb0 hp hun hq
                show Ops _ _ _ _ _ _ _
                obtain rfl := cc_of hlo hhi (b := 0) (by kernel_rfl) (by kernel_rfl)
                have hb := hb0 rfl
                refine Ops.ld_int (hri.later hb) rfl (by omega) rfl rfl (Ops.n (n0 rfl (by exact rfl)))
              · intro e1 w1 cc hlo hhi hb0 hp hun hq
                show Ops _ _ _ _ _ _ _
                refine Ops.ms rfl rfl rfl (Ops.n (n0 rfl (by exact rfl)))
              · intro e1 w1 cc hlo hhi hb0 hp hun hq
                show Ops _ _ _ _ _ _ _
                refine Ops.mi rfl rfl rfl (Ops.n (n0 rfl (by exact rfl)))
              · intro e1 w1 cc hlo hhi hb0 hp hun hq
                show Ops _ _ _ _ _ _ _
                obtain rfl := cc_of hlo hhi (b := 0) (by kernel_rfl) (by kernel_rfl)
                have hb := hb0 rfl
                refine Ops.idx (hrp.later hb).2 rfl rfl rfl (by omega) (by omega) (Ops.n (n0 rfl (by exact rfl)))
              · intro e1 w1 cc hlo hhi hb0 hp hun hq
                show Ops _ _ _ _ _ _ _
                obtain rfl := cc_of hlo hhi (b := 0) (by kernel_rfl) (by kernel_rfl)
                have hb := hb0 rfl
                refine Ops.ld_int (hrp.later hb) rfl (by omega) rfl rfl (Ops.n (n0 rfl (by exact rfl)))
              · intro e1 w1 cc hlo hhi hb0 hp hun hq
                show Ops _ _ _ _ _ _ _
                refine Ops.add rfl rfl rfl (by omega) (Ops.n (n0 rfl (by exact rfl)))
              · intro e1 w1 cc hlo hhi hb0 hp hun hq
                show Ops _ _ _ _ _ _ _
                refine Ops.rem rfl rfl rfl (by omega) (Ops.n (n0 rfl (by exact rfl)))
              · intro e1 w1 cc hlo hhi hb0 hp hun hq
                show Ops _ _ _ _ _ _ _
                obtain rfl := cc_of hlo hhi (b := 0) (by kernel_rfl) (by kernel_rfl)
                have hb := hb0 rfl
                refine Ops.idx (hri.later hb).2 rfl rfl rfl (by omega) (by omega) (Ops.n (n0 rfl (by exact rfl)))
              · intro e1 w1 cc hlo hhi hb0 hp hun hq
                show Ops _ _ _ _ _ _ _
                obtain rfl := cc_of hlo hhi (b := 0) (by kernel_rfl) (by kernel_rfl)
                have hb := hb0 rfl
                refine Ops.st_row (pre := []) i (hS.later hb) (by simp; omega) (by omega) rfl rfl (by omega) ?_
                intro w9 hS9
                refine Ops.n ?_
                rw [gl_set_eq (by omega), Int.toNat_natCast, hset, List.set_set] at hS9
                exact AfterT.st rfl hS9
              intro _ w9 _ hu
              have hT := hu 19 _ rfl (by kernel_rfl)
              refine blockQ_n (tQ (Cd.region (Ops.mi rfl rfl rfl (Ops.add rfl rfl rfl (by omega) (Ops.mi rfl rfl rfl (Ops.n (tQ ?_)))))))
              exact ⟨q + 1, by show mm - (q + 1) < mm - q; omega, ⟨rfl, rfl, rfl, rfl, rfl, rfl, rfl, trivial⟩, by omega, by omega, hT⟩
            · have hqe : q = mm := by omega
              subst hqe
              refine Cd.exit (thenQ_x (thenQ_x (blockQ_x (blockQ_n (tQ (Cd.region (Ops.mi rfl rfl rfl (Ops.add rfl rfl rfl (by omega) (Ops.mi rfl rfl rfl ?_)))))))))
              refine Ops.n (tQ ?_)
              refine ⟨(i + 1, M5.set i (adR x y k q)), by show n - (i + 1) < n - i; omega, ⟨rfl, rfl, rfl, rfl, rfl, rfl, trivial⟩, by show rank < i + 1; omega, by show i + 1 ≤ n; omega, hel, ?_, fun j a b => ?_, hS⟩
              · show gi (gl (M5.set i _) (rank : Int)) (k : Int) = 1
                rw [gl_set_ne (by omega), hy]; exact hg5
              · show gi (gl (M5.set i _) (j : Int)) (k : Int) = 0
                have b : j < i + 1 := b
                by_cases ej : j = i
                · subst ej
                  rw [gl_set_eq (by omega), adR_at (by omega), if_pos ⟨Nat.le_refl _, by omega⟩, h5, hg5]; decide
                · rw [gl_set_ne ej]; exact hz5 j a (by omega)
          · have h50 : gi (gl M5 (i : Int)) (k : Int) = 0 := by
              rcases hbi.gi (show k < mm by omega) with h | h
              · exact h
              · exact absurd h h5
            refine Cd.skip (blockQ_n (tQ (Cd.region (Ops.mi rfl rfl rfl (Ops.add rfl rfl rfl (by omega) (Ops.mi rfl rfl rfl (Ops.n (tQ ?_))))))))
            exact ⟨(i + 1, M5), by show n - (i + 1) < n - i; omega, ⟨rfl, rfl, rfl, rfl, rfl, rfl, trivial⟩, by show rank < i + 1; omega, by show i + 1 ≤ n; omega, hG5, hg5, fun j a b => by
              have b : j < i + 1 := b
              by_cases ej : j = i
              · subst ej; exact h50
              · exact hz5 j a (by omega), hS⟩
        · have hnx := hG5.next (show k < mm by omega) (show rank < M5.length by omega) hg5 fun j a b => hz5 j a (by omega)
          refine Cd.exit (thenQ_x (thenQ_x (blockQ_x (tQ (Cd.region (Ops.mi rfl rfl rfl (Ops.add rfl rfl rfl (by omega) (Ops.mi rfl rfl rfl (Ops.n ?_)))))))))
          refine blockQ_n (tQ (Cd.region (Ops.mi rfl rfl rfl (Ops.add rfl rfl rfl (by omega) (Ops.mi rfl rfl rfl (Ops.n (tQ ?_)))))))
          exact ⟨(k + 1, rank + 1, rs4, M5), by show mm - (k + 1) < mm - k; omega, ⟨rfl, rfl, rfl, rfl, trivial⟩, by show k + 1 ≤ mm; omega, hnx, hsl, hS⟩
    · have hre : r = n := by omega
      have hsk := hG.skip (show k < mm by omega) fun j a b => hz j a (by omega)
      refine Ops.k rfl rfl rfl rfl rfl (Ops.k rfl rfl rfl rfl rfl (Ops.k rfl rfl rfl rfl rfl (Ops.k rfl rfl rfl rfl rfl (Ops.k rfl rfl rfl rfl rfl (Ops.k rfl rfl rfl rfl rfl (Ops.k rfl rfl rfl rfl rfl (Ops.k rfl rfl rfl rfl rfl (Ops.pick_f rfl rfl rfl (Ops.n ?_)))))))))
      refine tQ (Cd.cond_f rfl (Cd.exit (thenQ_x (thenQ_x (blockQ_x (tQ (Cd.seq (Cd.seq (Cd.region ?_)))))))))
      refine Ops.mi rfl rfl rfl (Ops.ms rfl rfl rfl (Ops.len rfl rfl (Ops.eql rfl rfl rfl (Ops.n (tQ (Cd.cond_pt rfl (by omega) (Cd.exit (thenQ_x (blockQ_x ?_)))))))))
      refine tQ (Cd.region (Ops.mi rfl rfl rfl (Ops.add rfl rfl rfl (by omega) (Ops.mi rfl rfl rfl (Ops.n (tQ ?_))))))
      exact ⟨(k + 1, rank, rs3, M), by show mm - (k + 1) < mm - k; omega, ⟨rfl, rfl, rfl, rfl, trivial⟩, by show k + 1 ≤ mm; omega, hsk, hrl, hS⟩
  · have hke : k = mm := by omega
    refine Cd.exit (thenQ_x (thenQ_x (blockQ_x (tQ (Cd.seq (Cd.region (Ops.mi rfl rfl rfl (Ops.mi rfl rfl rfl (Ops.n ?_)))))))))
    refine tQ (Cd.ret (ret1_i rfl ?_))
    exact ⟨rank, rfl, hG.rank (by omega), hS.none⟩
/-
 A statement whose order Go leaves open, by a property of what is done so far.
-/
def backB (l : List Oper) : Bool := l.zipIdx.all fun p => (aft p.1).all fun ed => Nat.blt ed.on p.2
theorem thenQ_ext {K : Env → World → Prop} {Q : Post} {e : Env} {w : World} {F : List (Nat × Value)} (hM : Mt e F) (h : thenQ K Q .normal (ext e F) w) : thenQ K Q .normal e w := by rwa [ext_of_mt hM] at h
section
variable {P : Program} {N : Nat} {e : Env} {w : World}
end
/-
 The reference's Betti numbers of complexes, walked.
-/
theorem IsRk.le {L : List Nat} {r : Nat} (h : IsRk L r) : r ≤ L.length := by
 obtain ⟨B, rfl, hB, hE⟩ := h
 have h1 := sub_len _ _ hB fun x hx => (hE x).2 hx
 rw [sums_len, sums_len] at h1
 rcases Nat.lt_or_ge L.length B.length with hl | hl
 ·have := Nat.pow_lt_pow_right (a := 2) (by omega) hl; omega
 ·exact hl
set_option maxHeartbeats 2000000 in
theorem specComplexBetti_c (V : Int) (A : Option Addr) (n c : Nat) (rs : List SlV) (F : List (List Int)) (w : World) (hR : RowsI w A n rs F) (hn : n ≤ 9223372036854775807) :
    Ret Tryz.prog 8 [.agg #[.int .i64 V, .slice A n c]] w (AnsR (btV V F) (hvK V F) w) := by
  have hFl := hR.len
  refine Ret.of_cd Tryz.func8 rfl Tryz.ntmps8 rfl (post2 rfl) (Cd.seq (Cd.region (Ops.box2 (St.refl w) rfl rfl ?_)))
  intro Ab w1 hS1
  refine Ops.ms rfl rfl rfl (Ops.mi rfl rfl rfl (Ops.n (tQ (Cd.seq (Cd.seq (Cd.region (Ops.ld_agg 1 (hS1.rd 0 rfl) rfl rfl rfl (Ops.call (l17Is_c V A n c rs F _ (hS1.oldRows hR) hn) rfl rfl rfl ?_))))))))
  rintro _ w2 ⟨rfl, hst⟩
  have hS2 : St w w2 [cxB Ab V A n c] := hS1.later hst.below
  unfold btV hvK
  first | refine Ops.not_p rfl rfl ?_ | refine Ops.not rfl rfl ?_
  refine Ops.n (tQ ?_)
  refine Cd.cond_p _ rfl (fun h1 => ?_) (fun h1 => ?_)
  · rw [if_neg h1, if_neg h1]
    refine Cd.seq (Cd.region (Ops.ms rfl rfl rfl (Ops.mi rfl rfl rfl (Ops.n (tQ (Cd.ret (thenQ_r (ret2_si rfl rfl ?_))))))))
    exact ⟨none, 0, rfl, hS2.none.nil _⟩
  have hC := Classical.not_not.1 h1
  have hF4 := hC.f
  have h6 : ∀ f ∈ F, f.length ≤ 6 := fun f hf => (hC.row f hf).1.2
  have hd := dpt_bd h6
  rw [if_pos hC, if_pos hC]
  refine Cd.skip (tQ (Cd.seq (Cd.region (Ops.bs0 hS2 rfl ?_))))
  intro A4 w3 hS3
  have hS3 : St w w3 [CkI 2 A4 0 0 [], cxB Ab V A n c] := hS3
  clear hS1 hS2 hst
  refine Ops.ms rfl rfl rfl (Ops.n (tQ (Cd.seq (Cd.region (Ops.mi rfl rfl rfl (Ops.n (tQ (Cd.seq (Cd.seq ?_)))))))))
  refine Cd.region (Ops.mi rfl rfl rfl (Ops.n (tQ (Cd.block ?_))))
  refine Cd.loop (α := Nat × Option Addr × Nat) (fun z => [(1, .pointer Ab), (4, .slice z.2.1 z.1 z.2.2), (5, .int .i64 (rkF F z.1 : Int)), (6, .int .i64 ((z.1 : Int) + 1))])
    (fun z w' => z.1 ≤ dpt F ∧ rkF F z.1 ≤ 30000 ∧ St w w' [CkI 2 z.2.1 z.1 z.2.2 (btG F z.1), cxB Ab V A n c]) (fun z => dpt F - z.1) (0, A4, 0) ⟨rfl, rfl, rfl, rfl, trivial⟩ ⟨Nat.zero_le _, by show rkF F 0 ≤ 30000; simp [rkF], hS3⟩ ?_
  clear hS3
  rintro ⟨j, A4, c4⟩ e w2 ⟨hj, hrk, hS⟩
  dsimp only at hj hrk hS ⊢
  refine Cd.seq (Cd.seq (Cd.region (Ops.mi rfl rfl rfl (Ops.ld_agg 1 (hS.rd 1 rfl) rfl rfl rfl ?_))))
  refine Ops.call (l17Size_c V A n c rs F _ (hS.oldRows hR) (by omega) (fun f hf => by have := h6 f hf; omega)) rfl rfl rfl ?_
  rintro _ w3 ⟨rfl, hst⟩
  have hS := hS.later hst.below
  refine Ops.leq rfl rfl rfl (Ops.n (tQ ?_))
  refine Cd.cond_p _ rfl (fun h2 => ?_) (fun h2 => ?_)
  · have hn1 := fcs_num (j + 1) h6
    have hn2 := fcs_num (j + 1 + 1) h6
    have hB := hS.rd 1 rfl
    have hX := hS.oldRows hR
    refine Cd.skip (tQ (Cd.seq (Cd.block (Cd.seq ?_))))
    refine Cd.draw [.ex (.agg #[.int .i64 (V), .slice (A) (n) (c)]), .ex (.int .i64 (((j : Int) + 1))), .pr (fun v w' => ∃ D d ts, v = .slice D (fcs F (j + 1)).length d ∧ RowsI w' D (fcs F (j + 1)).length ts (fcs F (j + 1))), .ex (.agg #[.int .i64 (V), .slice (A) (n) (c)]), .ex (.int .i64 (((j : Int) + 1))), .ex (.int .i64 ((((j : Int) + 1)) + ((1 : Int)))), .pr (fun v w' => ∃ D d ts, v = .slice D (fcs F (j + 1 + 1)).length d ∧ RowsI w' D (fcs F (j + 1 + 1)).length ts (fcs F (j + 1 + 1))), .pr (fun v w' => ∃ D d ts, v = .slice D (fcs F (j + 1)).length d ∧ RowsI w' D (fcs F (j + 1)).length ts (fcs F (j + 1))), .pr (fun v w' => ∃ D d ts, v = .slice D (fcs F (j + 1 + 1)).length d ∧ RowsI w' D (fcs F (j + 1 + 1)).length ts (fcs F (j + 1 + 1)))] (by kernel_rfl) (by kernel_rfl) rfl (lx (lx (List.forall_mem_cons.2 ⟨Yd.lasts_pr (fun v w w' h hb => by obtain ⟨D, d, ts, hv, h1⟩ := h; exact ⟨D, d, ts, hv, h1.later hb⟩), (lx (lx (lx (List.forall_mem_cons.2 ⟨Yd.lasts_pr (fun v w w' h hb => by obtain ⟨D, d, ts, hv, h1⟩ := h; exact ⟨D, d, ts, hv, h1.later hb⟩), (List.forall_mem_cons.2 ⟨Yd.lasts_pr (fun v w w' h hb => by obtain ⟨D, d, ts, hv, h1⟩ := h; exact ⟨D, d, ts, hv, h1.later hb⟩), (List.forall_mem_cons.2 ⟨Yd.lasts_pr (fun v w w' h hb => by obtain ⟨D, d, ts, hv, h1⟩ := h; exact ⟨D, d, ts, hv, h1.later hb⟩), (fun _ h => by cases h)⟩)⟩)⟩))))⟩))) ⟨?_, ?_, ?_, ?_, ?_, ?_, ?_, ?_, ?_, trivial⟩ ?_
    · intro e1 w1 hb hp hun
      refine Ops.ld_agg 1 (hB.below hb) rfl rfl rfl (Ops.n (d0 (by exact rfl)))
    · intro e1 w1 hb hp hun
      refine Ops.mi rfl rfl rfl (Ops.n (d0 (by exact rfl)))
    · intro e1 w1 hb hp hun
      refine Ops.call (l17Faces_c V A n c rs F (j + 1) _ (hX.later hb) (by omega) h6 (by omega)) rfl rfl rfl ?_
      rintro _ w9 ⟨D, d, ts, rfl, hl9, hst9⟩
      refine Ops.n ?_
      exact After.dn hst9.below ⟨D, d, ts, rfl, hst9.rowsI rfl⟩
    · intro e1 w1 hb hp hun
      refine Ops.ld_agg 1 (hB.below hb) rfl rfl rfl (Ops.n (d0 (by exact rfl)))
    · intro e1 w1 hb hp hun
      refine Ops.mi rfl rfl rfl (Ops.n (d0 (by exact rfl)))
    · intro e1 w1 hb hp hun
      refine Ops.add rfl rfl rfl (by omega) (Ops.n (d0 (by exact rfl)))
    · intro e1 w1 hb hp hun
      refine Ops.call (l17Faces_c V A n c rs F (j + 1 + 1) _ (hX.later hb) (by omega) h6 (by omega)) rfl rfl rfl ?_
      rintro _ w9 ⟨D, d, ts, rfl, hl9, hst9⟩
      refine Ops.n ?_
      exact After.dn hst9.below ⟨D, d, ts, rfl, hst9.rowsI rfl⟩
    · intro e1 w1 hb hp hun
      obtain ⟨D, d, ts, h22, h1⟩ := (hp 2 (by decide) rfl _ _ rfl rfl)
      refine Ops.ms rfl (by exact h22) rfl (Ops.n ?_)
      exact After.dn (Below.refl _ _) ⟨D, d, ts, rfl, h1⟩
    · intro e1 w1 hb hp hun
      obtain ⟨D, d, ts, h26, h1⟩ := (hp 6 (by decide) rfl _ _ rfl rfl)
      refine Ops.ms rfl (by exact h26) rfl (Ops.n ?_)
      exact After.dn (Below.refl _ _) ⟨D, d, ts, rfl, h1⟩
    intro u w4 hb4 hu
    obtain ⟨D7, d7, ts7, h7, hR7⟩ := hu 7 _ rfl
    obtain ⟨D8, d8, ts8, h8, hR8⟩ := hu 8 _ rfl
    have hS4 := hS.later hb4
    have hl1 : ∀ x ∈ fcs F (j + 1), x.length ≤ 1000000 := fun x hx => by rw [fcs_len hx]; omega
    have hl2 : ∀ x ∈ fcs F (j + 1 + 1), x.length ≤ 1000000 := fun x hx => by rw [fcs_len hx]; omega
    have hmt : ((fcs F (j + 1 + 1)).map (rwB (fcs F (j + 1)))).map rowM = matF F (j + 1) := by rw [List.map_map]; rfl
    have hml : (matF F (j + 1)).length = (fcs F (j + 1 + 1)).length := by simp [matF]
    have hba : btA F j = ((fcs F (j + 1)).length : Int) - (rkF F j : Int) - (rkF F (j + 1) : Int) := rfl
    have hbn : ∀ x ∈ (fcs F (j + 1 + 1)).map (rwB (fcs F (j + 1))), Bin (fcs F (j + 1)).length x := fun x hx => by obtain ⟨y, _, rfl⟩ := List.mem_map.1 hx; exact rwB_bin _ _
    generalize fcs F (j + 1) = G at *
    generalize fcs F (j + 1 + 1) = H at *
    refine thenQ_ext (F := [(1, .pointer Ab), (4, .slice A4 j c4), (5, .int .i64 (rkF F j : Int)), (6, .int .i64 ((j : Int) + 1)), (7, .slice D7 G.length d7), (8, .slice D8 H.length d8)]) ⟨rfl, rfl, rfl, rfl, h7, h8, trivial⟩ (tQ (Cd.seq (Cd.region (Ops.ms rfl rfl rfl (Ops.ms rfl rfl rfl (Ops.call (l17Matrix_c D8 _ d8 ts8 H D7 _ d7 ts7 G _ hR8 hR7 (by omega) (by omega) hl2 hl1) rfl rfl rfl ?_))))))
    rintro _ w5 ⟨A9, c9, rs9, rfl, hl9, hst9⟩
    refine Ops.call (l17Rank_c A9 _ c9 rs9 _ G.length _ (hst9.rowsI rfl) (by simp; omega) (by omega) hbn) rfl rfl rfl ?_
    rintro _ w6 ⟨r, rfl, hr, hst10⟩
    rw [hmt] at hr
    have e := rkF_eq (by omega) hr
    have hle := hr.le
    have hS6 := hS4.later (hst9.later hst10.below).below
    refine Ops.mi rfl rfl rfl (Ops.n (tQ (Cd.seq (Cd.region (Ops.ms rfl rfl rfl (Ops.ms rfl rfl rfl (Ops.len rfl rfl (Ops.mi rfl rfl rfl (Ops.sub rfl rfl rfl (by omega) ?_)))))))))
    refine Ops.mi rfl rfl rfl (Ops.sub rfl rfl rfl (by omega) (Ops.bs1I hS6 rfl rfl rfl ?_))
    intro A38 w7 hS7
    refine Ops.appI 1 hS7 rfl (hS7.rdI 0 rfl) rfl rfl rfl (by omega) (by omega) rfl ?_
    intro A39 c39 w8 hS8
    refine Ops.ms rfl rfl rfl (Ops.n (tQ (Cd.region (Ops.mi rfl rfl rfl (Ops.mi rfl rfl rfl (Ops.n (blockQ_n (tQ (Cd.region ?_)))))))))
    refine Ops.mi rfl rfl rfl (Ops.add rfl rfl rfl (by omega) (Ops.mi rfl rfl rfl (Ops.n (tQ ?_))))
    refine ⟨(j + 1, A39, c39), by show dpt F - (j + 1) < dpt F - j; omega, ⟨rfl, rfl, by rw [e]; rfl, rfl, trivial⟩, by show j + 1 ≤ dpt F; omega, by show rkF F (j + 1) ≤ 30000; omega, ?_⟩
    show St w w8 [CkI 2 A39 (j + 1) c39 (btG F (j + 1)), _]
    rw [btG_succ, hba, e]
    exact St.tail hS8
  · have hje : j = dpt F := by omega
    have hl : (btP F).length = dpt F := btG_len _ _
    refine Cd.exit (thenQ_x (thenQ_x (blockQ_x (tQ (Cd.seq (Cd.region (Ops.ms rfl rfl rfl (Ops.ms rfl rfl rfl (Ops.mi rfl rfl rfl ?_)))))))))
    refine Ops.n (tQ (Cd.ret (ret2_si rfl rfl ?_)))
    subst hje
    exact ⟨A4, c4, by rw [hl], by rw [hl]; exact hS.sub (List.Sublist.cons_cons _ (List.nil_sublist _))⟩
/-
 Rows of pointers, and pointers compared with none.
-/
section
variable {P : Program} {N : Nat} {ops : Array Oper} {K : Env → World → Prop} {rest : List Oper} {e : Env} {w0 w w' : World} {ks : List Ck} {d : Nat} {ty : TypeId} {pos : String} {af : Array Edge}
theorem Ops.eqNilP {t t' el : TypeId} [Und P t (.pointer el)] {x y : Operand} {A : Option Addr} (hx : ev e x = .pointer A) (hy : ev e y = .pointer none) (hb : Nat.blt d N = true) (hK : Ops P N ops K rest (upd e d (.bool A.isNone)) w) :
  Ops P N ops K (⟨some d, .binOp .eql t x y t', ty, pos, af, none⟩ :: rest) e w := by
 have hr : (Op.equal t (.pointer A) (.pointer none)).run P w = .ok A.isNone w := by
  show (Op.equalIn (9999 + 1) t (.pointer A) (.pointer none)).run P w = _
  rw [Op.equalIn]
  cases A <;> simp [run_underlying (Und.out (P := P) (t := t))]
 exact .val (by simp [execOp, hx, hy, eqGuard, binOp, hr]) hb hK
theorem Ops.lookP {κ : Type} [DecidableEq κ] {kd : TypeDesc} {kv : κ → Value} {t kt et : TypeId} {b : Nat} [Und P t (.map kt et)] [Und P kt kd] [Inf P et (.pointer none) 1 b] (KT : KeyT kd kv) {g : Nat} {L : List (κ × Option Addr)} {m ix : Operand} (x : κ) (hR : RdM w g (prV kv Value.pointer L)) (hx : ev e m = .map (some g)) (hy : ev e ix = kv x) (hb : Nat.blt d N = true)
    (hK : Ops P N ops K rest (upd e d (.pointer ((getA L x).getD none))) w) : Ops P N ops K (⟨some d, .lookup t m ix false, ty, pos, af, none⟩ :: rest) e w :=
  .look KT hR hx hy (by cases getA L x <;> rfl) hb hK
theorem Ops.lookP' {κ : Type} [DecidableEq κ] {kd : TypeDesc} {kv : κ → Value} {t kt et : TypeId} {b : Nat} [Und P t (.map kt et)] [Und P kt kd] [Inf P et (.pointer none) 1 b] (KT : KeyT kd kv) {g : Nat} {L : List (κ × Option Addr)} {m ix : Operand} (x : κ) {p : Option Addr} (hp : getA L x = some p) (hR : RdM w g (prV kv Value.pointer L)) (hx : ev e m = .map (some g)) (hy : ev e ix = kv x) (hb : Nat.blt d N = true)
    (hK : Ops P N ops K rest (upd e d (.pointer p)) w) : Ops P N ops K (⟨some d, .lookup t m ix false, ty, pos, af, none⟩ :: rest) e w :=
  .look KT hR hx hy (by rw [hp]; rfl) hb hK
end
abbrev CkP (t : TypeId) (A : Option Addr) (n c : Nat) (ps : List (Option Addr)) : Ck := ⟨A, n, c, t, ps.map Value.pointer⟩
theorem isM_P (ps : List (Option Addr)) : isM (ps.map Value.pointer) = false := isM_all fun v hv => by obtain ⟨_, _, rfl⟩ := List.mem_map.1 hv; rfl
def RdP (w : World) (A : Option Addr) (n : Nat) (ps : List (Option Addr)) : Prop := ps.length = n ∧ Rd w A n fun j => .pointer (ps.getD j none)
theorem St.rdP {w0 w : World} {ks : List Ck} {t : TypeId} {A : Option Addr} {n c : Nat} {ps : List (Option Addr)} (h : St w0 w ks) (i : Nat) (hk : ks[i]? = some (CkP t A n c ps)) : RdP w A n ps := by
 have hl : ps.length = n := by have := (h.getC hk (isM_P ps)).1; simpa [CkP] using this
 refine ⟨hl, (h.rd i hk).congr fun j hj => ?_⟩
 have hj : j < n := hj
 show (ps.map Value.pointer).getD j undef = _
 simp [List.getD_eq_getElem?_getD, List.getElem?_eq_getElem (show j < ps.length by omega)]
theorem map_range_P {ps : List (Option Addr)} {n : Nat} (h : ps.length = n) : ((List.range n).map fun j => Value.pointer (ps.getD j none)) = ps.map Value.pointer := by
 subst h
 apply List.ext_getElem
 ·simp
 ·intro j h1 h2
  have hj : j < ps.length := by simpa using h2
  simp [List.getD_eq_getElem?_getD, List.getElem?_eq_getElem hj]
section
variable {P : Program} {N : Nat} {ops : Array Oper} {K : Env → World → Prop} {rest : List Oper} {e : Env} {w0 w w' : World} {ks : List Ck} {d : Nat} {ty : TypeId} {pos : String} {af : Array Edge}
theorem Ops.appP {t el : TypeId} {z : Value} {b : Nat} [hU : Und P t (.slice el)] [Inf P el z 1 b] {x y : Operand} (i : Nat) {A : Option Addr} {n c : Nat} {ps : List (Option Addr)} {A' : Option Addr} {m c' : Nat} {qs : List (Option Addr)} (hS : St w0 w ks) (hk : ks[i]? = some (CkP el A n c ps)) (hR : RdP w A' m qs) (hx : ev e x = .slice A n c) (hy : ev e y = .slice A' m c') {z0 : Value} (hz : z.cells = #[z0])
    (h63 : n + m ≤ 9223372036854775807) (hbytes : (n + m) * b ≤ 140737488355328) (hb : Nat.blt d N = true)
    (hK : ∀ A2 c2 w', St w0 w' (ks.set i (CkP el A2 (n + m) c2 (ps ++ qs))) → Ops P N ops K rest (upd e d (.slice A2 (n + m) c2)) w') :
    Ops P N ops K (⟨some d, .call ⟨.builtin .append, #[x, y], #[t, t]⟩, ty, pos, af, none⟩ :: rest) e w :=
  .app i hS hk hR.2 hx hy rfl hz (fun _ _ => rfl) (by simpa [maxLen] using h63) hbytes hb (fun A2 c2 w' h => hK A2 c2 w' (by
    rw [map_range_P hR.1] at h
    simpa [CkP] using h)) (isM_P _)
end
/-
 The faces with one element less than facets, walked in the program.
-/
structure RV where
 P : Option Addr
 s : SlV
 x : List Int
 B : Option Addr
 c : Nat
 ns : List Int
def RV.pr (r : RV) : List Int × List Int := (r.x, r.ns)
def RV.bx (r : RV) : Ck := Bx 57 2 r.P [.slice r.s.a r.s.n r.s.c, .slice r.B r.ns.length r.c]
def RV.fa (r : RV) : Ck := CkI 2 r.B r.ns.length r.c r.ns
def RV.ck (r : RV) : List Ck := [r.bx, r.fa]
def RV.row (r : RV) : Ck := CkI 2 r.s.a r.s.n r.s.c r.x
def mpR (rvs : List RV) : List (ByteArray × Option Addr) := rvs.map fun r => (keyB r.x, r.P)
abbrev cksR (A : Option Addr) (c g : Nat) (rvs : List RV) (X : List Ck) : List Ck := CkP 55 A rvs.length c (rvs.map (·.P)) :: CkM 86 g (prV Value.string Value.pointer (mpR rvs)) :: (rvs.flatMap RV.ck ++ X)
theorem getA_mp : ∀ {rvs : List RV} {x : List Int} {p : Option Addr}, getA (mpR rvs) (keyB x) = some p → ∃ pre r post, rvs = pre ++ r :: post ∧ r.x = x ∧ r.P = p
 | [], _, _, h => by cases h
 | r :: rest, x, p, h => by
  unfold mpR at h
  simp only [List.map_cons, getA] at h
  by_cases e : keyB r.x = keyB x
  ·rw [if_pos e] at h
   exact ⟨[], r, rest, rfl, keyB_inj e, Option.some.inj h⟩
  ·rw [if_neg e] at h
   obtain ⟨pre, q, post, h1, h2, h3⟩ := getA_mp (rvs := rest) h
   exact ⟨r :: pre, q, post, by rw [h1]; rfl, h2, h3⟩
theorem getA_mp_none : ∀ {rvs : List RV} {x : List Int}, getA (mpR rvs) (keyB x) = none → ∀ r ∈ rvs, r.x ≠ x
 | [], _, _ => by simp
 | r :: rest, x, h => by
  unfold mpR at h
  simp only [List.map_cons, getA] at h
  by_cases e : keyB r.x = keyB x
  ·rw [if_pos e] at h; cases h
  ·rw [if_neg e] at h
   intro q hq
   rcases List.mem_cons.1 hq with rfl | hq
   ·exact fun h => e (by rw [h])
   ·exact getA_mp_none (rvs := rest) h q hq
theorem getA_mp_at {pre post : List RV} {r : RV} (h : ∀ q ∈ pre, q.x ≠ r.x) : getA (mpR (pre ++ r :: post)) (keyB r.x) = some r.P := by
 induction pre with
 | nil => simp [mpR, getA]
 | cons a t ih =>
  unfold mpR at ih ⊢
  simp only [List.cons_append, List.map_cons, getA]
  rw [if_neg fun e => h a (by simp) (keyB_inj e)]
  exact ih fun q hq => h q (by simp [hq])
theorem putA_mp {rvs : List RV} {r : RV} (h : ∀ q ∈ rvs, q.x ≠ r.x) : putA (mpR rvs) (keyB r.x) r.P = mpR (rvs ++ [r]) := by
 induction rvs with
 | nil => rfl
 | cons a t ih =>
  unfold mpR at ih ⊢
  simp only [List.cons_append, List.map_cons, putA]
  rw [if_neg fun e => h a (by simp) (keyB_inj e), ih fun q hq => h q (by simp [hq])]
theorem perm4 {a b m p : Ck} {U V : List Ck} : (a :: b :: m :: p :: (U ++ V)).Perm (p :: m :: (U ++ (a :: b :: V))) := by
 have h1 : ([a, b] ++ [m, p]).Perm ([p, m] ++ [a, b]) := (List.perm_append_comm (l₁ := [a, b])).trans ((List.Perm.swap p m []).append_right [a, b])
 refine (h1.append_right (U ++ V)).trans ?_
 show (p :: m :: (a :: b :: (U ++ V))).Perm _
 refine List.Perm.cons _ (List.Perm.cons _ ?_)
 refine (List.Perm.cons a (List.perm_middle (a := b) (l₁ := U) (l₂ := V)).symm).trans ?_
 exact (List.perm_middle (a := a) (l₁ := U) (l₂ := b :: V)).symm
theorem rdS_len (R : List (List Int × List Int)) (q : List Int × Int) : (rdS R q).length ≤ R.length + 1 := by
 unfold rdS; split <;> simp
theorem rdF_len : ∀ (n : Nat) (Q : List (List Int × Int)), Q.length = n → (rdF Q).length ≤ n
 | 0, Q, h => by obtain rfl := List.eq_nil_of_length_eq_zero h; simp [rdF]
 | n + 1, Q, h => by
  obtain ⟨Q0, q, rfl⟩ : ∃ Q0 q, Q = Q0 ++ [q] := ⟨Q.dropLast, Q.getLast (fun e => by rw [e] at h; simp at h), (List.dropLast_concat_getLast _).symm⟩
  have := rdF_len n Q0 (by simpa using h)
  have := rdS_len (rdF Q0) q
  rw [rdF_snoc]; omega
theorem sqR_len {F : List (List Int)} (h6 : ∀ f ∈ F, f.length ≤ 6) : ∀ i, i ≤ F.length → (sqR F i).length ≤ 64 * i
 | 0, _ => by simp [sqR]
 | i + 1, h => by
  have h1 := sqR_len h6 i (by omega)
  have h2 := ptsP_small (l := gl F (i : Int)) ((gl F (i : Int)).length - 1) (h6 _ (by rw [gl_mem (by omega)]; exact List.getElem_mem _))
  have e : sqR F (i + 1) = sqR F i ++ (ptsP (gl F (i : Int)) ((gl F (i : Int)).length - 1)).map fun y => (y, (i : Int)) := by
   unfold sqR
   rw [List.range_succ, List.flatMap_append]; simp
  rw [e, List.length_append, List.length_map]; omega
theorem rdF_ns {Q : List (List Int × Int)} {p : List Int × List Int} (h : p ∈ rdF Q) : p.2.length ≤ Q.length := by
 rw [(rdF_inv _ _ rfl).2.2 p h, List.length_map]
 exact List.length_filter_le _ _
theorem rdS_at {pre post : List RV} {r : RV} {i : Int} (h1 : ∀ q ∈ pre, q.x ≠ r.x) (h2 : ∀ q ∈ post, q.x ≠ r.x) : rdS ((pre ++ r :: post).map RV.pr) (r.x, i) = pre.map RV.pr ++ (r.x, r.ns ++ [i]) :: post.map RV.pr := by
 have hk : r.x ∈ ((pre ++ r :: post).map RV.pr).map (·.1) := List.mem_map.2 ⟨r.pr, List.mem_map.2 ⟨r, by simp, rfl⟩, rfl⟩
 have key : ∀ l : List RV, (∀ q ∈ l, q.x ≠ r.x) → (l.map RV.pr).map (fun p => if p.1 = r.x then (p.1, p.2 ++ [i]) else p) = l.map RV.pr := fun l h => by
  rw [List.map_map]
  exact List.map_congr_left fun q hq => if_neg (h q hq)
 unfold rdS
 rw [if_pos hk, List.map_append, List.map_cons, List.map_append, List.map_cons, key pre h1, key post h2]
 congr 2
 exact if_pos rfl
theorem rdS_new {rvs : List RV} {x : List Int} {i : Int} (h : ∀ q ∈ rvs, q.x ≠ x) : rdS (rvs.map RV.pr) (x, i) = rvs.map RV.pr ++ [(x, [i])] := by
 unfold rdS
 rw [if_neg]
 intro hk
 obtain ⟨p, hp, e⟩ := List.mem_map.1 hk
 obtain ⟨r, hr, rfl⟩ := List.mem_map.1 hp
 exact h r hr e
theorem Rd.some_of {w : World} {A : Option Addr} {n : Nat} {f : Nat → Value} (h : Rd w A n f) (hn : 0 < n) : A.isNone = false := by
 obtain ⟨p, hp, _⟩ := h 0 hn
 cases A with
 | none => simp [ptrAt] at hp
 | some q => rfl
def AnsR4 (R : List (List Int × List Int)) (w : World) (v : Value) (w' : World) : Prop := ∃ (A : Option Addr) (c : Nat) (rvs : List RV) (X : List Ck), v = .slice A rvs.length c ∧ rvs.map RV.pr = R ∧ (∀ r ∈ rvs, r.row ∈ X) ∧ St w w' (CkP 55 A rvs.length c (rvs.map (·.P)) :: (rvs.flatMap RV.ck ++ X))
set_option maxHeartbeats 2000000 in
theorem ridges_c (Pc : Option Addr) (V : Int) (A : Option Addr) (n c : Nat) (rs : List SlV) (F : List (List Int)) (w : World) (hT : Tab w) (hP : Rd w Pc 2 (fun j => [Value.int .i64 V, .slice A n c].getD j undef)) (hR : RowsI w A n rs F) (hC : Cplx V F) :
    Ret Tryz.prog 38 [.pointer Pc] w (AnsR4 (rdgs F) w) := by
  have hFl := hR.len
  have hF4 := hC.f
  have hf6 : ∀ f ∈ F, f.length ≤ 6 := fun f hf => (hC.row f hf).1.2
  refine Ret.of_cd Tryz.func38 rfl Tryz.ntmps38 rfl (post1 rfl) (Cd.seq (Cd.region (Ops.ms rfl rfl rfl (Ops.n (tQ (Cd.seq (Cd.region (Ops.ms rfl rfl rfl (Ops.n ?_)))))))))
  refine tQ (Cd.seq (Cd.region (Ops.mkmap (St.refl w) rfl ?_)))
  intro g w1 hS1
  refine Ops.mv_map rfl rfl rfl (Ops.n (tQ (Cd.seq (Cd.seq (Cd.region (Ops.mv_ptr rfl rfl rfl (Ops.nilp (hS1.old hP) (by omega) rfl rfl ?_)))))))
  skip
  refine Ops.fld (hS1.old hP) rfl rfl rfl rfl inferInstance ?_
  skip
  refine Ops.ldf_s (hS1.old hP) rfl rfl rfl rfl rfl (Ops.len rfl rfl (Ops.mi rfl rfl rfl (Ops.n (tQ (Cd.block ?_)))))
  have hS2 : St w w1 (cksR none 0 g [] []) := hS1.nil 55
  refine Cd.loop (α := Nat × (Option Addr × Nat) × List RV × List Ck) (fun z => [(3, .slice z.2.1.1 z.2.2.1.length z.2.1.2), (4, .map (some g)), (14, .slice A n c), (15, .int .i64 (n : Int)), (16, .int .i64 (z.1 : Int))])
    (fun z w' => z.1 ≤ n ∧ z.2.2.1.map RV.pr = rdF (sqR F z.1) ∧ (∀ r ∈ z.2.2.1, r.row ∈ z.2.2.2) ∧ St w w' (cksR z.2.1.1 z.2.1.2 g z.2.2.1 z.2.2.2)) (fun z => n - z.1) (0, (none, 0), [], []) ⟨rfl, rfl, rfl, rfl, rfl, trivial⟩ ⟨Nat.zero_le _, rfl, (fun _ h => by cases h), hS2⟩ ?_
  clear hS2 hS1
  rintro ⟨i, ⟨A3, c3⟩, rvs, X⟩ e w2 ⟨hi, hpr, hrow, hS⟩
  dsimp only at hi hpr hrow hS ⊢
  refine Cd.seq (Cd.region (Ops.lss rfl rfl rfl (Ops.n (tQ (Cd.seq ?_)))))
  refine Cd.cond_p _ rfl (fun h1 => ?_) (fun h1 => ?_)
  · have hiF : i < F.length := by omega
    have hM := hS.oldRows hR
    have hr0 := hM.at_ (i := (i : Int)) (by omega) (by omega)
    have hcap := hM.cap_ (i := (i : Int)) (by omega) (by omega)
    have hrl := hr0.1
    have hfr := hC.at_ hiF
    refine Cd.skip (tQ (Cd.seq (Cd.block (Cd.seq (Cd.region (Ops.mi rfl rfl rfl (Ops.idx hM.top.2 rfl rfl rfl (by omega) (by omega) (Ops.ld_sl hM.top rfl (by omega) rfl rfl (Ops.mi rfl rfl rfl ?_)))))))))
    refine Ops.ms rfl rfl rfl (Ops.n (tQ (Cd.seq (Cd.region (Ops.ms rfl rfl rfl (Ops.ms rfl rfl rfl (Ops.call (sizeI_c _ _ _ _) rfl rfl rfl ?_)))))))
    rintro _ w2 ⟨rfl, rfl⟩
    refine Ops.sub rfl rfl rfl (by omega) ?_
    refine Ops.call (partsOf_c ((gl F (i : Int)).length - 1) _ _ _ (gl F (i : Int)) _ hr0 hcap.1 (by omega) (by omega)) rfl (by show [_, Value.int .i64 (((rg rs (i : Int)).n : Int) - 1)] = _; congr 3; omega) rfl ?_
    rintro _ w3 ⟨A25, c25, rs25, rfl, hrl25, hT3⟩
    have hN6 : ∀ x ∈ ptsP (gl F (i : Int)) ((gl F (i : Int)).length - 1), x.length ≤ 6 ∧ ∀ y ∈ x, -9223372036854775808 ≤ y ∧ y ≤ 9223372036854775807 := fun x hx => by
      have h1 := (ptsP_mem.1 hx).1
      have h2 := h1.length_le
      exact ⟨by omega, fun y hy => by have := hfr.2.2 y (h1.subset hy); have := hC.v; omega⟩
    have hNl := ptsP_small (l := gl F (i : Int)) ((gl F (i : Int)).length - 1) hfr.1.2
    have hsl := sqR_len hf6 i (by omega)
    have hj0 := sqJ_zero F i
    have hjn := sqJ_all F i
    have hjs := fun j => sqJ_succ (F := F) (i := i) (j := j)
    have hjl : ∀ j, (sqJ F i j).length ≤ 64 * i + 64 := fun j => by
      unfold sqJ
      rw [List.length_append, List.length_map, List.length_take]; omega
    rw [← hj0] at hpr
    generalize hN : ptsP (gl F (i : Int)) ((gl F (i : Int)).length - 1) = N at *
    have hS3 : St w w3 (cksR A3 c3 g rvs (X ++ (CkR 28 A25 N.length c25 rs25 :: rowsCk 2 rs25 N))) := by
      have h := hS.call2 hT3
      rw [List.append_nil] at h
      unfold cksR at h ⊢
      rw [← List.append_assoc]
      exact h
    have hin : ∀ k ∈ CkR 28 A25 N.length c25 rs25 :: rowsCk 2 rs25 N, k ∈ X ++ (CkR 28 A25 N.length c25 rs25 :: rowsCk 2 rs25 N) := fun k hk => List.mem_append_right _ hk
    have hrow3 : ∀ r ∈ rvs, r.row ∈ X ++ (CkR 28 A25 N.length c25 rs25 :: rowsCk 2 rs25 N) := fun r hr => List.mem_append_left _ (hrow r hr)
    generalize hX : X ++ (CkR 28 A25 N.length c25 rs25 :: rowsCk 2 rs25 N) = Y at *
    clear hS hrow hT3 hM hr0
    refine Ops.len rfl rfl (Ops.mi rfl rfl rfl (Ops.n (tQ (Cd.block ?_))))
    refine Cd.loop (α := Nat × (Option Addr × Nat) × List RV) (fun z => [(3, .slice z.2.1.1 z.2.2.length z.2.1.2), (4, .map (some g)), (5, .int .i64 (i : Int)), (14, .slice A n c), (15, .int .i64 (n : Int)), (16, .int .i64 (i : Int)), (25, .slice A25 N.length c25), (26, .int .i64 (N.length : Int)), (27, .int .i64 (z.1 : Int))])
      (fun z w' => z.1 ≤ N.length ∧ z.2.2.map RV.pr = rdF (sqJ F i z.1) ∧ (∀ r ∈ z.2.2, r.row ∈ Y) ∧ St w w' (cksR z.2.1.1 z.2.1.2 g z.2.2 Y)) (fun z => N.length - z.1) (0, (A3, c3), rvs) ⟨rfl, rfl, rfl, rfl, rfl, rfl, rfl, rfl, rfl, trivial⟩ ⟨Nat.zero_le _, hpr, hrow3, hS3⟩ ?_
    clear hS3 hrow3 hpr
    rintro ⟨j, ⟨A3, c3⟩, rvs⟩ e w4 ⟨hj, hpr, hrow, hS⟩
    dsimp only at hj hpr hrow hS ⊢
    refine Cd.seq (Cd.region (Ops.lss rfl rfl rfl (Ops.n (tQ (Cd.seq ?_)))))
    refine Cd.cond_p _ rfl (fun h2 => ?_) (fun h2 => ?_)
    · have hjN : j < N.length := by omega
      have hY : ∀ k ∈ Y, ∃ q, (cksR A3 c3 g rvs Y)[q]? = some k := fun k hk => List.mem_iff_getElem?.1 (List.mem_cons_of_mem _ (List.mem_cons_of_mem _ (List.mem_append_right _ hk)))
      obtain ⟨q0, hq0⟩ := hY _ (hin _ (List.mem_cons_self))
      have hR25 : RdR w4 A25 N.length rs25 := hS.rdR q0 hq0
      have hrowj : CkI 2 (rg rs25 (j : Int)).a (rg rs25 (j : Int)).n (rg rs25 (j : Int)).c (gl N (j : Int)) ∈ Y := hin _ (List.mem_cons_of_mem _ (List.mem_iff_getElem?.2 ⟨j, rowsCk_get hrl25 (by omega)⟩))
      obtain ⟨q1, hq1⟩ := hY _ hrowj
      have hface : RdI w4 (rg rs25 (j : Int)).a (rg rs25 (j : Int)).n (gl N (j : Int)) := hS.rdI q1 hq1
      have hx6 := hN6 (gl N (j : Int)) (by rw [gl_mem hjN]; exact List.getElem_mem _)
      have hfl := hface.1
      have hsucc := hjs j hjN
      have hrvl : rvs.length ≤ 64 * i + 64 := by
        have h3 := rdF_len _ (sqJ F i j) rfl
        have h4 := congrArg List.length hpr
        rw [List.length_map] at h4
        have := hjl j
        omega
      have hnsl : ∀ r ∈ rvs, r.ns.length ≤ 64 * i + 64 := fun r hr => by
        have h3 := rdF_ns (Q := sqJ F i j) (p := r.pr) (by rw [← hpr]; exact List.mem_map.2 ⟨r, hr, rfl⟩)
        have := hjl j
        have e : r.pr.2 = r.ns := rfl
        rw [e] at h3
        omega
      have hnd : (rvs.map (·.x)).Nodup := by
        have h3 := (rdF_inv _ (sqJ F i j) rfl).1
        rw [← hpr, List.map_map] at h3
        exact h3
      have hnext : rdF (sqJ F i (j + 1)) = rdS (rvs.map RV.pr) (gl N (j : Int), (i : Int)) := by rw [hsucc, rdF_snoc, hpr]
      generalize gl N (j : Int) = x at *
      refine Cd.skip (tQ (Cd.seq (Cd.block (Cd.seq (Cd.region (Ops.idx hR25.2 rfl rfl rfl (by omega) (by omega) (Ops.ld_sl hR25 rfl (by omega) rfl rfl (Ops.ms rfl rfl rfl (Ops.n ?_)))))))))
      refine tQ (Cd.seq (Cd.region (Ops.ms rfl rfl rfl (Ops.call (keyOf_c _ _ _ x _ (hT.later hS.below) hface hx6.2 (by omega)) rfl rfl rfl ?_))))
      rintro _ w5 ⟨rfl, hst⟩
      have hS5 := hS.later hst.below
      clear hS hR25 hface hst
      refine Ops.mv_str rfl rfl rfl (Ops.n (tQ ?_))
      refine Cd.join (α := (Option Addr × Nat) × List RV × RV × List RV) (fun z => [(3, .slice z.1.1 (z.2.1 ++ z.2.2.1 :: z.2.2.2).length z.1.2), (4, .map (some g)), (5, .int .i64 (i : Int)), (9, .string (keyB x)), (14, .slice A n c), (15, .int .i64 (n : Int)), (16, .int .i64 (i : Int)), (25, .slice A25 N.length c25), (26, .int .i64 (N.length : Int)), (27, .int .i64 (j : Int))])
        (fun z w' => z.2.2.1.x = x ∧ z.2.2.1.ns.length ≤ 64 * i + 64 ∧ (∀ r ∈ z.2.1 ++ z.2.2.1 :: z.2.2.2, r.row ∈ Y) ∧ (∀ q ∈ z.2.1, q.x ≠ x) ∧ z.2.1.map RV.pr ++ (x, z.2.2.1.ns ++ [(i : Int)]) :: z.2.2.2.map RV.pr = rdF (sqJ F i (j + 1)) ∧ St w w' (cksR z.1.1 z.1.2 g (z.2.1 ++ z.2.2.1 :: z.2.2.2) Y)) ?_ ?_
      · refine Cd.seq (Cd.region (Ops.mv_map rfl rfl rfl (Ops.mv_str rfl rfl rfl (Ops.lookP keyS (keyB x) (hS5.rdM 1 rfl) rfl rfl rfl (Ops.eqNilP rfl rfl rfl (Ops.n (tQ ?_)))))))
        cases hg : getA (mpR rvs) (keyB x) with
        | none => --dup 2
          have hnew := getA_mp_none hg
          refine Cd.cond_t rfl (Cd.seq (Cd.region (Ops.mv_map rfl rfl rfl (Ops.mv_str rfl rfl rfl (Ops.ms rfl rfl rfl (Ops.bldF2 (by exact inferInstance) (by exact inferInstance) rfl rfl rfl rfl rfl (Ops.box2 hS5 rfl rfl ?_)))))))
          intro P w6 hS6
          refine Ops.upm rfl keyS 2 (u := P) (a := keyB x) hS6 rfl rfl rfl rfl ?_
          intro w7 hS7
          have hput : putA (mpR rvs) (keyB x) P = mpR (rvs ++ [⟨P, rg rs25 (j : Int), x, none, 0, []⟩]) := putA_mp (r := ⟨P, rg rs25 (j : Int), x, none, 0, []⟩) hnew
          have hgt : getA (putA (mpR rvs) (keyB x) P) (keyB x) = some P := by rw [getA_put, if_pos rfl]
          refine Ops.n (tQ (Cd.region (Ops.ms rfl rfl rfl (Ops.mv_map rfl rfl rfl (Ops.mv_str rfl rfl rfl (Ops.lookP' keyS (keyB x) hgt (hS7.rdM 2 rfl) rfl rfl rfl (Ops.bs1 hS7 rfl rfl rfl rfl ?_)))))))
          intro A46 w8 hS8
          have hP8 : RdP w8 A46 1 [P] := St.rdP (show St w w8 (CkP 55 A46 1 1 [P] :: _) from hS8) 0 rfl
          refine Ops.appP 2 hS8 rfl hP8 rfl rfl rfl (by omega) (by omega) rfl ?_
          intro A47 c47 w9 hS9
          refine Ops.ms rfl rfl rfl (Ops.n (tQ ?_))
          refine ⟨((A47, c47), rvs, ⟨P, rg rs25 (j : Int), x, none, 0, []⟩, []), ⟨by show Value.slice A47 (rvs.length + 1) c47 = .slice A47 (rvs ++ [_]).length c47; simp, rfl, rfl, rfl, rfl, rfl, rfl, rfl, rfl, rfl, trivial⟩, rfl, Nat.zero_le _, fun r hr => ?_, hnew, by show rvs.map RV.pr ++ [(x, [] ++ [(i : Int)])] = _; rw [hnext, rdS_new hnew]; rfl, ?_⟩
          · rcases List.mem_append.1 hr with hr | hr
            · exact hrow r hr
            · obtain rfl : r = ⟨P, rg rs25 (j : Int), x, none, 0, []⟩ := by simpa using hr
              exact hrowj
          · have h9 := (St.tail hS9).nil 2
            show St w w9 (CkP 55 A47 (rvs ++ [(⟨P, rg rs25 (j : Int), x, none, 0, []⟩ : RV)]).length c47 ((rvs ++ [(⟨P, rg rs25 (j : Int), x, none, 0, []⟩ : RV)]).map (·.P)) :: CkM 86 g (prV Value.string Value.pointer (mpR (rvs ++ [(⟨P, rg rs25 (j : Int), x, none, 0, []⟩ : RV)]))) :: ((rvs ++ [(⟨P, rg rs25 (j : Int), x, none, 0, []⟩ : RV)]).flatMap RV.ck ++ Y))
            rw [← hput, List.length_append, List.map_append, List.flatMap_append, List.append_assoc]
            exact h9.perm ((List.Perm.swap _ _ _).trans (((List.Perm.swap _ _ _).cons _).cons _) |>.trans perm4)
        | some p =>
          obtain ⟨pre, r, post, rfl, hrx, hrP⟩ := getA_mp hg
          have hrm : r ∈ pre ++ r :: post := by simp
          obtain ⟨q, hq⟩ := List.mem_iff_getElem?.1 (show r.bx ∈ cksR A3 c3 g (pre ++ r :: post) Y from List.mem_cons_of_mem _ (List.mem_cons_of_mem _ (List.mem_append_left _ (List.mem_flatMap.2 ⟨r, hrm, by simp [RV.ck]⟩))))
          have hpn : p.isNone = false := by rw [← hrP]; exact Rd.some_of (hS5.rd q hq) (by show 0 < 2; omega)
          have hnp : (∀ a ∈ pre, a.x ≠ r.x) ∧ ∀ a ∈ post, a.x ≠ r.x := by
            rw [List.map_append, List.map_cons, List.nodup_append, List.nodup_cons] at hnd
            exact ⟨fun a ha h => hnd.2.2 a.x (List.mem_map.2 ⟨a, ha, rfl⟩) r.x (by simp) h, fun a ha h => hnd.2.1.1 (by rw [← h]; exact List.mem_map.2 ⟨a, ha, rfl⟩)⟩
          refine Cd.cond_f (by show Value.bool p.isNone = .bool false; rw [hpn]) ?_
          refine Cd.skip (tQ ?_)
          exact ⟨((A3, c3), pre, r, post), ⟨rfl, rfl, rfl, rfl, rfl, rfl, rfl, rfl, rfl, rfl, trivial⟩, hrx, hnsl r hrm, hrow, fun a ha => by rw [← hrx]; exact hnp.1 a ha, by show pre.map RV.pr ++ (x, r.ns ++ [(i : Int)]) :: post.map RV.pr = _; rw [hnext, ← hrx]; exact (rdS_at hnp.1 hnp.2).symm, hS5⟩
      clear hS5 hnsl hrvl hnd hnext hpr hrow
      rintro ⟨⟨A3, c3⟩, pre, r, post⟩ e w6 ⟨hrx, hnl, hrow, hpre, hpr, hS6⟩
      dsimp only at hrx hnl hrow hpre hpr hS6 ⊢
      have hget : getA (mpR (pre ++ r :: post)) (keyB x) = some r.P := by rw [← hrx]; exact getA_mp_at fun q hq => by rw [hrx]; exact hpre q hq
      have hB : St w w6 (r.bx :: r.fa :: CkM 86 g (prV Value.string Value.pointer (mpR (pre ++ r :: post))) :: CkP 55 A3 (pre ++ r :: post).length c3 ((pre ++ r :: post).map (·.P)) :: (pre.flatMap RV.ck ++ (post.flatMap RV.ck ++ Y))) := by
        refine hS6.perm ?_
        show (CkP _ _ _ _ _ :: CkM _ _ _ :: ((pre ++ r :: post).flatMap RV.ck ++ Y)).Perm _
        rw [List.flatMap_append, List.flatMap_cons, List.append_assoc, List.append_assoc]
        exact perm4.symm
      clear hS6
      skip
      refine Cd.drawN [11, 14] [.ex (.map (some g)), .ex (.string (keyB x)), .ex (.pointer (r.P)), .ex (.map (some g)), .ex (.string (keyB x)), .ex (.pointer (r.P)), .ex (.pointer (r.P)), .ex (.pointer (ptrAt r.P 1)), .ex (.slice (r.B) (r.ns.length) (r.c)), .ex (.int .i64 ((i : Int))), .pr (fun v w' => ∃ A9, v = .slice A9 1 1 ∧ RdI w' A9 1 [(i : Int)]), .pr (fun v w' => ∃ A5 c5, v = .slice A5 (r.ns.length + 1) c5 ∧ St w w' (r.bx :: CkI 2 A5 (r.ns.length + 1) c5 (r.ns ++ [(i : Int)]) :: CkM 86 g (prV Value.string Value.pointer (mpR (pre ++ r :: post))) :: CkP 55 A3 (pre ++ r :: post).length c3 ((pre ++ r :: post).map (·.P)) :: (pre.flatMap RV.ck ++ (post.flatMap RV.ck ++ Y)))), .ex (.pointer (r.P)), .ex (.pointer (ptrAt r.P 1)), .pr (fun _ w' => ∃ A5 c5, St w w' (Bx 57 2 r.P [.slice r.s.a r.s.n r.s.c, .slice A5 (r.ns.length + 1) c5] :: CkI 2 A5 (r.ns.length + 1) c5 (r.ns ++ [(i : Int)]) :: CkM 86 g (prV Value.string Value.pointer (mpR (pre ++ r :: post))) :: CkP 55 A3 (pre ++ r :: post).length c3 ((pre ++ r :: post).map (·.P)) :: (pre.flatMap RV.ck ++ (post.flatMap RV.ck ++ Y))))] (by kernel_rfl) (by kernel_rfl) (lx (lx (lx (lx (lx (lx (lx (lx (lx (lx (List.forall_mem_cons.2 ⟨Yd.lasts_pr (fun v w w' h hb => by obtain ⟨A9, hv, hT⟩ := h; exact ⟨A9, hv, hT.later hb⟩), (List.forall_mem_cons.2 ⟨Yd.lasts_pr (fun v w w' h hb => by obtain ⟨A5, c5, hv, hT⟩ := h; exact ⟨A5, c5, hv, hT.later hb⟩), (lx (lx (List.forall_mem_cons.2 ⟨Yd.lasts_pr (fun v w w' h hb => by obtain ⟨A5, c5, hT⟩ := h; exact ⟨A5, c5, hT.later hb⟩), (fun _ h => by cases h)⟩)))⟩)⟩))))))))))) ⟨?_, ?_, ?_, ?_, ?_, ?_, ?_, ?_, ?_, ?_, ?_, ?_, ?_, ?_, ?_, trivial⟩ ?_
      · intro e1 w1 cc hlo hhi hb0 hp hun hq
        show Ops _ _ _ _ _ _ _
        refine Ops.mv_map rfl rfl rfl (Ops.n (n0 rfl (by exact rfl)))
      · intro e1 w1 cc hlo hhi hb0 hp hun hq
        show Ops _ _ _ _ _ _ _
        refine Ops.mv_str rfl rfl rfl (Ops.n (n0 rfl (by exact rfl)))
      · intro e1 w1 cc hlo hhi hb0 hp hun hq
        show Ops _ _ _ _ _ _ _
        have hX : RdM w1 g (prV Value.string Value.pointer (mpR (pre ++ r :: post))) := by { have hhi := le_of_hi hhi (b := 1) (by kernel_rfl); rcases (show cc = 0 ∨ cc = 1 by omega) with h | h; { exact (hB.later (hb0 h)).rdM 2 rfl }; { subst h; obtain ⟨A5, c5, _, hT⟩ := hq 11 _ _ (by kernel_rfl) (by kernel_rfl) (by kernel_rfl) rfl rfl (by kernel_rfl); exact hT.rdM 2 rfl } }
        refine Ops.lookP' keyS (keyB x) hget hX rfl rfl rfl (Ops.n (n0 rfl (by exact rfl)))
      · intro e1 w1 cc hlo hhi hb0 hp hun hq
        show Ops _ _ _ _ _ _ _
        refine Ops.mv_map rfl rfl rfl (Ops.n (n0 rfl (by exact rfl)))
      · intro e1 w1 cc hlo hhi hb0 hp hun hq
        show Ops _ _ _ _ _ _ _
        refine Ops.mv_str rfl rfl rfl (Ops.n (n0 rfl (by exact rfl)))
      · intro e1 w1 cc hlo hhi hb0 hp hun hq
        show Ops _ _ _ _ _ _ _
        obtain rfl := cc_of hlo hhi (b := 0) (by kernel_rfl) (by kernel_rfl)
        have hb := hb0 rfl
        refine Ops.lookP' keyS (keyB x) hget ((hB.later hb).rdM 2 rfl) rfl rfl rfl (Ops.n (n0 rfl (by exact rfl)))
      · intro e1 w1 cc hlo hhi hb0 hp hun hq
        show Ops _ _ _ _ _ _ _
        obtain rfl := cc_of hlo hhi (b := 0) (by kernel_rfl) (by kernel_rfl)
        have hb := hb0 rfl
        refine Ops.nilp ((hB.later hb).rd 0 rfl) (Nat.succ_pos _) rfl rfl (Ops.n (n0 rfl (by exact rfl)))
      · intro e1 w1 cc hlo hhi hb0 hp hun hq
        show Ops _ _ _ _ _ _ _
        obtain rfl := cc_of hlo hhi (b := 0) (by kernel_rfl) (by kernel_rfl)
        have hb := hb0 rfl
        refine Ops.fld ((hB.later hb).rd 0 rfl) rfl rfl rfl rfl inferInstance (Ops.n (n0 rfl (by exact rfl)))
      · intro e1 w1 cc hlo hhi hb0 hp hun hq
        show Ops _ _ _ _ _ _ _
        obtain rfl := cc_of hlo hhi (b := 0) (by kernel_rfl) (by kernel_rfl)
        have hb := hb0 rfl
        refine Ops.ldf_s ((hB.later hb).rd 0 rfl) rfl rfl rfl rfl rfl (Ops.n (n0 rfl (by exact rfl)))
      · intro e1 w1 cc hlo hhi hb0 hp hun hq
        show Ops _ _ _ _ _ _ _
        refine Ops.mi rfl rfl rfl (Ops.n (n0 rfl (by exact rfl)))
      · intro e1 w1 cc hlo hhi hb0 hp hun hq
        show Ops _ _ _ _ _ _ _
        refine Ops.bs1I (St.refl _) rfl rfl rfl ?_
        intro A9 w9 hst
        refine Ops.n ?_
        exact AfterN.dn rfl hst.below ⟨A9, rfl, hst.rdI 0 rfl⟩
      · intro e1 w1 cc hlo hhi hb0 hp hun hq
        show Ops _ _ _ _ _ _ _
        obtain rfl := cc_of hlo hhi (b := 0) (by kernel_rfl) (by kernel_rfl)
        have hb := hb0 rfl
        obtain ⟨A9, h58, hT2⟩ := (hp 10 _ _ (by kernel_rfl) rfl rfl (by kernel_rfl))
        refine Ops.appI 1 (hB.later hb) rfl hT2 rfl (by exact h58) rfl (by omega) (by omega) rfl ?_
        intro A5 c5 w10 hT10
        refine Ops.n ?_
        exact AfterT.dn rfl ⟨A5, c5, rfl, hT10⟩
      · intro e1 w1 cc hlo hhi hb0 hp hun hq
        show Ops _ _ _ _ _ _ _
        obtain rfl := cc_of hlo hhi (b := 1) (by kernel_rfl) (by kernel_rfl)
        have hph := hp 11 _ _ (by kernel_rfl) rfl rfl (by kernel_rfl)
        obtain ⟨A5, c5, _, hT⟩ := hph
        refine Ops.nilp (hT.rd 0 rfl) (Nat.succ_pos _) rfl rfl (Ops.n (n0 rfl (by exact rfl)))
      · intro e1 w1 cc hlo hhi hb0 hp hun hq
        show Ops _ _ _ _ _ _ _
        obtain rfl := cc_of hlo hhi (b := 1) (by kernel_rfl) (by kernel_rfl)
        have hph := hp 11 _ _ (by kernel_rfl) rfl rfl (by kernel_rfl)
        obtain ⟨A5, c5, _, hT⟩ := hph
        refine Ops.fld (hT.rd 0 rfl) rfl rfl rfl rfl inferInstance (Ops.n (n0 rfl (by exact rfl)))
      · intro e1 w1 cc hlo hhi hb0 hp hun hq
        show Ops _ _ _ _ _ _ _
        obtain rfl := cc_of hlo hhi (b := 1) (by kernel_rfl) (by kernel_rfl)
        have hph := hp 11 _ _ (by kernel_rfl) rfl rfl (by kernel_rfl)
        obtain ⟨A5, c5, h59, hT⟩ := (hp 11 _ _ (by kernel_rfl) rfl rfl (by kernel_rfl))
        refine Ops.stf 0 hT rfl rfl (by exact h59) rfl rfl ?_
        intro w9 hS9
        refine Ops.n ?_
        exact AfterT.st rfl ⟨A5, c5, hS9⟩
      intro u w7 _ hu
      obtain ⟨A5, c5, hT⟩ := hu 14 _ rfl (by kernel_rfl)
      have hln : (r.ns ++ [(i : Int)]).length = r.ns.length + 1 := by simp
      refine blockQ_n (tQ (Cd.region (Ops.add rfl rfl rfl (by omega) (Ops.mi rfl rfl rfl (Ops.n (tQ ?_))))))
      refine ⟨(j + 1, (A3, c3), pre ++ ⟨r.P, r.s, r.x, A5, c5, r.ns ++ [(i : Int)]⟩ :: post), by show N.length - (j + 1) < N.length - j; omega, ⟨by show Value.slice A3 (pre ++ r :: post).length c3 = .slice A3 (pre ++ _ :: post).length c3; simp, rfl, rfl, rfl, rfl, rfl, rfl, rfl, rfl, trivial⟩, by show j + 1 ≤ N.length; omega, ?_, fun q hq => ?_, ?_⟩
      · show (pre ++ _ :: post).map RV.pr = _
        rw [List.map_append, List.map_cons, ← hpr, ← hrx]; rfl
      · rcases List.mem_append.1 hq with hq | hq
        · exact hrow q (List.mem_append_left _ hq)
        · rcases List.mem_cons.1 hq with rfl | hq
          · exact hrow r (by simp)
          · exact hrow q (List.mem_append_right _ (List.mem_cons_of_mem _ hq))
      · have e1 : mpR (pre ++ r :: post) = mpR (pre ++ (⟨r.P, r.s, r.x, A5, c5, r.ns ++ [(i : Int)]⟩ : RV) :: post) := by simp [mpR]
        have e2 : (pre ++ r :: post).map (·.P) = (pre ++ (⟨r.P, r.s, r.x, A5, c5, r.ns ++ [(i : Int)]⟩ : RV) :: post).map (·.P) := by simp
        have e3 : (pre ++ r :: post).length = (pre ++ (⟨r.P, r.s, r.x, A5, c5, r.ns ++ [(i : Int)]⟩ : RV) :: post).length := by simp
        rw [e1, e2, e3, ← hln] at hT
        show St w w7 (CkP _ _ _ _ _ :: CkM _ _ _ :: ((pre ++ (⟨r.P, r.s, r.x, A5, c5, r.ns ++ [(i : Int)]⟩ : RV) :: post).flatMap RV.ck ++ Y))
        rw [List.flatMap_append, List.flatMap_cons, List.append_assoc, List.append_assoc]
        exact hT.perm perm4
    · have hje : j = N.length := by omega
      rw [hje, hjn] at hpr
      refine Cd.exit (thenQ_x (thenQ_x (blockQ_x (blockQ_n (tQ (Cd.region (Ops.add rfl rfl rfl (by omega) (Ops.mi rfl rfl rfl (Ops.n ?_)))))))))
      refine tQ ?_
      exact ⟨(i + 1, (A3, c3), rvs, Y), by show n - (i + 1) < n - i; omega, ⟨rfl, rfl, rfl, rfl, rfl, trivial⟩, by show i + 1 ≤ n; omega, hpr, hrow, hS⟩
  · have hin : i = F.length := by omega
    rw [hin] at hpr
    refine Cd.exit (thenQ_x (thenQ_x (blockQ_x (tQ (Cd.seq (Cd.region (Ops.ms rfl rfl rfl (Ops.ms rfl rfl rfl (Ops.n ?_)))))))))
    refine tQ (Cd.ret (ret1_s rfl ?_))
    exact ⟨A3, c3, rvs, X, rfl, hpr, hrow, hS.sub (List.Sublist.cons_cons _ (List.sublist_cons_self _ _))⟩
end Go.Proofs.YtiblelgfkakmiaaGreatDoor.Vc
