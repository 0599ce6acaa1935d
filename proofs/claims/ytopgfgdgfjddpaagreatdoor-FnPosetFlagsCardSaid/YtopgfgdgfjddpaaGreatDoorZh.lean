/-
  The texts Pt6, Pt7, Bit, Pt8, Pt9, Pt5, Pu1, Qc1, Ts1, Ts2, Po9, Pv1, Pv2, Pw1, Pv3, Anx, Ts3, Ps1, Ps2, Ps3, Pv4, Qc3, Qc7, Pw2, Pw3, Lst, F3, Iso, Cmp, Qc2, Qc8, F5, Lf, Frg in one. Conditions: as each part states them.
-/
import Derived.Test.YtopgfgdgfjddpaaGreatDoorZg
import Derived.Test.YtopgfgdgfjddpaaGreatDoorZf
import Derived.Test.YtopgfgdgfjddpaaGreatDoorZe
import Derived.Test.YtopgfgdgfjddpaaGreatDoorZb
import Derived.Test.YtopgfgdgfjddpaaGreatDoorZc
/-
 The reference's lists of flags beside one another, walked.
-/
namespace Go.Proofs.YtopgfgdgfjddpaaGreatDoor.Vc
open Go.RowKit
def cubR (N : Nat) : List SlV → List (List SlV) → List (List (List Int)) → List Ck
 | o :: os, r :: rss, X :: Xs => mat 32 2 o.a N o.c r X ++ cubR N os rss Xs
 | _, _, _ => []
theorem cub_take (N : Nat) : ∀ {os : List SlV} {rss : List (List SlV)} {Xs : List (List (List Int))} {i : Nat}, i < os.length → rss.length = os.length → Xs.length = os.length →
    (cubR N os rss Xs).Perm (mat 32 2 (os.getD i slNil).a N (os.getD i slNil).c (rss.getD i []) (Xs.getD i []) ++ cubR N (os.eraseIdx i) (rss.eraseIdx i) (Xs.eraseIdx i))
  | o :: os, r :: rss, X :: Xs, 0, _, _, _ => List.Perm.refl _
  | o :: os, r :: rss, X :: Xs, i + 1, h, h1, h2 => by
    have ih := cub_take N (os := os) (rss := rss) (Xs := Xs) (i := i) (by simpa using h) (by simpa using h1) (by simpa using h2)
    simp only [List.getD_cons_succ, List.eraseIdx_cons_succ, cubR]
    refine (ih.append_left _).trans ?_
    rw [← List.append_assoc, ← List.append_assoc]
    exact List.perm_append_comm.append_right _
  | [], _, _, _, h, _, _ => absurd h (Nat.not_lt_zero _)
  | _ :: _, [], _, _, _, h, _ => by simp at h
  | _ :: _, _ :: _, [], _, _, _, h => by simp at h
theorem er_set {α : Type} (x : α) : ∀ (l : List α) (i : Nat), (l.set i x).eraseIdx i = l.eraseIdx i
 | [], _ => rfl
 | _ :: _, 0 => rfl
 | a :: r, i + 1 => by simp only [List.set_cons_succ, List.eraseIdx_cons_succ, er_set x r i]
theorem cub_put (N : Nat) {os : List SlV} {rss : List (List SlV)} {Xs : List (List (List Int))} {i : Nat} (r : List SlV) (X : List (List Int)) (h : i < os.length) (h1 : rss.length = os.length) (h2 : Xs.length = os.length) : (mat 32 2 (os.getD i slNil).a N (os.getD i slNil).c r X ++ cubR N (os.eraseIdx i) (rss.eraseIdx i) (Xs.eraseIdx i)).Perm (cubR N os (rss.set i r) (Xs.set i X)) := by
 have h9 := (cub_take N (os := os) (rss := rss.set i r) (Xs := Xs.set i X) (i := i) h (by rw [List.length_set]; exact h1) (by rw [List.length_set]; exact h2)).symm
 rw [er_set, er_set] at h9
 have e1 : (rss.set i r).getD i [] = r := by rw [List.getD_eq_getElem?_getD, List.getElem?_set_self (by omega)]; rfl
 have e2 : (Xs.set i X).getD i [] = X := by rw [List.getD_eq_getElem?_getD, List.getElem?_set_self (by omega)]; rfl
 rwa [e1, e2] at h9
theorem cub_snoc (N : Nat) : ∀ {os : List SlV} {rss : List (List SlV)} {Xs : List (List (List Int))} (o : SlV) (r : List SlV) (X : List (List Int)), rss.length = os.length → Xs.length = os.length → cubR N (os ++ [o]) (rss ++ [r]) (Xs ++ [X]) = cubR N os rss Xs ++ mat 32 2 o.a N o.c r X
 | [], [], [], o, r, X, _, _ => by simp [cubR]
 | a :: os, b :: rss, c :: Xs, o, r, X, h, h' => by
  simp only [List.cons_append, cubR, cub_snoc N (os := os) (rss := rss) (Xs := Xs) o r X (by simpa using h) (by simpa using h'), List.append_assoc]
 | [], _ :: _, _, _, _, _, h, _ => by simp at h
 | [], [], _ :: _, _, _, _, _, h => by simp at h
 | _ :: _, [], _, _, _, _, h, _ => by simp at h
 | _ :: _, _ :: _, [], _, _, _, _, h => by simp at h
open Classical in
noncomputable def nbE (n : Nat) (fl : List (List Int)) (i a m : Nat) : List Int := ((List.range m).filter fun b => decide (AdjP n fl i a b ∧ b ≠ a)).map fun b : Nat => (b : Int)
theorem nbE_all (n : Nat) (fl : List (List Int)) (i a : Nat) : nbE n fl i a fl.length = nbsP n fl i a := rfl
theorem nbE_yes {n : Nat} {fl : List (List Int)} {i a m : Nat} (h : AdjP n fl i a m ∧ m ≠ a) : nbE n fl i a (m + 1) = nbE n fl i a m ++ [(m : Int)] := by
 unfold nbE
 rw [List.range_succ, List.filter_append, List.map_append]
 rw [List.filter_cons_of_pos (by simpa using h)]; rfl
theorem nbE_no {n : Nat} {fl : List (List Int)} {i a m : Nat} (h : ¬ (AdjP n fl i a m ∧ m ≠ a)) : nbE n fl i a (m + 1) = nbE n fl i a m := by
 unfold nbE
 rw [List.range_succ, List.filter_append, List.map_append]
 rw [List.filter_cons_of_neg (by simpa using h)]; simp
theorem nbE_len (n : Nat) (fl : List (List Int)) (i a m : Nat) : (nbE n fl i a m).length ≤ m := by
 unfold nbE
 rw [List.length_map]
 refine Nat.le_trans (List.length_filter_le _ _) ?_
 rw [List.length_range]; exact Nat.le_refl _
theorem dfN_one {n : Nat} {fl : List (List Int)} (hnd : fl.Nodup) (hl : ∀ x ∈ fl, x.length = n) {a b i : Nat} (ha : a < fl.length) (hb : b < fl.length) (hi : i < n) : (dfN (gl fl (a : Int)) (gl fl (b : Int)) n = 1 ∧ gi (gl fl (a : Int)) (i : Int) ≠ gi (gl fl (b : Int)) (i : Int)) ↔ (AdjP n fl i a b ∧ b ≠ a) := by
 unfold dfN
 constructor
 ·rintro ⟨h1, h2⟩
  refine ⟨⟨ha, hb, fun k hk hne => ?_⟩, fun e => h2 (by rw [e])⟩
  obtain ⟨y, hy⟩ := List.length_eq_one_iff.1 h1
  have hm : ∀ q, q < n → gi (gl fl (a : Int)) (q : Int) ≠ gi (gl fl (b : Int)) (q : Int) → q = y := fun q hq hd => by
   have : q ∈ (List.range n).filter fun k : Nat => decide (gi (gl fl (a : Int)) (k : Int) ≠ gi (gl fl (b : Int)) (k : Int)) := List.mem_filter.2 ⟨List.mem_range.2 hq, decide_eq_true hd⟩
   rw [hy] at this
   exact List.mem_singleton.1 this
  refine Classical.byContradiction fun hd => hne ?_
  rw [hm k hk hd, hm i hi h2]
 rintro ⟨h, hne⟩
 have hd : gi (gl fl (a : Int)) (i : Int) ≠ gi (gl fl (b : Int)) (i : Int) := fun e => hne (flg_same hnd hl hb ha fun k hk => by
  by_cases ek : k = i
  ·subst ek; exact e.symm
  exact (h.2.2 k hk ek).symm)
 refine ⟨?_, hd⟩
 have : (List.range n).filter (fun k : Nat => decide (gi (gl fl (a : Int)) (k : Int) ≠ gi (gl fl (b : Int)) (k : Int))) = [i] := by
  refine List.Perm.eq_singleton ?_
  refine (List.perm_ext_iff_of_nodup (List.nodup_range.filter _) (by simp)).2 fun q => ?_
  rw [List.mem_filter, List.mem_range, decide_eq_true_eq, List.mem_singleton]
  constructor
  ·rintro ⟨hq, hqd⟩
   exact Classical.byContradiction fun e => hqd (h.2.2 q hq e)
  rintro rfl
  exact ⟨hi, hd⟩
 rw [this]; rfl
noncomputable def nrC (n : Nat) (fl : List (List Int)) (a b k i a' : Nat) : List Int := if a' < a then nbE n fl i a' fl.length else if a' = a then (if i < k then nbE n fl i a (b + 1) else nbE n fl i a b) else []
noncomputable def nrM (n : Nat) (fl : List (List Int)) (a b k i : Nat) : List (List Int) := (List.range fl.length).map (nrC n fl a b k i)
noncomputable def nrL (n : Nat) (fl : List (List Int)) (a b k : Nat) : List (List (List Int)) := (List.range n).map (nrM n fl a b k)
section
variable {n : Nat} {fl : List (List Int)} {a b k i : Nat}
theorem nrM_len : (nrM n fl a b k i).length = fl.length := by simp [nrM]
theorem nrL_len : (nrL n fl a b k).length = n := by simp [nrL]
theorem nrL_at (h : i < n) : (nrL n fl a b k).getD i [] = nrM n fl a b k i := by
 rw [List.getD_eq_getElem?_getD, List.getElem?_eq_getElem (by rw [nrL_len]; exact h), Option.getD_some]
 simp [nrL]
theorem nrM_at {a' : Nat} (h : a' < fl.length) : gl (nrM n fl a b k i) (a' : Int) = nrC n fl a b k i a' := by
 rw [gl_mem (by rw [nrM_len]; exact h)]
 simp [nrM]
theorem nrL_congr {a2 b2 k2 : Nat} (h : ∀ i a', i < n → a' < fl.length → nrC n fl a b k i a' = nrC n fl a2 b2 k2 i a') : nrL n fl a b k = nrL n fl a2 b2 k2 :=
 List.map_congr_left fun i hi => List.map_congr_left fun a' ha => h i a' (List.mem_range.1 hi) (List.mem_range.1 ha)
theorem nrL_zero : nrL n fl 0 0 0 = List.replicate n (List.replicate fl.length []) := by
 refine List.eq_replicate_iff.2 ⟨nrL_len, fun y hy => ?_⟩
 obtain ⟨i, _, rfl⟩ := List.mem_map.1 hy
 refine List.eq_replicate_iff.2 ⟨nrM_len, fun z hz => ?_⟩
 obtain ⟨a', _, rfl⟩ := List.mem_map.1 hz
 unfold nrC
 rw [if_neg (Nat.not_lt_zero _)]
 split
 ·rw [if_neg (Nat.not_lt_zero _)]; rfl
 rfl
theorem nrL_row : nrL n fl (a + 1) 0 0 = nrL n fl a fl.length 0 := nrL_congr fun i a' _ ha => by
 unfold nrC
 by_cases c : a' < a
 ·rw [if_pos (by omega), if_pos c]
 rw [if_neg c]
 by_cases c2 : a' = a
 ·subst c2
  rw [if_pos (by omega), if_pos rfl, if_neg (Nat.not_lt_zero _)]
 rw [if_neg (by omega), if_neg c2]
 split
 ·rw [if_neg (Nat.not_lt_zero _)]; rfl
 rfl
theorem nrL_pair : nrL n fl a (b + 1) 0 = nrL n fl a b n := nrL_congr fun i a' hi ha => by
 unfold nrC
 rw [if_neg (Nat.not_lt_zero i), if_pos hi]
theorem nrL_pass (h : ∀ i, i < n → ¬ (AdjP n fl i a b ∧ b ≠ a)) : nrL n fl a (b + 1) 0 = nrL n fl a b 0 := nrL_congr fun i a' hi ha => by
 unfold nrC
 rw [if_neg (Nat.not_lt_zero i), nbE_no (h i hi), if_neg (Nat.not_lt_zero i)]
theorem nrL_skip (h : ¬ (AdjP n fl k a b ∧ b ≠ a)) : nrL n fl a b (k + 1) = nrL n fl a b k := nrL_congr fun i a' hi ha => by
 unfold nrC
 by_cases c : a' < a
 ·rw [if_pos c, if_pos c]
 rw [if_neg c, if_neg c]
 by_cases c2 : a' = a
 ·rw [if_pos c2, if_pos c2]
  by_cases c3 : i = k
  ·subst c3; rw [if_pos (by omega), if_neg (by omega), nbE_no h]
  by_cases c4 : i < k
  ·rw [if_pos (by omega), if_pos c4]
  rw [if_neg (by omega), if_neg c4]
 rw [if_neg c2, if_neg c2]
theorem nrL_put (hk : k < n) (ha : a < fl.length) (h : AdjP n fl k a b ∧ b ≠ a) : (nrL n fl a b k).set k ((nrM n fl a b k k).set a (gl (nrM n fl a b k k) (a : Int) ++ [(b : Int)])) = nrL n fl a b (k + 1) := by
 apply List.ext_getElem (by rw [List.length_set, nrL_len, nrL_len])
 intro i h1 h2
 rw [nrL_len] at h2
 rw [List.getElem_set]
 have e2 : ∀ k' (hx : i < (nrL n fl a b k').length), (nrL n fl a b k')[i] = nrM n fl a b k' i := fun k' hx => by simp [nrL]
 rw [e2 (k + 1) (by rw [nrL_len]; exact h2), e2 k (by rw [nrL_len]; exact h2)]
 by_cases c : k = i
 ·subst c
  rw [if_pos rfl]
  apply List.ext_getElem (by rw [List.length_set, nrM_len, nrM_len])
  intro a' h3 h4
  rw [nrM_len] at h4
  have e3 : ∀ k' (hx : a' < (nrM n fl a b k' k).length), (nrM n fl a b k' k)[a'] = nrC n fl a b k' k a' := fun k' hx => by simp [nrM]
  rw [List.getElem_set, e3 (k + 1) (by rw [nrM_len]; exact h4), e3 k (by rw [nrM_len]; exact h4), nrM_at ha]
  unfold nrC
  by_cases c2 : a = a'
  ·subst c2
   rw [if_pos rfl, if_neg (Nat.lt_irrefl _), if_pos rfl, if_neg (Nat.lt_irrefl _), if_neg (Nat.lt_irrefl _), if_pos rfl, if_pos (Nat.lt_succ_self _), nbE_yes h]
  rw [if_neg c2]
  by_cases c3 : a' < a
  ·rw [if_pos c3, if_pos c3]
  rw [if_neg c3, if_neg c3, if_neg (fun e => c2 e.symm), if_neg (fun e => c2 e.symm)]
 rw [if_neg c]
 refine List.map_congr_left fun a' ha' => ?_
 unfold nrC
 by_cases c3 : a' < a
 ·rw [if_pos c3, if_pos c3]
 rw [if_neg c3, if_neg c3]
 by_cases c2 : a' = a
 ·rw [if_pos c2, if_pos c2]
  by_cases c4 : i < k
  ·rw [if_pos c4, if_pos (by omega)]
  rw [if_neg c4, if_neg (by omega)]
 rw [if_neg c2, if_neg c2]
end
/-
 The reference's lists of flags beside one another, walked: the function.
-/
theorem perm_l {α : Type} (m o : α) (X R : List α) : (m :: o :: (X ++ []) ++ R).Perm (o :: ((X ++ (m :: R)) ++ [])) := by
 classical
 refine List.perm_iff_count.2 fun z => ?_
 simp only [List.count_append, List.count_cons, List.count_nil, List.cons_append]
 omega
structure NrS (w w' : World) (N n : Nat) (A3 : Option Addr) (c3 : Nat) (os : List SlV) (rss : List (List SlV)) (Xs : List (List (List Int))) : Prop where
 ol : os.length = n
 rl : rss.length = n
 xl : Xs.length = n
 on : ∀ i, i < n → (os.getD i slNil).n = N
 rn : ∀ i, i < n → (rss.getD i []).length = N
 xn : ∀ i, i < n → (Xs.getD i []).length = N
 st : St w w' (CkR 22 A3 n c3 os :: (cubR N os rss Xs ++ []))
theorem NrS.later {w w' w'' : World} {N n : Nat} {A3 : Option Addr} {c3 : Nat} {os : List SlV} {rss : List (List SlV)} {Xs : List (List (List Int))} (h : NrS w w' N n A3 c3 os rss Xs) (hb : Below w'.heap.size w' w'') : NrS w w'' N n A3 c3 os rss Xs := ⟨h.ol, h.rl, h.xl, h.on, h.rn, h.xn, h.st.later hb⟩
theorem NrS.rows {w w' : World} {N n : Nat} {A3 : Option Addr} {c3 : Nat} {os : List SlV} {rss : List (List SlV)} {Xs : List (List (List Int))} (h : NrS w w' N n A3 c3 os rss Xs) {k : Nat} (hk : k < n) :
  St w w' (CkR 22 A3 n c3 os :: (mat 32 2 (os.getD k slNil).a N (os.getD k slNil).c (rss.getD k []) (Xs.getD k []) ++ cubR N (os.eraseIdx k) (rss.eraseIdx k) (Xs.eraseIdx k))) := by
 have h9 := h.st
 rw [List.append_nil] at h9
 have h1 := h.ol; have h2 := h.rl; have h3 := h.xl
 exact h9.perm ((cub_take N (by omega) (by omega) (by omega)).cons _)
theorem NrS.mat {w w' : World} {N n : Nat} {A3 : Option Addr} {c3 : Nat} {os : List SlV} {rss : List (List SlV)} {Xs : List (List (List Int))} (h : NrS w w' N n A3 c3 os rss Xs) {k : Nat} (hk : k < n) : RowsI w' (os.getD k slNil).a N (rss.getD k []) (Xs.getD k []) := ((h.rows hk).sub ((List.sublist_append_left _ _).cons _)).rowsI1 (h.xn k hk)
theorem getD_set_ne {α : Type} {l : List α} {i j : Nat} {x d : α} (h : i ≠ j) : (l.set i x).getD j d = l.getD j d := by
 rw [List.getD_eq_getElem?_getD, List.getD_eq_getElem?_getD, List.getElem?_set_ne h]
theorem getD_set_eq {α : Type} {l : List α} {i : Nat} {x d : α} (h : i < l.length) : (l.set i x).getD i d = x := by
 rw [List.getD_eq_getElem?_getD, List.getElem?_set_self h]; rfl
theorem NrS.put {w w' : World} {N n : Nat} {A3 : Option Addr} {c3 : Nat} {os : List SlV} {rss : List (List SlV)} {Xs : List (List (List Int))} {w0 w1 : World} (h : NrS w0 w1 N n A3 c3 os rss Xs) {k : Nat} (hk : k < n) {r : List SlV} {X : List (List Int)} (hr : r.length = N) (hX : X.length = N) (hS : St w w' (CkR 22 A3 n c3 os :: (Vc.mat 32 2 (os.getD k slNil).a N (os.getD k slNil).c r X ++ cubR N (os.eraseIdx k) (rss.eraseIdx k) (Xs.eraseIdx k)))) : NrS w w' N n A3 c3 os (rss.set k r) (Xs.set k X) := by
 have h1 := h.ol; have h2 := h.rl; have h3 := h.xl
 refine ⟨h1, by rw [List.length_set]; exact h2, by rw [List.length_set]; exact h3, h.on, fun i hi => ?_, fun i hi => ?_, ?_⟩
 ·by_cases e : k = i
  ·subst e; rw [getD_set_eq (by omega)]; exact hr
  rw [getD_set_ne e]; exact h.rn i hi
 ·by_cases e : k = i
  ·subst e; rw [getD_set_eq (by omega)]; exact hX
  rw [getD_set_ne e]; exact h.xn i hi
 rw [List.append_nil]
 exact hS.perm ((cub_put N r X (by omega) (by omega) (by omega)).cons _)
set_option maxHeartbeats 4000000 in
theorem l03Near_c (A : Option Addr) (N c : Nat) (rs : List SlV) (fl : List (List Int)) (n : Nat) (w : World) (hM : RowsI w A N rs fl) (hN0 : 0 < N) (hN : N ≤ 400) (hn : n ≤ 5) (hl : ∀ x ∈ fl, x.length = n) (hnd : fl.Nodup) :
  Ret Tryz.prog 203 [.slice A N c] w (fun v w' => ∃ A3 c3 os rss, v = .slice A3 n c3 ∧ NrS w w' N n A3 c3 os rss (nrL n fl N 0 0)) := by
 have hfl := hM.len
 have hgm : ∀ f : Nat, f < N → gl fl (f : Int) ∈ fl := fun f hf => by rw [gl_mem (by omega)]; exact List.getElem_mem _
 have hrow : ∀ f : Nat, f < N → (rg rs (f : Int)).n = n := fun f hf => by
  have := (hM.at_ (i := (f : Int)) (by omega) (by omega)).1
  rw [← this]; exact hl _ (hgm f hf)
 have hone := fun a b i (ha : a < N) (hb : b < N) (hi : i < n) => dfN_one (n := n) (a := a) (b := b) (i := i) hnd hl (by omega) (by omega) hi
 have hz := nrL_zero (n := n) (fl := fl)
 have hrw := fun a => nrL_row (n := n) (fl := fl) (a := a)
 rw [hfl] at hz
 simp only [hfl] at hrw
 have hml : ∀ a b k i, (nrM n fl a b k i).length = N := fun a b k i => by rw [nrM_len, hfl]
 refine Ret.of_cd Tryz.func203 O Tryz.ntmps203 O (post1 O) (Gbo O (Ops.bs0 (St.refl w) O ?_))
 intro A3 w1 hS1
 have hN1 : NrS w w1 N 0 A3 0 [] [] (List.replicate 0 (List.replicate N [])) := ⟨O, O, O, fun i h => absurd h (Nat.not_lt_zero _), fun i h => absurd h (Nat.not_lt_zero _), fun i h => absurd h (Nat.not_lt_zero _), hS1⟩
 clear hS1
 refine Gdc O ?_
 refine Cd.loop (α := Nat × (Option Addr × Nat) × List SlV × List (List SlV)) (fun z => [(0, .slice A N c), (3, .slice z.2.1.1 z.1 z.2.1.2), (4, .int .i64 (z.1 : Int))]) (fun z w' => z.1 ≤ n ∧ NrS w w' N z.1 z.2.1.1 z.2.1.2 z.2.2.1 z.2.2.2 (List.replicate z.1 (List.replicate N []))) (fun z => n - z.1) (0, (A3, 0), [], []) ⟨O, O, O, trivial⟩ ⟨Nat.zero_le _, hN1⟩ ?_
 clear hN1
 rintro ⟨i, ⟨A3, c3⟩, os, rss⟩ e w2 ⟨hi, hS⟩
 dsimp only at hi hS ⊢
 have hM2 := hS.st.oldRows hM
 have hr0 := hrow 0 hN0
 refine Gbo O (Ops.len O O (Gdo O ?_))
 refine Ops.split_p 12 O (fun _ => ?_) (fun h => absurd (by omega) h)
 refine Ops.g O O O (Gdo O (Ops.g O O O (Gdo O (Ops.g O O O ?_))))
 refine Ops.idx (i := 0) hM2.top.2 O O O (by omega) (by omega) (Ops.g O O O ?_)
 refine Ops.ld_sl (i := 0) hM2.top O (by show 0 < N; omega) O O ?_
 refine Ops.g O O O (Ops.len O O (Ops.g O O O (Gdc O ?_)))
 have e0 : (rg rs 0).n = n := hr0
 rw [e0]
 refine Cd.cond_p _ O (fun h2 => ?_) (fun h2 => ?_)
 ·have hin : i < n := by omega
  refine Gao O (Ops.len O O ?_)
  refine Ops.mkR N hS.st O O (by omega) ?_
  intro A25 w3 hS3
  have hS3 := nilRows (t := 2) N hS3
  have hS3 := hS3.perm (perm_l _ _ _ _)
  refine Ops.bs1R hS3 O O O ?_
  intro A26 w4 hS4
  refine Ops.appR 1 hS4 O (hS4.rdR 0 O) O O O (by omega) (by omega) O ?_
  intro AZ cZ w5 hS5
  have hS5 := hS5.tail
  have h1 := hS.ol; have h2' := hS.rl; have h3 := hS.xl
  have hcs := cub_snoc N (os := os) (rss := rss) (Xs := List.replicate i (List.replicate N [])) ⟨A25, N, N⟩ (List.replicate N slNil) (List.replicate N []) (by omega) (by simp; omega)
  refine Gdo O (Ops.add O O O (by omega) (Gdn O (tQ ?_)))
  refine ⟨(i + 1, (AZ, cZ), os ++ [⟨A25, N, N⟩], rss ++ [List.replicate N slNil]), by show n - (i + 1) < n - i; omega, ⟨O, O, O, trivial⟩, by show i + 1 ≤ n; omega, ?_⟩
  have hap : ∀ {α : Type} {l : List α} {x d : α} {j : Nat}, l.length = i → j < i + 1 → (l ++ [x]).getD j d = if j < i then l.getD j d else x := fun {α l x d j} hl hj => by
   rw [List.getD_eq_getElem?_getD]
   by_cases c : j < i
   ·rw [if_pos c, List.getElem?_append_left (by omega), List.getD_eq_getElem?_getD]
   obtain rfl : j = l.length := by omega
   rw [if_neg c]; simp
  refine ⟨by simp [h1], by simp [h2'], by simp, fun j hj => ?_, fun j hj => ?_, fun j hj => ?_, ?_⟩
  ·rw [hap h1 hj]
   split
   ·exact hS.on j (by assumption)
   rfl
  ·rw [hap h2' hj]
   split
   ·exact hS.rn j (by assumption)
   simp
  ·rw [List.getD_eq_getElem?_getD, List.getElem?_replicate, if_pos hj]; simp
  rw [List.replicate_succ', hcs]
  exact hS5
 obtain rfl : i = n := by omega
 rw [← hz] at hS
 refine Gax O (thenQ_x (Gfc O ?_))
 refine Cd.loop (α := Nat × List (List SlV)) (fun z => [(0, .slice A N c), (3, .slice A3 i c3), (5, .int .i64 (z.1 : Int))]) (fun z w' => z.1 ≤ N ∧ NrS w w' N i A3 c3 os z.2 (nrL i fl z.1 0 0)) (fun z => N - z.1) (0, rss) ⟨O, O, O, trivial⟩ ⟨Nat.zero_le _, hS⟩ ?_
 clear hS hM2
 rintro ⟨a, rss⟩ e w3 ⟨ha, hS⟩
 dsimp only at ha hS ⊢
 refine Gbo O (Ops.len O O (Gdc O ?_))
 refine Cd.cond_p _ O (fun h3 => ?_) (fun h3 => ?_)
 ·have haN : a < N := by omega
  refine Gac O ?_
  refine Cd.loop (α := Nat × List (List SlV)) (fun z => [(0, .slice A N c), (3, .slice A3 i c3), (5, .int .i64 (a : Int)), (6, .int .i64 (z.1 : Int))]) (fun z w' => z.1 ≤ N ∧ NrS w w' N i A3 c3 os z.2 (nrL i fl a z.1 0)) (fun z => N - z.1) (0, rss) ⟨O, O, O, O, trivial⟩ ⟨Nat.zero_le _, hS⟩ ?_
  clear hS
  rintro ⟨b, rss⟩ e w4 ⟨hb, hS⟩
  dsimp only at hb hS ⊢
  refine Gbo O (Ops.len O O (Gdc O ?_))
  refine Cd.cond_p _ O (fun h4 => ?_) (fun h4 => ?_)
  ·have hbN : b < N := by omega
   have hM4 := hS.st.oldRows hM
   have hra := hM4.at_ (i := (a : Int)) (by omega) (by omega)
   have hrb := hM4.at_ (i := (b : Int)) (by omega) (by omega)
   have hna := hrow a haN
   have hnb := hrow b hbN
   refine Gac O ?_
   refine Cd.draw [xS (A) (N) (c), xI ((a : Int)), xP (ptrAt (A) ((a : Int)).toNat), xS ((rg (rs) ((a : Int))).a) ((rg (rs) ((a : Int))).n) ((rg (rs) ((a : Int))).c), xS (A) (N) (c), xI ((b : Int)), xP (ptrAt (A) ((b : Int)).toNat), xS ((rg (rs) ((b : Int))).a) ((rg (rs) ((b : Int))).n) ((rg (rs) ((b : Int))).c), xI ((dfN (gl fl (a : Int)) (gl fl (b : Int)) (rg rs (a : Int)).n : Nat) : Int), xB (decide (¬ ((dfN (gl fl (a : Int)) (gl fl (b : Int)) (rg rs (a : Int)).n : Nat) : Int) = ((1 : Int))))] (by kernel_rfl) (by kernel_rfl) O (exL O) ?_ ?_
   ·refine ⟨Dr O, Dr O, fun _ _ hb _ _ => Ops.idx (hM4.top.later hb).2 O O O (by omega) (by omega) (Az O), fun _ _ hb _ _ => Ops.ld_sl (hM4.top.later hb) O (by omega) O O (Az O), Dr O, Dr O, fun _ _ hb _ _ => Ops.idx (hM4.top.later hb).2 O O O (by omega) (by omega) (Az O), fun _ _ hb _ _ => Ops.ld_sl (hM4.top.later hb) O (by omega) O O (Az O), ?_, Dr O, trivial⟩
    intro e1 w1 hb hp hun
    refine Ops.call (l03Differ_c (rg rs (a : Int)).a (rg rs (b : Int)).a (rg rs (a : Int)).n (rg rs (a : Int)).c (rg rs (b : Int)).n (rg rs (b : Int)).c (gl fl (a : Int)) (gl fl (b : Int)) _ (hra.later hb) (hrb.later hb) (by omega) (by omega)) O O O ?_
    rintro _ w9 ⟨rfl, hst9⟩
    refine Ops.n ?_
    exact After.dn hst9.below O
   intro u w5 hb5 _
   have hS5 := hS.later hb5
   refine Gec O ?_
   refine Cd.cond_p _ O (fun h5 => ?_) (fun h5 => ?_)
   ·have hps := nrL_pass (n := i) (fl := fl) (a := a) (b := b) fun q hq h => h5 (by
     have := ((hone a b q haN hbN hq).2 h).1
     rw [hna, this]; rfl)
    refine Gao O (Ops.add O O O (by omega) (Gdn O (tQ ?_)))
    exact ⟨(b + 1, rss), by show N - (b + 1) < N - b; omega, ⟨O, O, O, O, trivial⟩, by show b + 1 ≤ N; omega, by show NrS w w5 N i A3 c3 os rss (nrL i fl a (b + 1) 0); rw [hps]; exact hS5⟩
   have h5 : dfN (gl fl (a : Int)) (gl fl (b : Int)) i = 1 := by rw [hna] at h5; omega
   clear hS hM4 hra hrb
   refine Gac O ?_
   refine Cd.loop (α := Nat × List (List SlV)) (fun z => [(0, .slice A N c), (3, .slice A3 i c3), (5, .int .i64 (a : Int)), (6, .int .i64 (b : Int)), (7, .int .i64 (z.1 : Int))]) (fun z w' => z.1 ≤ i ∧ NrS w w' N i A3 c3 os z.2 (nrL i fl a b z.1)) (fun z => i - z.1) (0, rss) ⟨O, O, O, O, O, trivial⟩ ⟨Nat.zero_le _, hS5⟩ ?_
   clear hS5
   rintro ⟨k, rss⟩ e w6 ⟨hk, hS⟩
   dsimp only at hk hS ⊢
   have hM6 := hS.st.oldRows hM
   have hra := hM6.at_ (i := (a : Int)) (by omega) (by omega)
   have hrb := hM6.at_ (i := (b : Int)) (by omega) (by omega)
   have hla := hra.1; have hlb := hrb.1
   refine Gbo O (Ops.idx hM6.top.2 O O O (by omega) (by omega) (Ops.ld_sl hM6.top O (by omega) O O ?_))
   refine Ops.len O O (Gdc O ?_)
   refine Cd.cond_p _ O (fun h6 => ?_) (fun h6 => ?_)
   ·have hki : k < i := by omega
    have hiff := hone a b k haN hbN hki
    refine Gac O ?_
    refine Cd.draw [xS (A) (N) (c), xI ((a : Int)), xP (ptrAt (A) ((a : Int)).toNat), xS ((rg (rs) ((a : Int))).a) ((rg (rs) ((a : Int))).n) ((rg (rs) ((a : Int))).c), xI ((k : Int)), xP (ptrAt ((rg (rs) ((a : Int))).a) ((k : Int)).toNat), xI (gi (gl fl (a : Int)) ((k : Int))), xS (A) (N) (c), xI ((b : Int)), xP (ptrAt (A) ((b : Int)).toNat), xS ((rg (rs) ((b : Int))).a) ((rg (rs) ((b : Int))).n) ((rg (rs) ((b : Int))).c), xI ((k : Int)), xP (ptrAt ((rg (rs) ((b : Int))).a) ((k : Int)).toNat), xI (gi (gl fl (b : Int)) ((k : Int))), xB (decide (¬ (gi (gl fl (a : Int)) ((k : Int))) = (gi (gl fl (b : Int)) ((k : Int)))))] (by kernel_rfl) (by kernel_rfl) O (exL O) ?_ ?_
    ·exact ⟨Dr O, Dr O, fun _ _ hb _ _ => Ops.idx (hM6.top.later hb).2 O O O (by omega) (by omega) (Az O), fun _ _ hb _ _ => Ops.ld_sl (hM6.top.later hb) O (by omega) O O (Az O), Dr O, fun _ _ hb _ _ => Ops.idx (hra.later hb).2 O O O (by omega) (by omega) (Az O), fun _ _ hb _ _ => Ops.ld_int (hra.later hb) O (by omega) O O (Az O), Dr O, Dr O, fun _ _ hb _ _ => Ops.idx (hM6.top.later hb).2 O O O (by omega) (by omega) (Az O), fun _ _ hb _ _ => Ops.ld_sl (hM6.top.later hb) O (by omega) O O (Az O), Dr O, fun _ _ hb _ _ => Ops.idx (hrb.later hb).2 O O O (by omega) (by omega) (Az O), fun _ _ hb _ _ => Ops.ld_int (hrb.later hb) O (by omega) O O (Az O), Dr O, trivial⟩
    intro u w7 hb7 _
    have hS7 := hS.later hb7
    clear hS hM6 hra hrb
    refine Gec O ?_
    refine Cd.cond_p _ O (fun h7 => ?_) (fun h7 => ?_)
    ·have hyes := hiff.1 ⟨h5, h7⟩
     have hput := nrL_put (n := i) (fl := fl) (b := b) hki (by omega : a < fl.length) hyes
     have hrows := hS7.rows hki
     have hX := nrL_at (n := i) (fl := fl) (a := a) (b := b) (k := k) hki
     have hmt := hS7.mat hki
     have hon := hS7.on k hki
     have hrn := hS7.rn k hki
     rw [hX] at hrows hmt
     have hrw7 := hmt.at_ (i := (a : Int)) (by omega) (by omega)
     have hbound : (rg (rss.getD k []) (a : Int)).n ≤ 500 := by
      rw [← hrw7.1, nrM_at (by omega)]
      unfold nrC
      rw [if_neg (Nat.lt_irrefl _), if_pos rfl, if_neg (Nat.lt_irrefl _)]
      have := nbE_len i fl k a b
      omega
     obtain ⟨oa, oc, ho⟩ : ∃ oa oc, os.getD k slNil = ⟨oa, N, oc⟩ := ⟨(os.getD k slNil).a, (os.getD k slNil).c, by rw [← hon]⟩
     have hov : (os.getD k slNil).v = .slice oa N oc := by rw [ho]; rfl
     rw [ho] at hrows hmt
     obtain ⟨rk, hrk⟩ : ∃ rk, rss.getD k [] = rk := ⟨_, rfl⟩
     obtain ⟨Xk, hXk⟩ : ∃ Xk, nrM i fl a b k k = Xk := ⟨_, rfl⟩
     have hXl : Xk.length = N := by rw [← hXk]; exact hml ..
     rw [hrk, hXk] at hrows hmt hrw7
     rw [hrk] at hrn hbound
     rw [hXk] at hput
     obtain ⟨KS, hKS⟩ : ∃ KS, cubR N (os.eraseIdx k) (rss.eraseIdx k) ((nrL i fl a b k).eraseIdx k) = KS := ⟨_, rfl⟩
     rw [hKS] at hrows
     have hO : RdR w7 A3 i os := hrows.rdR 0 O
     have hgQ : ∀ A9 : Option Addr, (CkI 2 A9 1 1 [(b : Int)] :: CkR 22 A3 i c3 os :: (mat 32 2 oa N oc rk Xk ++ KS))[2 + 1 + a]? = some (CkI 2 (rg rk (a : Int)).a (rg rk (a : Int)).n (rg rk (a : Int)).c (gl Xk (a : Int))) := fun A9 => mat_get (t1 := 32) (t2 := 2) (A := oa) (n := N) (c := oc) (rs := rk) (xss := Xk) (pre := [CkI 2 A9 1 1 [(b : Int)], CkR 22 A3 i c3 os]) (ks := KS) (i := a) (by omega) (by omega)
     have hap := fun (A9 : Option Addr) (s : SlV) (xs : List Int) => mat_apP (t1 := 32) (t2 := 2) (A := oa) (n := N) (c := oc) (rs := rk) (xss := Xk) (ks := KS) (pre := [CkI 2 A9 1 1 [(b : Int)], CkR 22 A3 i c3 os]) (i := a) s xs (by omega) (by omega)
     refine Cd.drawP [14, 16] [yS (A3) (i) (c3), yI ((k : Int)), yP (ptrAt A3 ((k : Int)).toNat), yS (oa) (N) (oc), yI ((a : Int)), yS (A3) (i) (c3), yI ((k : Int)), yP (ptrAt A3 ((k : Int)).toNat), yS (oa) (N) (oc), yI ((a : Int)), yP (ptrAt (oa) ((a : Int)).toNat), yS ((rg (rk) ((a : Int))).a) ((rg (rk) ((a : Int))).n) ((rg (rk) ((a : Int))).c), yI ((b : Int)), .pr (fun v w' => ∃ A9, v = .slice A9 1 1 ∧ St w w' (CkI 2 A9 1 1 [(b : Int)] :: CkR 22 A3 i c3 os :: (mat 32 2 oa N oc rk Xk ++ KS))), .pr (fun v w' => ∃ AZ cZ, v = .slice AZ ((rg rk (a : Int)).n + 1) cZ ∧ St w w' (CkR 22 A3 i c3 os :: (CkR 32 oa N oc rk :: (rowsCk 2 (rk.set a ⟨AZ, (rg rk (a : Int)).n + 1, cZ⟩) (Xk.set a (gl Xk (a : Int) ++ [(b : Int)])) ++ KS)))), yP (ptrAt oa ((a : Int)).toNat), .pr (fun _ w' => ∃ AZ cZ, St w w' (CkR 22 A3 i c3 os :: (mat 32 2 oa N oc (rk.set a ⟨AZ, (rg rk (a : Int)).n + 1, cZ⟩) (Xk.set a (gl Xk (a : Int) ++ [(b : Int)])) ++ KS)))] (by kernel_rfl) (by kernel_rfl) (ly (ly (ly (ly (ly (ly (ly (ly (ly (ly (ly (ly (ly (List.forall_mem_cons.2 ⟨Ye.lasts_pr (fun v w w' h hb => by obtain ⟨A9, hv, hT⟩ := h; exact ⟨A9, hv, hT.later hb⟩), (List.forall_mem_cons.2 ⟨Ye.lasts_pr (fun v w w' h hb => by obtain ⟨AZ, cZ, hv, hT⟩ := h; exact ⟨AZ, cZ, hv, hT.later hb⟩), (ly (List.forall_mem_cons.2 ⟨Ye.lasts_pr (fun v w w' h hb => by obtain ⟨AZ, cZ, hT⟩ := h; exact ⟨AZ, cZ, hT.later hb⟩), (fun _ h => by cases h)⟩))⟩)⟩)))))))))))))) ?_ ?_
     ·refine ⟨DrP O, DrP O, ?_, ?_, DrP O, DrP O, DrP O, cP fun _ _ hb _ _ _ => Ops.idx (hO.later hb).2 O O O (by omega) (by omega) (AzP O O), cP fun _ _ hb _ _ _ => Ops.ld (hO.later hb).2 (j := k) O (by omega) hov O O (AzP O O), DrP O, cP fun _ _ hb _ _ _ => Ops.idx (hmt.top.later hb).2 O O O (by omega) (by omega) (AzP O O), cP fun _ _ hb _ _ _ => Ops.ld_sl (hmt.top.later hb) O (by omega) O O (AzP O O), DrP O, ?_, ?_, ?_, ?_, trivial⟩
      ·intro e1 w1 cc hlo hhi hb0 hp hun hq; show Ops _ _ _ _ _ _ _
       have hX : RdR w1 A3 i os := by { have hhi := le_of_hi hhi (b := 1) (by kernel_rfl); rcases (show cc = 0 ∨ cc = 1 by omega) with h | h; { exact hO.later (hb0 h) }; { subst h; obtain ⟨AZ, cZ, _, hT⟩ := hq 14 _ _ (by kernel_rfl) (by kernel_rfl) (by kernel_rfl) rfl rfl (by kernel_rfl); exact hT.rdR 0 rfl } }
       refine Ops.idx hX.2 O O O (by omega) (by omega) (Ops.n (p0_ O (by exact O)))
      ·intro e1 w1 cc hlo hhi hb0 hp hun hq; show Ops _ _ _ _ _ _ _
       have hX : RdR w1 A3 i os := by { have hhi := le_of_hi hhi (b := 1) (by kernel_rfl); rcases (show cc = 0 ∨ cc = 1 by omega) with h | h; { exact hO.later (hb0 h) }; { subst h; obtain ⟨AZ, cZ, _, hT⟩ := hq 14 _ _ (by kernel_rfl) (by kernel_rfl) (by kernel_rfl) rfl rfl (by kernel_rfl); exact hT.rdR 0 rfl } }
       refine Ops.ld hX.2 (j := k) O (by omega) hov O O (Ops.n (p0_ O (by exact O)))
      ·refine cP fun e1 w1 hb hp hun hq => ?_
       refine Ops.bs1I (St.refl _) O O O ?_
       intro A9 w9 hst
       refine Ops.n ?_
       exact AfterP.dn O hst.below ⟨A9, O, (hrows.later hb).call hst⟩
      ·refine cPT fun e1 w1 hb hp hun hq => ?_
       obtain ⟨A9, h87, hT⟩ := (hp 13 _ _ (by kernel_rfl) rfl rfl (by kernel_rfl))
       refine Ops.appI (2 + 1 + a) hT (hgQ A9) (hT.rdI 0 O) O (by exact h87) O (by omega) (by omega) O ?_
       intro AZ cZ wZ hZ
       have hZ := (hap A9 ⟨AZ, (rg rk (a : Int)).n + 1, cZ⟩ (gl Xk (a : Int) ++ [(b : Int)])) ▸ hZ
       refine Ops.n ?_
       exact AfterU.dn O ⟨AZ, cZ, O, hZ.tail⟩
      ·intro e1 w1 cc hlo hhi hb0 hp hun hq; show Ops _ _ _ _ _ _ _
       have hX : RdR w1 oa N rk := by { have hhi := le_of_hi hhi (b := 1) (by kernel_rfl); rcases (show cc = 0 ∨ cc = 1 by omega) with h | h; { exact hmt.top.later (hb0 h) }; { subst h; obtain ⟨AZ, cZ, _, hT⟩ := hq 14 _ _ (by kernel_rfl) (by kernel_rfl) (by kernel_rfl) rfl rfl (by kernel_rfl); exact hT.rdR 1 rfl } }
       refine Ops.idx hX.2 O O O (by omega) (by omega) (Ops.n (p0_ O (by exact O)))
      refine dPT 1 fun e1 w1 hp hun hq => ?_
      have hph := hp 14 _ _ (by kernel_rfl) O O (by kernel_rfl)
      obtain ⟨AZ, cZ, h88, hT⟩ := hph
      refine Ops.st_sl (te := 32) (n := N) (c := oc) (A := oa) (xs := rk) 1 hT O O (by exact h88) (by omega) ?_
      intro wY hY
      refine Ops.n ?_
      exact AfterU.st O ⟨AZ, cZ, hY⟩
     intro u w8 _ hu _ _
     obtain ⟨AZ, cZ, hT⟩ := hu 16 _ rfl (by kernel_rfl)
     have hNew := hS7.put hki (r := rk.set a ⟨AZ, (rg rk (a : Int)).n + 1, cZ⟩) (X := Xk.set a (gl Xk (a : Int) ++ [(b : Int)])) (by rw [List.length_set]; exact hrn) (by rw [List.length_set]; exact hXl) (by rw [ho, hKS]; exact hT)
     rw [hput] at hNew
     refine Geo O (Ops.add O O O (by omega) (Gdn O (tQ ?_)))
     exact ⟨(k + 1, rss.set k (rk.set a ⟨AZ, (rg rk (a : Int)).n + 1, cZ⟩)), by show i - (k + 1) < i - k; omega, ⟨O, O, O, O, O, trivial⟩, by show k + 1 ≤ i; omega, hNew⟩
    have hsk := nrL_skip (n := i) (fl := fl) (a := a) (b := b) (k := k) fun h => h7 (hiff.2 h).2
    refine Gao O (Ops.add O O O (by omega) (Gdn O (tQ ?_)))
    exact ⟨(k + 1, rss), by show i - (k + 1) < i - k; omega, ⟨O, O, O, O, O, trivial⟩, by show k + 1 ≤ i; omega, by show NrS w w7 N i A3 c3 os rss (nrL i fl a b (k + 1)); rw [hsk]; exact hS7⟩
   have hke : k = i := by omega
   have hpr := nrL_pair (n := i) (fl := fl) (a := a) (b := b)
   rw [hke, ← hpr] at hS
   refine Gax O (thenQ_x (Gfo O (Ops.add O O O (by omega) (Gdn O (tQ ?_)))))
   exact ⟨(b + 1, rss), by show N - (b + 1) < N - b; omega, ⟨O, O, O, O, trivial⟩, by show b + 1 ≤ N; omega, hS⟩
  have hbe : b = N := by omega
  rw [hbe, ← hrw] at hS
  refine Gax O (thenQ_x (Gfo O (Ops.add O O O (by omega) (Gdn O (tQ ?_)))))
  exact ⟨(a + 1, rss), by show N - (a + 1) < N - a; omega, ⟨O, O, O, trivial⟩, by show a + 1 ≤ N; omega, hS⟩
 have hae : a = N := by omega
 rw [hae] at hS
 refine Gax O (thenQ_x (Gfr O ?_))
 refine ret1_s O ?_
 exact ⟨A3, c3, os, rss, O, hS⟩
/-
 Bits of small numbers: shifts by a number, the lowest bit. Conditions: as the rules name them.
-/
section
variable {P : Program} {N : Nat} {ops : Array Oper} {K : Env → World → Prop} {rest : List Oper} {e : Env} {w : World} {d : Nat} {ty : TypeId} {pos : String} {af : Array Edge} {x y : Operand} {xt yt : TypeId}
theorem Ops.shrN {m i : Nat} (hx : ev e x = .int .i64 (m : Int)) (hy : ev e y = .int .u64 (i : Int)) (hi : i ≤ 5) (hm : m ≤ 32) (hb : Nat.blt d N = true) (hK : Ops P N ops K rest (upd e d (.int .i64 ((m / 2 ^ i : Nat) : Int))) w) :
  Ops P N ops K (⟨some d, .binOp .shr xt x y yt, ty, pos, af, none⟩ :: rest) e w := by
 refine .val (v := .int .i64 ((m / 2 ^ i : Nat) : Int)) ?_ hb hK
 have e1 : min i IntKind.i64.bits = i := Nat.min_eq_left (Nat.le_trans hi (by decide))
 have e2 : ¬ (i : Int) < 0 := by omega
 have e3 : (m : Int).fdiv (2 ^ i) = ((m / 2 ^ i : Nat) : Int) := by
  rw [Int.fdiv_eq_ediv_of_nonneg _ (by have := Int.pow_nonneg (n := 2) (m := i) (by decide); omega)]
  simp
 simp [execOp, hx, hy, eqGuard, binOp, Op.shift, e1, e2, e3]
theorem Ops.shlN {i : Nat} (hx : ev e x = .int .i64 1) (hy : ev e y = .int .u64 (i : Int)) (hi : i ≤ 5) (hb : Nat.blt d N = true) (hK : Ops P N ops K rest (upd e d (.int .i64 ((2 ^ i : Nat) : Int))) w) :
  Ops P N ops K (⟨some d, .binOp .shl xt x y yt, ty, pos, af, none⟩ :: rest) e w := by
 refine .val (v := .int .i64 ((2 ^ i : Nat) : Int)) ?_ hb hK
 have e1 : min i IntKind.i64.bits = i := Nat.min_eq_left (Nat.le_trans hi (by decide))
 have e2 : ¬ (i : Int) < 0 := by omega
 have e3 : IntKind.i64.wrap ((1 : Int) * 2 ^ i) = ((2 ^ i : Nat) : Int) := by
  rcases (by omega : i = 0 ∨ i = 1 ∨ i = 2 ∨ i = 3 ∨ i = 4 ∨ i = 5) with rfl | rfl | rfl | rfl | rfl | rfl <;> decide
 rw [Int.one_mul] at e3
 simp [execOp, hx, hy, eqGuard, binOp, Op.shift, e1, e2, e3]
theorem and_low : ∀ m : Nat, m < 33 → bits .and .i64 (m : Int) 1 = ((m % 2 : Nat) : Int) := by decide
theorem Ops.andN {m : Nat} (hx : ev e x = .int .i64 (m : Int)) (hy : ev e y = .int .i64 1) (hm : m ≤ 32) (hb : Nat.blt d N = true) (hK : Ops P N ops K rest (upd e d (.int .i64 ((m % 2 : Nat) : Int))) w) :
  Ops P N ops K (⟨some d, .binOp .and xt x y yt, ty, pos, af, none⟩ :: rest) e w :=
 .val (by simp only [execOp, hx, hy, eqGuard, binOp, intBits_and, and_low m (by omega)]; simp) hb hK
end
/-
 The reference's parts of flags, walked.
-/
structure NrR (w : World) (N n : Nat) (A3 : Option Addr) (os : List SlV) (rss : List (List SlV)) (Xs : List (List (List Int))) : Prop where
 top : RdR w A3 n os
 on : ∀ i, i < n → (os.getD i slNil).n = N
 row : ∀ i, i < n → RowsI w (os.getD i slNil).a N (rss.getD i []) (Xs.getD i [])
theorem NrR.later {w w' : World} {N n : Nat} {A3 : Option Addr} {os : List SlV} {rss : List (List SlV)} {Xs : List (List (List Int))} (h : NrR w N n A3 os rss Xs) (hb : Below w.heap.size w w') : NrR w' N n A3 os rss Xs := ⟨h.top.later hb, h.on, fun i hi => (h.row i hi).later hb⟩
theorem NrS.rd {w w' : World} {N n : Nat} {A3 : Option Addr} {c3 : Nat} {os : List SlV} {rss : List (List SlV)} {Xs : List (List (List Int))} (h : NrS w w' N n A3 c3 os rss Xs) : NrR w' N n A3 os rss Xs := ⟨h.st.rdR 0 rfl, h.on, fun _ hi => h.mat hi⟩
open Classical in
theorem nbsP_mem {n : Nat} {fl : List (List Int)} {i a : Nat} {y : Int} : y ∈ nbsP n fl i a ↔ ∃ y' : Nat, y = y' ∧ y' < fl.length ∧ AdjP n fl i a y' ∧ y' ≠ a := by
 unfold nbsP
 rw [List.mem_map]
 constructor
 ·rintro ⟨y', h, rfl⟩
  rw [List.mem_filter, List.mem_range, decide_eq_true_eq] at h
  exact ⟨y', O, h.1, h.2⟩
 rintro ⟨y', rfl, h1, h2⟩
 exact ⟨y', by rw [List.mem_filter, List.mem_range, decide_eq_true_eq]; exact ⟨h1, h2⟩, O⟩
def bitS (mask : Nat) (i : Nat) : Prop := mask / 2 ^ i % 2 = 1
set_option maxHeartbeats 4000000 in
theorem l03Linked_c (A3 : Option Addr) (c3 : Nat) (os : List SlV) (rss : List (List SlV)) (fl : List (List Int)) (n N mask : Nat) (w : World) (hfl : fl.length = N) (hR : NrR w N n A3 os rss (nrL n fl N 0 0)) (hm : mask ≤ 32) (hN : N ≤ 400) (hn : n ≤ 5) :
  Ret Tryz.prog 204 [.slice A3 n c3, .int .i64 N, .int .i64 mask] w (fun v w' => ∃ A' c' L, v = .slice A' N c' ∧ LblP N (LnkP n fl (bitS mask)) N L ∧ St w w' [CkI 2 A' N c' L]) := by
 have hPer : Per N (LnkP n fl (bitS mask)) := hfl ▸ LnkP.per n fl (bitS mask)
 have hX : ∀ i x : Nat, i < n → x < N → gl ((nrL n fl N 0 0).getD i []) (x : Int) = nbsP n fl i x := fun i x hi hx => by
  rw [nrL_at hi, nrM_at (by omega)]
  unfold nrC
  rw [if_pos hx, nbE_all]
 have hxl : ∀ i, i < n → ((nrL n fl N 0 0).getD i []).length = N := fun i hi => by rw [nrL_at hi, nrM_len, hfl]
 have hnl : ∀ i x, (nbsP n fl i x).length ≤ N := fun i x => by rw [← nbE_all, ← hfl]; exact nbE_len ..
 generalize nrL n fl N 0 0 = Xs at *
 refine Ret.of_cd Tryz.func204 O Tryz.ntmps204 O (post1 O) (Gbo O (Ops.bs0 (St.refl w) O ?_))
 intro A7 w1 hS1
 refine Gdc O ?_
 refine Cd.loop (α := Nat × Option Addr × Nat) (fun z => [(0, .slice A3 n c3), (1, .int .i64 (N : Int)), (2, .int .i64 (mask : Int)), (7, .slice z.2.1 z.1 z.2.2), (8, .int .i64 (z.1 : Int))]) (fun z w' => z.1 ≤ N ∧ St w w' [CkI 2 z.2.1 z.1 z.2.2 (List.replicate z.1 (-1))]) (fun z => N - z.1) (0, A7, 0) ⟨O, O, O, O, O, trivial⟩ ⟨Nat.zero_le _, hS1⟩ ?_
 clear hS1
 rintro ⟨i, A7, c7⟩ e w2 ⟨hi, hS⟩
 dsimp only at hi hS ⊢
 refine Gbc O ?_
 refine Cd.cond_p _ O (fun h1 => ?_) (fun h1 => ?_)
 ·refine Gao O (Ops.bs1I (i := -1) hS O O O ?_)
  intro A9 w3 hS3
  refine Ops.appI 1 hS3 O (hS3.rdI 0 O) O O O (by omega) (by omega) O ?_
  intro AZ cZ w4 hS4
  have hS4 := hS4.tail
  refine Gdo O (Ops.add O O O (by omega) (Gdn O (tQ ?_)))
  exact ⟨(i + 1, AZ, cZ), by show N - (i + 1) < N - i; omega, ⟨O, O, O, O, O, trivial⟩, by show i + 1 ≤ N; omega, by show St w w4 [CkI _ AZ (i + 1) cZ (List.replicate (i + 1) (-1))]; rw [List.replicate_succ']; exact hS4⟩
 obtain rfl : i = N := by omega
 refine Gax O (thenQ_x (Gfc O ?_))
 refine Cd.loop (α := Nat × List Int) (fun z => [(0, .slice A3 n c3), (1, .int .i64 (i : Int)), (2, .int .i64 (mask : Int)), (7, .slice A7 i c7), (9, .int .i64 (z.1 : Int))]) (fun z w' => z.1 ≤ i ∧ LblP i (LnkP n fl (bitS mask)) z.1 z.2 ∧ St w w' [CkI 2 A7 i c7 z.2]) (fun z => i - z.1) (0, List.replicate i (-1)) ⟨O, O, O, O, O, trivial⟩ ⟨Nat.zero_le _, LblP.zero _ _, hS⟩ ?_
 clear hS
 rintro ⟨f, L0⟩ e w3 ⟨hf, hL0, hS⟩
 dsimp only at hf hL0 hS ⊢
 have hLl := hL0.1
 refine Gbc O ?_
 refine Cd.cond_p _ O (fun h1 => ?_) (fun h1 => ?_)
 ·have hfN : f < i := by omega
  have hRL := hS.rdI 0 O
  have hKf : LnkP n fl (bitS mask) f f := .refl (by omega)
  refine Gao O (Ops.idx hRL.2 O O O (by omega) (by omega) (Ops.ld_int hRL O (by omega) O O (Gdc O ?_)))
  refine Cd.cond_p _ O (fun h2 => ?_) (fun h2 => ?_)
  ·refine Gao O (Ops.add O O O (by omega) (Gdn O (tQ ?_)))
   exact ⟨(f + 1, L0), by show i - (f + 1) < i - f; omega, ⟨O, O, O, O, O, trivial⟩, by show f + 1 ≤ i; omega, hL0.skip hPer hfN (.inl h2), hS⟩
  have h0 : gi L0 (f : Int) < 0 := by omega
  refine Gao O (Ops.idx hRL.2 O O O (by omega) (by omega) (Ops.st_int 0 hS O O O (by omega) ?_))
  intro w4 hS4
  have hS4 : St w w4 [CkI 2 A7 i c7 (L0.set f (f : Int))] := hS4
  refine Gdo O (Ops.bs1I hS4 O O O ?_)
  intro A10 w5 hS5
  have hSr := Srch.start (A := AdS n fl (bitS mask)) hLl hfN h0 hKf
  refine Gdc O ?_
  refine Cd.loop (α := Nat × List Int × List Nat × Option Addr × Nat) (fun z => [(0, .slice A3 n c3), (1, .int .i64 (i : Int)), (2, .int .i64 (mask : Int)), (7, .slice A7 i c7), (9, .int .i64 (f : Int)), (10, .slice z.2.2.2.1 z.2.2.1.length z.2.2.2.2), (11, .int .i64 (z.1 : Int))]) (fun z w' => Srch i (LnkP n fl (bitS mask)) (AdS n fl (bitS mask)) f L0 z.2.1 z.2.2.1 z.1 ∧ St w w' [CkI 2 z.2.2.2.1 z.2.2.1.length z.2.2.2.2 (intL z.2.2.1), CkI 2 A7 i c7 z.2.1]) (fun z => i + 1 - z.1) (0, L0.set f (f : Int), [f], A10, 1) ⟨O, O, O, O, O, O, O, trivial⟩ ⟨hSr, hS5⟩ ?_
  clear hS5 hS4 hS hRL hSr
  rintro ⟨k, L, Q, Ao, co⟩ e w6 ⟨hSr, hS⟩
  dsimp only at hSr hS ⊢
  have hql := hSr.qlen
  have hkl := hSr.kle
  refine Gbo O (Ops.len O O (Gdc O ?_))
  refine Cd.cond_p _ O (fun h3 => ?_) (fun h3 => ?_)
  ·have hkQ : k < Q.length := by omega
   obtain ⟨x, hx⟩ : ∃ x, Q.getD k 0 = x := ⟨_, rfl⟩
   have hxQ : x ∈ Q := by rw [← hx, List.getD_eq_getElem?_getD, List.getElem?_eq_getElem hkQ]; exact List.getElem_mem _
   have hxi := hSr.in_ x hxQ
   refine Gac O ?_
   refine Cd.loop (α := Nat × List Int × List Nat × Option Addr × Nat) (fun z => [(0, .slice A3 n c3), (1, .int .i64 (i : Int)), (2, .int .i64 (mask : Int)), (7, .slice A7 i c7), (9, .int .i64 (f : Int)), (10, .slice z.2.2.2.1 z.2.2.1.length z.2.2.2.2), (11, .int .i64 (k : Int)), (12, .int .i64 (z.1 : Int))]) (fun z w' => z.1 ≤ n ∧ Srch i (LnkP n fl (bitS mask)) (AdS n fl (bitS mask)) f L0 z.2.1 z.2.2.1 k ∧ (k < z.2.2.1.length ∧ z.2.2.1.getD k 0 = x) ∧ (∀ q y : Nat, q < z.1 → ¬ bitS mask q → AdjP n fl q x y → y ≠ x → 0 ≤ gi z.2.1 (y : Int)) ∧ St w w' [CkI 2 z.2.2.2.1 z.2.2.1.length z.2.2.2.2 (intL z.2.2.1), CkI 2 A7 i c7 z.2.1]) (fun z => n - z.1) (0, L, Q, Ao, co) ⟨O, O, O, O, O, O, O, O, trivial⟩ ⟨Nat.zero_le _, hSr, ⟨hkQ, hx⟩, fun q y h => absurd h (Nat.not_lt_zero _), hS⟩ ?_
   clear hS hSr hx hxQ hkQ hql hkl h3
   rintro ⟨r, Li, Qi, Ao, co⟩ e w7 ⟨hr, hSr, ⟨hkQ, hx⟩, hdn, hS⟩
   dsimp only at hr hSr hkQ hx hdn hS ⊢
   refine Gbo O (Ops.len O O (Gdc O ?_))
   refine Cd.cond_p _ O (fun h4 => ?_) (fun h4 => ?_)
   ·have hrn : r < n := by omega
    refine Gao O (Ops.convK O O (wrap_u64_in _ (by omega)) (Ops.shrN O O (by omega) hm O (Ops.andN O O (Nat.le_trans (Nat.div_le_self _ _) hm) O (Gdc O ?_))))
    refine Cd.cond_p _ O (fun h5 => ?_) (fun h5 => ?_)
    ·have hb : bitS mask r := by unfold bitS; omega
     refine Gao O (Ops.add O O O (by omega) (Gdn O (tQ ?_)))
     exact ⟨(r + 1, Li, Qi, Ao, co), by show n - (r + 1) < n - r; omega, ⟨O, O, O, O, O, O, O, O, trivial⟩, by show r + 1 ≤ n; omega, hSr, ⟨hkQ, hx⟩, fun q y hq hs ha hne => by
      by_cases eq : q = r
      ·subst eq; exact absurd hb hs
      exact hdn q y (by have hq : q < r + 1 := hq; omega) hs ha hne, hS⟩
    have hb : ¬ bitS mask r := by unfold bitS; omega
    have hRr := hR.later hS.below
    have hon := hR.on r hrn
    have hmt := hRr.row r hrn
    have hxr := hX r x hrn hxi.1
    have hXl := hxl r hrn
    have hnbl := hnl r x
    have hrd : ∀ {w' : World} {ks : List Ck}, St w w' ks → RdI w' (rg (rss.getD r []) (x : Int)).a (rg (rss.getD r []) (x : Int)).n (nbsP n fl r x) := fun h => by
     have h9 := ((hR.later h.below).row r hrn).at_ (i := (x : Int)) (by omega) (by omega)
     rw [hxr] at h9; exact h9
    obtain ⟨oa, oc, ho⟩ : ∃ oa oc, os.getD r slNil = ⟨oa, i, oc⟩ := ⟨(os.getD r slNil).a, (os.getD r slNil).c, by rw [← hon]⟩
    have hov : (os.getD r slNil).v = .slice oa i oc := by rw [ho]; rfl
    rw [ho] at hmt
    generalize hXr : Xs.getD r [] = Xr at *
    generalize hrr : rss.getD r [] = rr at *
    have hro := hmt.at_ (i := (x : Int)) (by omega) (by omega)
    rw [hxr] at hro
    have hyl := hro.1
    have hgo : gi (intL Qi) (k : Int) = (x : Int) := by rw [intL_at hkQ, hx]
    have hql := hSr.qlen
    have hRo := hS.rdI 0 O
    have hdl : (intL Qi).length = Qi.length := by simp [intL]
    refine Gac O ?_
    refine Cd.draw [xS (A3) (n) (c3), xI ((r : Int)), xP (ptrAt A3 ((r : Int)).toNat), xS (oa) (i) (oc), xS (Ao) (Qi.length) (co), xI ((k : Int)), xP (ptrAt (Ao) ((k : Int)).toNat), xI ((x : Int)), xP (ptrAt (oa) ((x : Int)).toNat), xS ((rg (rr) ((x : Int))).a) ((rg (rr) ((x : Int))).n) ((rg (rr) ((x : Int))).c), xS ((rg (rr) ((x : Int))).a) ((rg (rr) ((x : Int))).n) ((rg (rr) ((x : Int))).c)] (by kernel_rfl) (by kernel_rfl) O (exL O) ?_ ?_
    ·exact ⟨Dr O, Dr O, fun _ _ hb _ _ => Ops.idx (hRr.top.later hb).2 O O O (by omega) (by omega) (Az O), fun _ _ hb _ _ => Ops.ld (hRr.top.later hb).2 (j := r) O (by omega) hov O O (Az O), Dr O, Dr O, fun _ _ hb _ _ => Ops.idx (hRo.later hb).2 O O O (by omega) (by omega) (Az O), fun _ _ hb _ _ => Ops.ld (hRo.later hb).2 (j := k) O (by omega) (by exact congrArg (Value.int .i64) hgo) O O (Az O), fun _ _ hb _ _ => Ops.idx (hmt.top.later hb).2 O O O (by omega) (by omega) (Az O), fun _ _ hb _ _ => Ops.ld_sl (hmt.top.later hb) O (by omega) O O (Az O), Dr O, trivial⟩
    intro u w8 hb8 _
    have hS8 := hS.later hb8
    clear hmt hRr hRo hS
    obtain ⟨sx, hsx⟩ : ∃ sx, rg rr (x : Int) = sx := ⟨_, rfl⟩
    rw [hsx] at hyl ⊢
    simp only [hsx] at hrd
    obtain ⟨ys, hys⟩ : ∃ ys, nbsP n fl r x = ys := ⟨_, rfl⟩
    simp only [hys] at hrd
    rw [hys] at hyl hnbl
    have hadj : ∀ y ∈ ys, ∃ y' : Nat, y = y' ∧ y' < i ∧ AdjP n fl r x y' ∧ y' ≠ x := fun y hy => by
     rw [← hys] at hy
     rw [← hfl]
     exact nbsP_mem.1 hy
    refine Gec O ?_
    refine Cd.loop (α := Nat × List Int × List Nat × Option Addr × Nat) (fun z => [(0, .slice A3 n c3), (1, .int .i64 (i : Int)), (2, .int .i64 (mask : Int)), (7, .slice A7 i c7), (9, .int .i64 (f : Int)), (10, .slice z.2.2.2.1 z.2.2.1.length z.2.2.2.2), (11, .int .i64 (k : Int)), (12, .int .i64 (r : Int)), (13, .slice sx.a sx.n sx.c), (14, .int .i64 (z.1 : Int))]) (fun z w' => z.1 ≤ sx.n ∧ Srch i (LnkP n fl (bitS mask)) (AdS n fl (bitS mask)) f L0 z.2.1 z.2.2.1 k ∧ (k < z.2.2.1.length ∧ z.2.2.1.getD k 0 = x) ∧ (∀ p : Nat, p < z.1 → 0 ≤ gi z.2.1 (gi ys (p : Int))) ∧ (∀ y : Nat, 0 ≤ gi Li (y : Int) → 0 ≤ gi z.2.1 (y : Int)) ∧ St w w' [CkI 2 z.2.2.2.1 z.2.2.1.length z.2.2.2.2 (intL z.2.2.1), CkI 2 A7 i c7 z.2.1]) (fun z => sx.n - z.1) (0, Li, Qi, Ao, co) ⟨O, O, O, O, O, O, O, O, O, O, trivial⟩ ⟨Nat.zero_le _, hSr, ⟨hkQ, hx⟩, fun p h => absurd h (Nat.not_lt_zero _), fun y h => h, hS8⟩ ?_
    clear hS8 hSr hkQ hx hgo hdl hql
    rintro ⟨q, L, Q, Ao, co⟩ e w12 ⟨hq, hSr, ⟨hkQ, hx⟩, hlab, hmono, hS⟩
    dsimp only at hq hSr hkQ hx hlab hmono hS ⊢
    have hql := hSr.qlen
    have hLl2 := hSr.len
    refine Gbo O (Ops.len O O (Gdc O ?_))
    refine Cd.cond_p _ O (fun h6 => ?_) (fun h6 => ?_)
    ·have hqy : q < ys.length := by omega
     have hry := hrd hS
     obtain ⟨y, hy, hyN, hya, hyne⟩ := hadj _ (gi_in hqy)
     have hRL := hS.rdI 1 O
     refine Gao O (Ops.idx hry.2 O O O (by omega) (by omega) (Ops.ld_int hry O (by omega) O O ?_))
     rw [hy]
     refine Ops.idx hRL.2 O O O (by omega) (by omega) (Ops.ld_int hRL O (by omega) O O (Gdc O ?_))
     refine Cd.cond_p _ O (fun h7 => ?_) (fun h7 => ?_)
     ·have hmt := hSr.meet hyN h7 (hPer.trn _ _ _ hxi.2.2 (AdS.link ⟨r, hrn, hb, hya, hyne⟩))
      refine Gao O (Ops.idx hry.2 O O O (by omega) (by omega) (Ops.ld_int hry O (by omega) O O ?_))
      rw [hy]
      refine Gdo O (Ops.idx hRL.2 O O O (by omega) (by omega) (Ops.st_int 1 hS O O O (by omega) ?_))
      intro w13 hS13
      have hry := hrd hS13
      refine Gdo O (Ops.idx hry.2 O O O (by omega) (by omega) (Ops.ld_int hry O (by omega) O O ?_))
      rw [hy]
      refine Ops.bs1I hS13 O O O ?_
      intro A9 w14 hS14
      refine Ops.appI 1 hS14 O (hS14.rdI 0 O) O O O (by omega) (by omega) O ?_
      intro AZ cZ w15 hS15
      have hS15 := hS15.tail
      have hlq : (Q ++ [y]).length = Q.length + 1 := by simp
      refine Gdo O (Ops.add O O O (by omega) (Gdn O (tQ ?_)))
      refine ⟨(q + 1, L.set y (f : Int), Q ++ [y], AZ, cZ), by show sx.n - (q + 1) < sx.n - q; omega, ⟨O, O, O, O, O, congrArg (fun m => Value.slice AZ m cZ) hlq.symm, O, O, O, O, trivial⟩, by show q + 1 ≤ sx.n; omega, hmt, ⟨by show k < (Q ++ [y]).length; omega, by show (Q ++ [y]).getD k 0 = x; rw [getD_app hkQ, hx]⟩, fun p hp => ?_, fun z hz => gi_set_ge (hmono z hz), ?_⟩
      ·by_cases ep : p = q
       ·subst ep
        rw [hy]
        have h9 := gi_set_eq (L := L) (y := y) (f := f) (by omega)
        show 0 ≤ gi (L.set y (f : Int)) (y : Int)
        omega
       have hp : p < q + 1 := hp
       obtain ⟨y9, hy9, _, _⟩ := hadj _ (gi_in (show p < ys.length by omega))
       have h9 := hlab p (by omega)
       rw [hy9] at h9 ⊢
       exact gi_set_ge h9
      show St w w15 [CkI _ AZ (Q ++ [y]).length cZ (intL (Q ++ [y])), _]
      rw [hlq, show intL (Q ++ [y]) = intL Q ++ [(y : Int)] by simp [intL]]
      exact hS15
     refine Gao O (Ops.add O O O (by omega) (Gdn O (tQ ?_)))
     refine ⟨(q + 1, L, Q, Ao, co), by show sx.n - (q + 1) < sx.n - q; omega, ⟨O, O, O, O, O, O, O, O, O, O, trivial⟩, by show q + 1 ≤ sx.n; omega, hSr, ⟨hkQ, hx⟩, fun p hp => ?_, hmono, hS⟩
     by_cases ep : p = q
     ·subst ep
      rw [hy]
      show 0 ≤ gi L (y : Int)
      omega
     have hp : p < q + 1 := hp
     exact hlab p (by omega)
    have hall : ∀ y : Nat, (y : Int) ∈ ys → 0 ≤ gi L (y : Int) := fun y hy => by
     obtain ⟨p, hp, e9⟩ := List.mem_iff_getElem.1 hy
     rw [← gi_mem hp] at e9
     have := hlab p (by omega)
     rwa [e9] at this
    refine Gax O (thenQ_x (Gfo O (Ops.add O O O (by omega) (Gdn O (tQ ?_)))))
    refine ⟨(r + 1, L, Q, Ao, co), by show n - (r + 1) < n - r; omega, ⟨O, O, O, O, O, O, O, O, trivial⟩, by show r + 1 ≤ n; omega, hSr, ⟨hkQ, hx⟩, fun q' y hq' hs ha hne => ?_, hS⟩
    by_cases eq : q' = r
    ·subst eq
     exact hall y (by rw [← hys]; exact nbsP_mem.2 ⟨y, O, ha.2.1, ha, hne⟩)
    exact hmono y (hdn q' y (by have hq' : q' < r + 1 := hq'; omega) hs ha hne)
   have hre : r = n := by omega
   have hql := hSr.qlen
   have hnext := hSr.next hkQ fun y hy => by
    rw [hx] at hy
    obtain ⟨q, hq, hs, ha, hne⟩ := hy
    exact hdn q y (by omega) hs ha hne
   refine Gax O (thenQ_x (Gfo O (Ops.add O O O (by omega) (Gdn O (tQ ?_)))))
   exact ⟨(k + 1, Li, Qi, Ao, co), by show i + 1 - (k + 1) < i + 1 - k; have := hSr.qlen; omega, ⟨O, O, O, O, O, O, O, trivial⟩, hnext, hS⟩
  have hkQ : k = Q.length := by omega
  subst hkQ
  have hend := hSr.end_ hPer hL0 hfN h0 (fun S hS1 hS2 => LnkP.ind S hS1 hS2) (fun x y h => h.link)
  refine Gax O (thenQ_x (Gfo O (Ops.add O O O (by omega) (Gdn O (tQ ?_)))))
  exact ⟨(f + 1, L), by show i - (f + 1) < i - f; omega, ⟨O, O, O, O, O, trivial⟩, by show f + 1 ≤ i; omega, hend, hS.tail⟩
 have hfe : f = i := by omega
 rw [hfe] at hL0
 refine Gax O (thenQ_x (Gfr O ?_))
 refine ret1_s O ?_
 exact ⟨A7, c7, L0, O, hL0, hS⟩
/-
 The reference's test of strong connection, walked.
-/
theorem LnkP.cv {n : Nat} {fl : List (List Int)} {S S' : Nat → Prop} (hS : ∀ k, k < n → (S k ↔ S' k)) {u v : Nat} (h : LnkP n fl S u v) : LnkP n fl S' u v := by
 induction h with
 | refl h => exact .refl h
 | step _ hi hs had ih => exact .step ih hi (fun h => hs ((hS _ hi).2 h)) had
def mskP (a b : List Int) : Nat → Nat
 | 0 => 0
 | i + 1 => if gi a (i : Int) = gi b (i : Int) then mskP a b i + 2 ^ i else mskP a b i
theorem mskP_lt (a b : List Int) : ∀ i, mskP a b i < 2 ^ i
 | 0 => Nat.one_pos
 | i + 1 => by
  have := mskP_lt a b i
  unfold mskP
  rw [Nat.pow_succ]
  split <;> omega
theorem bitS_test {m i : Nat} : bitS m i ↔ m.testBit i = true := by
 unfold bitS
 rw [Nat.testBit_eq_decide_div_mod_eq, decide_eq_true_eq]
theorem mskP_bit (a b : List Int) : ∀ {m i : Nat}, i < m → (bitS (mskP a b m) i ↔ gi a (i : Int) = gi b (i : Int))
 | 0, i, h => absurd h (Nat.not_lt_zero _)
 | m + 1, i, h => by
  have hlt := mskP_lt a b m
  rw [bitS_test]
  unfold mskP
  by_cases e : i = m
  ·subst e
   have hf := Nat.testBit_lt_two_pow hlt
   split
   ·rename_i c
    rw [Nat.add_comm, Nat.testBit_two_pow_add_eq, hf]
    exact ⟨fun _ => c, fun _ => O⟩
   ·rename_i c
    rw [hf]
    exact ⟨fun h => (by cases h), fun h => absurd h c⟩
  ·have ih := mskP_bit a b (m := m) (i := i) (by omega)
   rw [bitS_test] at ih
   split
   ·rw [Nat.add_comm, Nat.testBit_two_pow_add_gt (by omega)]; exact ih
   ·exact ih
set_option maxHeartbeats 4000000 in
theorem l03Parted_c (A : Option Addr) (N c : Nat) (rs : List SlV) (fl : List (List Int)) (n : Nat) (w : World) (hM : RowsI w A N rs fl) (hN0 : 0 < N) (hN : N ≤ 400) (hn : n ≤ 5) (hl : ∀ x ∈ fl, x.length = n) (hnd : fl.Nodup) :
  Ret Tryz.prog 145 [.slice A N c] w (fun v w' => ∃ A' n' c', v = .slice A' n' c' ∧ (n' = 0 ↔ ConP n fl) ∧ St w w' []) := by
 have hfl := hM.len
 have hgm : ∀ f : Nat, f < N → gl fl (f : Int) ∈ fl := fun f hf => by rw [gl_mem (by omega)]; exact List.getElem_mem _
 have hrow : ∀ f : Nat, f < N → (rg rs (f : Int)).n = n := fun f hf => by
  have := (hM.at_ (i := (f : Int)) (by omega) (by omega)).1
  rw [← this]; exact hl _ (hgm f hf)
 have h2n : 2 ^ n ≤ 32 := Nat.le_trans (Nat.pow_le_pow_right (by decide) hn) (by decide)
 refine Ret.of_cd Tryz.func145 O Tryz.ntmps145 O (post1 O) (Gbo O (Ops.call (l03Near_c A N c rs fl n w hM hN0 hN hn hl hnd) O O O ?_))
 rintro _ w1 ⟨A3, c3, os, rss, rfl, hNr⟩
 have hR := hNr.rd
 have hS0 := hNr.st.none
 have hM := hNr.st.oldRows hM
 clear hNr
 refine Ops.bs0 (St.refl w1) O ?_
 intro A4 w2 hS2
 refine Gdc O ?_
 refine Cd.loop (α := Nat × (Option Addr × Nat) × List SlV × List (List Int)) (fun z => [(0, .slice A N c), (3, .slice A3 n c3), (4, .slice z.2.1.1 z.1 z.2.1.2), (5, .int .i64 (z.1 : Int))]) (fun z w' => z.1 ≤ 2 ^ n ∧ z.2.2.1.length = z.1 ∧ z.2.2.2.length = z.1 ∧ (∀ q : Nat, q < z.1 → LblP N (LnkP n fl (bitS q)) N (gl z.2.2.2 (q : Int))) ∧ St w1 w' (mat 32 2 z.2.1.1 z.1 z.2.1.2 z.2.2.1 z.2.2.2 ++ [])) (fun z => 2 ^ n - z.1) (0, (A4, 0), [], []) ⟨O, O, O, O, trivial⟩ ⟨Nat.zero_le _, O, O, fun q h => absurd h (Nat.not_lt_zero _), hS2⟩ ?_
 clear hS2
 rintro ⟨m, ⟨A4, c4⟩, rs4, Ls⟩ e w3 ⟨hm, hrl, hLl, hLb, hS⟩
 dsimp only at hm hrl hLl hLb hS ⊢
 refine Gbo O (Ops.len O O ?_)
 refine Ops.convK O O (wrap_u64_in _ (by omega)) (Ops.shlN O O hn O (Gdc O ?_))
 refine Cd.cond_p _ O (fun h1 => ?_) (fun h1 => ?_)
 ·have hm2 : m < 2 ^ n := by omega
  refine Gao O (Ops.len O O (Gdo O ?_))
  refine Ops.call (l03Linked_c A3 c3 os rss fl n N m w3 hfl (hR.later hS.below) (by omega) hN hn) O O O ?_
  rintro _ w4 ⟨A9, c9, L, rfl, hL, hst⟩
  have hS4 := hS.call hst
  refine Ops.bs1R hS4 O O O ?_
  intro A8 w5 hS5
  refine Ops.appR 2 hS5 O (hS5.rdR 0 O) O O O (by omega) (by omega) O ?_
  intro AZ cZ w6 hS6
  have hS6 := hS6.tail
  have hS7 : St w1 w6 (CkI 2 A9 N c9 L :: CkR 32 AZ (m + 1) cZ (rs4 ++ [⟨A9, N, c9⟩]) :: (rowsCk 2 rs4 Ls ++ [])) := hS6
  have hS7 := hS7.perm (perm_j _ _ _ _)
  rw [← rowsCk_snoc (by omega)] at hS7
  refine Gdo O (Ops.add O O O (by omega) (Gdn O (tQ ?_)))
  refine ⟨(m + 1, (AZ, cZ), rs4 ++ [⟨A9, N, c9⟩], Ls ++ [L]), by show 2 ^ n - (m + 1) < 2 ^ n - m; omega, ⟨O, O, O, O, trivial⟩, by show m + 1 ≤ 2 ^ n; omega, by simp [hrl], by simp [hLl], fun q hq => ?_, (by exact hS7)⟩
  have hq : q < m + 1 := hq
  have e9 : gl (Ls ++ [L]) (q : Int) = if q < m then gl Ls (q : Int) else L := by
   rw [gl_mem (by simp; omega)]
   by_cases c : q < m
   ·rw [if_pos c, gl_mem (by omega), List.getElem_append_left (by omega)]
   obtain rfl : q = m := by omega
   rw [if_neg c]; simp [hLl]
  show LblP N _ N (gl (Ls ++ [L]) (q : Int))
  rw [e9]
  split
  ·exact hLb q (by assumption)
  obtain rfl : q = m := by omega
  exact hL
 have hme : m = 2 ^ n := by omega
 have hRM : RowsI w3 A4 m rs4 Ls := by
  rw [List.append_nil] at hS
  exact hS.rowsI1 hLl
 have hM3 := hM.later hS.below
 have hS3 := hS0.later hS.below
 clear hS hR hM hS0
 refine Gax O (thenQ_x (Gfc O ?_))
 refine Cd.loop (α := Nat) (fun a => [(0, .slice A N c), (4, .slice A4 m c4), (6, .int .i64 (a : Int))]) (fun a w' => a ≤ N ∧ (∀ a' b' : Nat, a' < a → a' < b' → b' < N → LnkP n fl (fun k => gi (gl fl (a' : Int)) (k : Int) = gi (gl fl (b' : Int)) (k : Int)) a' b') ∧ St w3 w' []) (fun a => N - a) 0 ⟨O, O, O, trivial⟩ ⟨Nat.zero_le _, fun a' b' h => absurd h (Nat.not_lt_zero _), St.refl _⟩ ?_
 rintro a e w4 ⟨ha, hda, hS⟩
 refine Gbo O (Ops.len O O (Gdc O ?_))
 refine Cd.cond_p _ O (fun h2 => ?_) (fun h2 => ?_)
 ·have haN : a < N := by omega
  refine Gao O (Ops.add O O O (by omega) (Gdc O ?_))
  refine Cd.loop (α := Nat) (fun b => [(0, .slice A N c), (4, .slice A4 m c4), (6, .int .i64 (a : Int)), (7, .int .i64 (b : Int))]) (fun b w' => (a < b ∧ b ≤ N) ∧ (∀ b' : Nat, a < b' → b' < b → LnkP n fl (fun k => gi (gl fl (a : Int)) (k : Int) = gi (gl fl (b' : Int)) (k : Int)) a b') ∧ St w3 w' []) (fun b => N - b) (a + 1) ⟨O, O, O, O, trivial⟩ ⟨⟨Nat.lt_succ_self _, haN⟩, fun b' h h' => by omega, hS⟩ ?_
  clear hS
  rintro b e w5 ⟨⟨hab, hbN⟩, hdb, hS⟩
  refine Gbo O (Ops.len O O (Gdc O ?_))
  refine Cd.cond_p _ O (fun h3 => ?_) (fun h3 => ?_)
  ·have hb : b < N := by omega
   have hna := hrow a haN
   have hnb := hrow b hb
   refine Gac O ?_
   refine Cd.loop (α := Nat) (fun i => [(0, .slice A N c), (4, .slice A4 m c4), (6, .int .i64 (a : Int)), (7, .int .i64 (b : Int)), (8, .int .i64 ((mskP (gl fl (a : Int)) (gl fl (b : Int)) i : Nat) : Int)), (9, .int .i64 (i : Int))]) (fun i w' => i ≤ n ∧ St w3 w' []) (fun i => n - i) 0 ⟨O, O, O, O, O, O, trivial⟩ ⟨Nat.zero_le _, hS⟩ ?_
   clear hS
   rintro i e w6 ⟨hi, hS⟩
   have hM6 := hM3.later hS.below
   have hra := hM6.at_ (i := (a : Int)) (by omega) (by omega)
   have hrb := hM6.at_ (i := (b : Int)) (by omega) (by omega)
   have hla := hra.1; have hlb := hrb.1
   have hms := mskP_lt (gl fl (a : Int)) (gl fl (b : Int)) i
   have h2i : 2 ^ i ≤ 32 := Nat.le_trans (Nat.pow_le_pow_right (by decide) (show i ≤ 5 by omega)) (by decide)
   refine Gbo O (Ops.idx hM6.top.2 O O O (by omega) (by omega) (Ops.ld_sl hM6.top O (by omega) O O ?_))
   refine Ops.len O O (Gdc O ?_)
   refine Cd.cond_p _ O (fun h4 => ?_) (fun h4 => ?_)
   ·have hin : i < n := by omega
    refine Gac O ?_
    refine Cd.draw [xS (A) (N) (c), xI ((a : Int)), xP (ptrAt (A) ((a : Int)).toNat), xS ((rg (rs) ((a : Int))).a) ((rg (rs) ((a : Int))).n) ((rg (rs) ((a : Int))).c), xI ((i : Int)), xP (ptrAt ((rg (rs) ((a : Int))).a) ((i : Int)).toNat), xI (gi (gl fl (a : Int)) ((i : Int))), xS (A) (N) (c), xI ((b : Int)), xP (ptrAt (A) ((b : Int)).toNat), xS ((rg (rs) ((b : Int))).a) ((rg (rs) ((b : Int))).n) ((rg (rs) ((b : Int))).c), xI ((i : Int)), xP (ptrAt ((rg (rs) ((b : Int))).a) ((i : Int)).toNat), xI (gi (gl fl (b : Int)) ((i : Int))), xB (decide ((gi (gl fl (a : Int)) ((i : Int))) = (gi (gl fl (b : Int)) ((i : Int)))))] (by kernel_rfl) (by kernel_rfl) O (exL O) ?_ ?_
    ·exact ⟨Dr O, Dr O, fun _ _ hb _ _ => Ops.idx (hM6.top.later hb).2 O O O (by omega) (by omega) (Az O), fun _ _ hb _ _ => Ops.ld_sl (hM6.top.later hb) O (by omega) O O (Az O), Dr O, fun _ _ hb _ _ => Ops.idx (hra.later hb).2 O O O (by omega) (by omega) (Az O), fun _ _ hb _ _ => Ops.ld_int (hra.later hb) O (by omega) O O (Az O), Dr O, Dr O, fun _ _ hb _ _ => Ops.idx (hM6.top.later hb).2 O O O (by omega) (by omega) (Az O), fun _ _ hb _ _ => Ops.ld_sl (hM6.top.later hb) O (by omega) O O (Az O), Dr O, fun _ _ hb _ _ => Ops.idx (hrb.later hb).2 O O O (by omega) (by omega) (Az O), fun _ _ hb _ _ => Ops.ld_int (hrb.later hb) O (by omega) O O (Az O), Dr O, trivial⟩
    intro u w7 hb7 _
    have hS7 := hS.later hb7
    refine Gec O ?_
    refine Cd.cond_p _ O (fun h5 => ?_) (fun h5 => ?_)
    ·have hmn : mskP (gl fl (a : Int)) (gl fl (b : Int)) (i + 1) = mskP (gl fl (a : Int)) (gl fl (b : Int)) i + 2 ^ i := by
      show (if _ then _ else _) = _
      rw [if_pos h5]
     refine Gao O (Ops.convK O O (wrap_u64_in _ (by omega)) (Ops.shlN O O (by omega) O ?_))
     refine Ops.add O O O (by omega) (Gdo O (Ops.add O O O (by omega) (Gdn O (tQ ?_))))
     exact ⟨i + 1, by show n - (i + 1) < n - i; omega, ⟨O, O, O, O, congrArg (fun m : Nat => Value.int .i64 (m : Int)) hmn.symm, O, trivial⟩, by omega, hS7⟩
    have hmn : mskP (gl fl (a : Int)) (gl fl (b : Int)) (i + 1) = mskP (gl fl (a : Int)) (gl fl (b : Int)) i := by
     show (if _ then _ else _) = _
     rw [if_neg h5]
    refine Gao O (Ops.add O O O (by omega) (Gdn O (tQ ?_)))
    exact ⟨i + 1, by show n - (i + 1) < n - i; omega, ⟨O, O, O, O, congrArg (fun m : Nat => Value.int .i64 (m : Int)) hmn.symm, O, trivial⟩, by omega, hS7⟩
   have hie : i = n := by omega
   subst hie
   obtain ⟨K, hK⟩ : ∃ K, mskP (gl fl (a : Int)) (gl fl (b : Int)) i = K := ⟨_, rfl⟩
   have hbit := fun k (hk : k < i) => mskP_bit (gl fl (a : Int)) (gl fl (b : Int)) hk
   rw [hK] at hms ⊢
   simp only [hK] at hbit
   have hRM6 := hRM.later hS.below
   have hrK := hRM6.at_ (i := (K : Int)) (by omega) (by omega)
   have hLK := hLb K (by omega)
   have hLKl := hLK.1
   have hrKn := hrK.1
   have hPer : Per N (LnkP i fl (bitS K)) := hfl ▸ LnkP.per i fl (bitS K)
   have hdne := hLK.done hPer (a := a) (b := b) (.refl (by omega)) (.refl (by omega))
   refine Gax O (thenQ_x (Gfc O ?_))
   refine Cd.draw [xS (A4) (m) (c4), xI ((K : Int)), xP (ptrAt (A4) ((K : Int)).toNat), xS ((rg (rs4) ((K : Int))).a) ((rg (rs4) ((K : Int))).n) ((rg (rs4) ((K : Int))).c), xI ((a : Int)), xP (ptrAt ((rg (rs4) ((K : Int))).a) ((a : Int)).toNat), xI (gi (gl Ls (K : Int)) ((a : Int))), xS (A4) (m) (c4), xI ((K : Int)), xP (ptrAt (A4) ((K : Int)).toNat), xS ((rg (rs4) ((K : Int))).a) ((rg (rs4) ((K : Int))).n) ((rg (rs4) ((K : Int))).c), xI ((b : Int)), xP (ptrAt ((rg (rs4) ((K : Int))).a) ((b : Int)).toNat), xI (gi (gl Ls (K : Int)) ((b : Int))), xB (decide (¬ (gi (gl Ls (K : Int)) ((a : Int))) = (gi (gl Ls (K : Int)) ((b : Int)))))] (by kernel_rfl) (by kernel_rfl) O (exL O) ?_ ?_
   ·exact ⟨Dr O, Dr O, fun _ _ hb _ _ => Ops.idx (hRM6.top.later hb).2 O O O (by omega) (by omega) (Az O), fun _ _ hb _ _ => Ops.ld_sl (hRM6.top.later hb) O (by omega) O O (Az O), Dr O, fun _ _ hb _ _ => Ops.idx (hrK.later hb).2 O O O (by omega) (by omega) (Az O), fun _ _ hb _ _ => Ops.ld_int (hrK.later hb) O (by omega) O O (Az O), Dr O, Dr O, fun _ _ hb _ _ => Ops.idx (hRM6.top.later hb).2 O O O (by omega) (by omega) (Az O), fun _ _ hb _ _ => Ops.ld_sl (hRM6.top.later hb) O (by omega) O O (Az O), Dr O, fun _ _ hb _ _ => Ops.idx (hrK.later hb).2 O O O (by omega) (by omega) (Az O), fun _ _ hb _ _ => Ops.ld_int (hrK.later hb) O (by omega) O O (Az O), Dr O, trivial⟩
   intro u w7 hb7 _
   have hS7 := hS.later hb7
   refine Gec O ?_
   refine Cd.cond_p _ O (fun h5 => ?_) (fun h5 => ?_)
   ·refine Gao O ?_
    refine Ops.bsL [(a : Int), (b : Int)] hS7 O O (by decide) (by decide) O O ?_
    intro A9 w8 hS8
    refine Gdr O (thenQ_r (Qk_ret (thenQ_r (Qk_ret ?_))))
    refine ret1_s O ?_
    exact ⟨A9, 2, 2, O, ⟨fun h => absurd h (by decide), fun h => absurd (hdne.2 ((h a b hab (by omega)).cv fun k hk => (hbit k hk).symm)) h5⟩, hS3.call hS8.none⟩
   have hok := (hdne.1 (Classical.not_not.1 h5)).cv hbit
   refine Gao O (Ops.add O O O (by omega) (Gdn O (tQ ?_)))
   exact ⟨b + 1, by show N - (b + 1) < N - b; omega, ⟨O, O, O, O, trivial⟩, ⟨by omega, by omega⟩, fun b' h6 h7 => by
    by_cases eb : b' = b
    ·subst eb; exact hok
    exact hdb b' h6 (by omega), hS7⟩
  refine Gax O (thenQ_x (Gfo O (Ops.add O O O (by omega) (Gdn O (tQ ?_)))))
  exact ⟨a + 1, by show N - (a + 1) < N - a; omega, ⟨O, O, O, trivial⟩, by omega, fun a' b' h4 h5 h6 => by
   by_cases ea : a' = a
   ·subst ea; exact hdb b' h5 (by omega)
   exact hda a' b' (by omega) h5 h6, hS⟩
 refine Gax O (thenQ_x (Gfo O ?_))
 refine Ops.bs0 hS O ?_
 intro A9 w8 hS8
 refine Gdr O (ret1_s O ?_)
 exact ⟨A9, 0, 0, O, ⟨fun _ a' b' h3 h4 => hda a' b' (by omega) h3 (by omega), fun _ => O⟩, hS3.call hS8.none⟩
/-
 The reference's test of diamonds, walked.
-/
theorem dec_nt {p : Prop} [Decidable p] (h : ¬ p) : true = decide (¬ p) := by simp [h]
theorem dec_nf {p : Prop} [Decidable p] (h : p) : false = decide (¬ p) := by simp [h]
theorem neqb_dec (p q : Prop) [Decidable p] [Decidable q] : (!(decide p == decide q)) = decide (¬ (p ↔ q)) := by
 by_cases hp : p <;> by_cases hq : q <;> simp [hp, hq]
instance (R : List Int) (i e : Int) : Decidable (LoP R i e) := by unfold LoP; infer_instance
instance (n : Int) (R : List Int) (i e : Int) : Decidable (HiP n R i e) := by unfold HiP; infer_instance
def midT (R : List Int) (B : List (List Int)) (i a b : Int) (m : Nat) : Nat := ((rngI m).filter fun d => decide (gi R d = i ∧ (a < 0 ∨ a ∈ gl B d) ∧ (b < 0 ∨ d ∈ gl B b))).length
theorem midT_next (R : List Int) (B : List (List Int)) (i a b : Int) (m : Nat) : midT R B i a b (m + 1) = if gi R (m : Int) = i ∧ (a < 0 ∨ a ∈ gl B (m : Int)) ∧ (b < 0 ∨ (m : Int) ∈ gl B b) then midT R B i a b m + 1 else midT R B i a b m := by
 have e9 : rngI (m + 1) = rngI m ++ [(m : Int)] := by
  unfold rngI
  rw [List.range_succ, List.map_append]; rfl
 unfold midT
 rw [e9, List.filter_append, List.length_append]
 by_cases c : gi R (m : Int) = i ∧ (a < 0 ∨ a ∈ gl B (m : Int)) ∧ (b < 0 ∨ (m : Int) ∈ gl B b)
 ·rw [if_pos c, List.filter_cons_of_pos (by simpa using c)]; rfl
 rw [if_neg c, List.filter_cons_of_neg (by simpa using c)]; rfl
theorem midT_le (R : List Int) (B : List (List Int)) (i a b : Int) (m : Nat) : midT R B i a b m ≤ m := by
 refine Nat.le_trans (List.length_filter_le _ _) ?_
 rw [rngI, List.length_map, List.length_range]; exact Nat.le_refl _
set_option maxHeartbeats 4000000 in
theorem l03Fault_c (n : Int) (A D : Option Addr) (cA cD : Nat) (R : List Int) (rs : List SlV) (B : List (List Int)) (w : World) (hR : RdI w A R.length R) (hB : RowsI w D B.length rs B) (hP : PosP n R B) :
  Ret Tryz.prog 144 [.agg #[.int .i64 n, .slice A R.length cA, .slice D B.length cD]] w (fun v w' => ∃ A' n' c', v = .slice A' n' c' ∧ (n' = 0 ↔ DiaP n R B) ∧ St w w' []) := by
 have hn := hP.n1
 have hbg := hP.big
 have hle := hP.len
 have hrl : ∀ e : Int, 0 ≤ e → e < R.length → (gl B e).length ≤ 500 := fun e h0 h => by
  have := nodup_le_int (N := R.length) (hP.at_ h0 h).1.nodup fun x hx => by have := ((hP.at_ h0 h).2.1 x hx).1; omega
  omega
 have hri := fun (e : Int) (h0 : 0 ≤ e) (h : e < (R.length : Int)) => hP.ri h0 h
 have hmid : ∀ i a b, midT R B i a b R.length = (MidP R B i a b).length := fun i a b => O
 obtain ⟨N, hN⟩ : ∃ N, R.length = N := ⟨_, rfl⟩
 have hLo : ∀ i a, LoP R i a ↔ ((a = -1 ∧ i = 0) ∨ ((0 ≤ a ∧ a < (N : Int)) ∧ 0 < i ∧ gi R a = i - 1)) := fun i a => by rw [← hN]; rfl
 have hHi : ∀ i b, HiP n R i b ↔ ((b = -1 ∧ i = n - 1) ∨ ((0 ≤ b ∧ b < (N : Int)) ∧ i < n - 1 ∧ gi R b = i + 1)) := fun i b => by rw [← hN]; rfl
 rw [hN] at hR hbg hle hrl hri hmid ⊢
 rw [hle] at hB ⊢
 refine Ret.of_cd Tryz.func144 O Tryz.ntmps144 O (post1 O) (Gbo O (Ops.box3T (St.refl w) O O ?_))
 intro A1 w1 hS1
 have h1 : Rd w1 A1 3 (fun j => [Value.int .i64 n, .slice A N cA, .slice D N cD].getD j undef) := hS1.rd 0 O
 have hR := hS1.oldI hR; have hB := hS1.oldRows hB
 have hS1 := hS1.none
 refine Gdo O (Ops.fld h1 O O O O inferInstance (Ops.ldf_s (j := 1) h1 (by exact congrArg Value.pointer O) O O O O ?_))
 refine Ops.len O O (Gdc O ?_)
 refine Cd.loop (α := Nat) (fun i => [(1, .pointer A1), (3, .int .i64 (N : Int)), (4, .int .i64 (i : Int))]) (fun i w' => w' = w1 ∧ (i : Int) ≤ n ∧ ∀ i' a b : Int, 0 ≤ i' → i' < (i : Int) → LoP R i' a → HiP n R i' b → (0 ≤ a → 0 ≤ b → a ∈ gl B b) → (MidP R B i' a b).length = 2) (fun i => n.toNat - i) 0 ⟨O, O, O, trivial⟩ ⟨O, by show ((0 : Nat) : Int) ≤ n; omega, fun i' a b h h' => by have h' : i' < ((0 : Nat) : Int) := h'; omega⟩ ?_
 rintro i e w2 ⟨rfl, hi, hdi⟩
 refine Gbo O (Ops.fld h1 O O O O inferInstance (Ops.ldf_i (j := 0) h1 (by exact congrArg Value.pointer O) O O O O (Gdc O ?_)))
 refine Cd.cond_p _ O (fun h2 => ?_) (fun h2 => ?_)
 ·refine Gac O ?_
  refine Cd.loop (α := Nat) (fun z => [(1, .pointer A1), (3, .int .i64 (N : Int)), (4, .int .i64 (i : Int)), (5, .int .i64 ((z : Int) - 1))]) (fun z w' => w' = w2 ∧ z ≤ N + 1 ∧ ∀ a b : Int, a < (z : Int) - 1 → LoP R i a → HiP n R i b → (0 ≤ a → 0 ≤ b → a ∈ gl B b) → (MidP R B i a b).length = 2) (fun z => N + 1 - z) 0 ⟨O, O, O, O, trivial⟩ ⟨O, Nat.zero_le _, fun a b h h' => by
   have h : a < ((0 : Nat) : Int) - 1 := h
   have := (hLo _ _).1 h'; omega⟩ ?_
  rintro z e w3 ⟨rfl, hz, hda⟩
  obtain ⟨a, ha⟩ : ∃ a : Int, (z : Int) - 1 = a := ⟨_, rfl⟩
  rw [ha] at hda ⊢
  refine Gbc O ?_
  refine Cd.cond_p _ O (fun h3 => ?_) (fun h3 => ?_)
  ·have hLa := hLo (i : Int) a
   have hnextA : ∀ a' b : Int, (a' = a → LoP R i a → HiP n R i b → (0 ≤ a → 0 ≤ b → a ∈ gl B b) → (MidP R B i a b).length = 2) → a' < ((z + 1 : Nat) : Int) - 1 → LoP R i a' → HiP n R i b → (0 ≤ a' → 0 ≤ b → a' ∈ gl B b) → (MidP R B i a' b).length = 2 := fun a' b h h' q1 q2 q3 => by
    by_cases ea : a' = a
    ·have h9 := h ea
     rw [ea] at q1 q3 ⊢
     exact h9 q1 q2 q3
    exact hda a' b (by omega) q1 q2 q3
   refine Gaj 4 O ?_
   refine Cd.join (α := Unit) (fun _ => [(1, .pointer A1), (3, .int .i64 (N : Int)), (4, .int .i64 (i : Int)), (5, .int .i64 a), (41, .bool (decide (¬ LoP R i a)))]) (fun _ w' => w' = w3) ?_ ?_
   ·refine Gbo O (Ops.neqB O O O ?_)
    rw [neqb_dec]
    refine Gdo O ?_
    refine Ops.split_p 28 O (fun p1 => ?_) (fun p1 => ?_)
    ·refine Ops.k O O O O O (Ops.k O O O O O (Ops.k O O O O O (Ops.skipu O O O O (Ops.skipu O O O O (Ops.skipu O O O O (Ops.skipu O O O O (Ops.skipu O O O O (Ops.skipu O O O O (Ops.skipu O O O O (Ops.skipu O O O O (Ops.k O O O O O ?_)))))))))))
     refine Gdn O (tQ ?_)
     exact ⟨(), ⟨O, O, O, O, congrArg Value.bool (dec_nt (fun h => p1 (by have := hLa.1 h; omega))), trivial⟩, O⟩
    refine Ops.g O O O (Gdo O (Ops.g O O O (Gdo O (Ops.g O O O (Gdo O ?_)))))
    refine Ops.split_p 31 O (fun p2 => ?_) (fun p2 => ?_)
    ·refine Ops.g O O O (Ops.fld h1 O O O O inferInstance (Ops.g O O O (Ops.ldf_s (j := 1) h1 (by exact congrArg Value.pointer O) O O O O ?_)))
     refine Ops.g O O O (Gdo O (Ops.g O O O ?_))
     refine Ops.idx hR.2 O O O (by omega) (by omega) (Ops.g O O O (Ops.ld_int hR O (by omega) O O ?_))
     refine Ops.g O O O (Gdo O (Ops.g O O O (Ops.sub O O O (by omega) (Ops.g O O O (Gdo O (Ops.g O O O (Gdn O (tQ ?_))))))))
     exact ⟨(), ⟨O, O, O, O, congrArg Value.bool (decide_eq_decide.2 ⟨fun h h' => by have := hLa.1 h'; omega, fun h h' => h (hLa.2 (.inr ⟨by omega, by omega, h'⟩))⟩), trivial⟩, O⟩
    refine Ops.k O O O O O (Ops.k O O O O O (Ops.k O O O O O (Ops.k O O O O O (Ops.k O O O O O (Ops.k O O O O O (Ops.k O O O O O (Ops.k O O O O O (Ops.g O O O (Gdn O (tQ ?_))))))))))
    exact ⟨(), ⟨O, O, O, O, congrArg Value.bool (dec_nf (hLa.2 (.inl (by omega)))), trivial⟩, O⟩
   rintro _ e w4 rfl
   refine Cd.cond_p _ O (fun h4 => ?_) (fun h4 => ?_)
   ·refine Gao O (Ops.add O O O (by omega) (Gdn O (tQ ?_)))
    exact ⟨z + 1, by show N + 1 - (z + 1) < N + 1 - z; omega, ⟨O, O, O, congrArg (Value.int .i64) (by show a + 1 = ((z + 1 : Nat) : Int) - 1; omega), trivial⟩, O, by omega, fun a' b => hnextA a' b fun _ h => absurd h h4⟩
   have hLoa : LoP R i a := Classical.not_not.1 h4
   refine Gac O ?_
   refine Cd.loop (α := Nat) (fun y => [(1, .pointer A1), (3, .int .i64 (N : Int)), (4, .int .i64 (i : Int)), (5, .int .i64 a), (6, .int .i64 ((y : Int) - 1))]) (fun y w' => w' = w4 ∧ y ≤ N + 1 ∧ ∀ b : Int, b < (y : Int) - 1 → HiP n R i b → (0 ≤ a → 0 ≤ b → a ∈ gl B b) → (MidP R B i a b).length = 2) (fun y => N + 1 - y) 0 ⟨O, O, O, O, O, trivial⟩ ⟨O, Nat.zero_le _, fun b h h' => by
    have h : b < ((0 : Nat) : Int) - 1 := h
    have := (hHi _ _).1 h'; omega⟩ ?_
   rintro y e w5 ⟨rfl, hy, hdb⟩
   obtain ⟨b, hb⟩ : ∃ b : Int, (y : Int) - 1 = b := ⟨_, rfl⟩
   rw [hb] at hdb ⊢
   refine Gbc O ?_
   refine Cd.cond_p _ O (fun h5 => ?_) (fun h5 => ?_)
   ·have hHb := hHi (i : Int) b
    have hnextB : (HiP n R i b → (0 ≤ a → 0 ≤ b → a ∈ gl B b) → (MidP R B i a b).length = 2) → ∀ b' : Int, b' < ((y + 1 : Nat) : Int) - 1 → HiP n R i b' → (0 ≤ a → 0 ≤ b' → a ∈ gl B b') → (MidP R B i a b').length = 2 := fun h b' h' q1 q2 => by
     by_cases eb : b' = b
     ·rw [eb] at q1 q2 ⊢
      exact h q1 q2
     exact hdb b' (by omega) q1 q2
    refine Gaj 4 O ?_
    refine Cd.join (α := Unit) (fun _ => [(1, .pointer A1), (3, .int .i64 (N : Int)), (4, .int .i64 (i : Int)), (5, .int .i64 a), (6, .int .i64 b), (86, .bool (decide (¬ (HiP n R i b ∧ (0 ≤ a → 0 ≤ b → a ∈ gl B b)))))]) (fun _ w' => w' = w5) ?_ ?_
    ·refine Gbo O (Ops.fld h1 O O O O inferInstance (Ops.ldf_i (j := 0) h1 (by exact congrArg Value.pointer O) O O O O ?_))
     refine Ops.sub O O O (by omega) (Gdo O ?_)
     refine Ops.neqB O O O ?_
     rw [neqb_dec]
     refine Gdo O ?_
     refine Ops.split_p 55 O (fun p1 => ?_) (fun p1 => ?_)
     ·refine Ops.k O O O O O (Ops.k O O O O O (Ops.k O O O O O (Ops.skipu O O O O (Ops.skipu O O O O (Ops.skipu O O O O (Ops.skipu O O O O (Ops.skipu O O O O (Ops.skipu O O O O (Ops.skipu O O O O (Ops.skipu O O O O (Ops.k O O O O O ?_)))))))))))
      refine Gdo O (Ops.k O O O O O (Ops.k O O O O O (Ops.k O O O O O (Ops.skipu O O O O (Ops.skipu O O O O (Ops.k O O O O O (Ops.k O O O O O (Ops.skipu O O O O (Ops.skipu O O O O (Ops.skipu O O O O (Ops.skipu O O O O ?_)))))))))))
      refine Ops.skipu O O O O (Ops.skipu O O O O (Ops.skipu O O O O (Ops.skipu O O O O (Ops.k O O O O O (Gdn O (tQ ?_))))))
      exact ⟨(), ⟨O, O, O, O, O, congrArg Value.bool (dec_nt (fun h => p1 (by have := hHb.1 h.1; omega))), trivial⟩, O⟩
     refine Ops.g O O O (Gdo O (Ops.g O O O (Gdo O (Ops.g O O O (Gdo O ?_)))))
     refine Ops.split_p 58 O (fun p2 => ?_) (fun p2 => ?_)
     ·have hrob := hB.at_ (i := b) (by omega) (by omega)
      have hrnb := hrob.1
      have hrlb := hrl b (by omega) (by omega)
      refine Ops.g O O O (Ops.fld h1 O O O O inferInstance (Ops.g O O O (Ops.ldf_s (j := 1) h1 (by exact congrArg Value.pointer O) O O O O ?_)))
      refine Ops.g O O O (Gdo O (Ops.g O O O ?_))
      refine Ops.idx hR.2 O O O (by omega) (by omega) (Ops.g O O O (Ops.ld_int hR O (by omega) O O ?_))
      have hrib := hri (b : Int) (by omega) (by omega)
      refine Ops.g O O O (Gdo O (Ops.g O O O (Ops.add O O O (by omega) (Ops.g O O O (Gdo O (Ops.g O O O (Gdo O ?_)))))))
      refine Ops.split_p 69 O (fun p3 => ?_) (fun p3 => ?_)
      ·refine Ops.k O O O O O (Ops.k O O O O O (Ops.k O O O O O (Ops.skipu O O O O (Ops.skipu O O O O (Ops.k O O O O O (Ops.k O O O O O (Ops.skipu O O O O (Ops.skipu O O O O (Ops.skipu O O O O (Ops.skipu O O O O (Ops.skipu O O O O ?_)))))))))))
       refine Ops.skipu O O O O (Ops.skipu O O O O (Ops.skipu O O O O (Ops.k O O O O O (Gdn O (tQ ?_)))))
       exact ⟨(), ⟨O, O, O, O, O, congrArg Value.bool (dec_nt (fun h => p3 (by have := hHb.1 h.1; omega))), trivial⟩, O⟩
      have hHib : HiP n R i b := hHb.2 (.inr ⟨by omega, by omega, by omega⟩)
      refine Ops.g O O O (Gdo O (Ops.g O O O (Gdo O (Ops.g O O O (Gdo O ?_)))))
      refine Ops.split_p 72 O (fun p4 => ?_) (fun p4 => ?_)
      ·refine Ops.g O O O (Gdo O (Ops.g O O O (Gdo O (Ops.g O O O (Gdo O (Ops.g O O O (Gdo O ?_)))))))
       refine Ops.split_p 76 O (fun p5 => ?_) (fun p5 => absurd p2 p5)
       refine Ops.g O O O (Ops.fld h1 O O O O inferInstance (Ops.g O O O (Ops.ldf_s (j := 2) h1 (by exact congrArg Value.pointer O) O O O O ?_)))
       refine Ops.g O O O (Gdo O (Ops.g O O O ?_))
       refine Ops.idx hB.top.2 O O O (by omega) (by omega) (Ops.g O O O (Ops.ld_sl hB.top O (by omega) O O ?_))
       refine Ops.g O O O (Gdo O (Ops.g O O O ?_))
       refine Ops.call (l01Has_c _ _ _ (gl B b) a _ hrob (by omega)) O O O ?_
       rintro _ w6 ⟨rfl, rfl⟩
       refine Ops.g O O O ?_
       first | refine Ops.not_p rfl rfl ?_ | refine Ops.not rfl rfl ?_
       refine Ops.g O O O (Gdn O (tQ ?_))
       exact ⟨(), ⟨O, O, O, O, O, congrArg Value.bool (decide_eq_decide.2 ⟨fun h h' => h (h'.2 p4 p2), fun h h' => h ⟨hHib, fun _ _ => h'⟩⟩), trivial⟩, O⟩
      refine Ops.k O O O O O (Ops.k O O O O O (Ops.g O O O (Gdo O (Ops.g O O O (Gdo O (Ops.k O O O O O (Ops.k O O O O O (Ops.k O O O O O (Ops.k O O O O O (Ops.k O O O O O (Ops.k O O O O O ?_)))))))))))
      refine Ops.k O O O O O (Ops.k O O O O O (Ops.g O O O (Gdn O (tQ ?_))))
      exact ⟨(), ⟨O, O, O, O, O, congrArg Value.bool (dec_nf ⟨hHib, fun h' => absurd h' p4⟩), trivial⟩, O⟩
     have hHib : HiP n R i b := hHb.2 (.inl (by omega))
     refine Ops.k O O O O O (Ops.k O O O O O (Ops.k O O O O O (Ops.k O O O O O (Ops.k O O O O O (Ops.k O O O O O (Ops.k O O O O O (Ops.k O O O O O (Ops.g O O O (Gdo O (Ops.g O O O (Gdo O ?_)))))))))))
     refine Ops.g O O O (Gdo O (Ops.g O O O (Gdo O ?_)))
     refine Ops.split_p 72 O (fun p4 => ?_) (fun p4 => ?_)
     ·refine Ops.g O O O (Gdo O (Ops.g O O O (Gdo O (Ops.g O O O (Gdo O (Ops.g O O O (Gdo O ?_)))))))
      refine Ops.split_p 76 O (fun p5 => absurd p5 p2) (fun p5 => ?_)
      refine Ops.k O O O O O (Ops.k O O O O O (Ops.k O O O O O (Ops.k O O O O O (Ops.k O O O O O (Ops.k O O O O O (Ops.k O O O O O (Ops.k O O O O O (Ops.g O O O (Gdn O (tQ ?_))))))))))
      exact ⟨(), ⟨O, O, O, O, O, congrArg Value.bool (dec_nf ⟨hHib, fun _ h' => absurd h' p2⟩), trivial⟩, O⟩
     refine Ops.k O O O O O (Ops.k O O O O O (Ops.g O O O (Gdo O (Ops.g O O O (Gdo O (Ops.k O O O O O (Ops.k O O O O O (Ops.k O O O O O (Ops.k O O O O O (Ops.k O O O O O (Ops.k O O O O O ?_)))))))))))
     refine Ops.k O O O O O (Ops.k O O O O O (Ops.g O O O (Gdn O (tQ ?_))))
     exact ⟨(), ⟨O, O, O, O, O, congrArg Value.bool (dec_nf ⟨hHib, fun h' => absurd h' p4⟩), trivial⟩, O⟩
    rintro _ e w6 rfl
    refine Cd.cond_p _ O (fun h6 => ?_) (fun h6 => ?_)
    ·refine Gao O (Ops.add O O O (by omega) (Gdn O (tQ ?_)))
     exact ⟨y + 1, by show N + 1 - (y + 1) < N + 1 - y; omega, ⟨O, O, O, O, congrArg (Value.int .i64) (by show b + 1 = ((y + 1 : Nat) : Int) - 1; omega), trivial⟩, O, by omega, hnextB fun q1 q2 => absurd ⟨q1, q2⟩ h6⟩
    have hok := Classical.not_not.1 h6
    have hbr := hHb.1 hok.1
    refine Gac O ?_
    refine Cd.loop (α := Nat) (fun m => [(1, .pointer A1), (3, .int .i64 (N : Int)), (4, .int .i64 (i : Int)), (5, .int .i64 a), (6, .int .i64 b), (7, .int .i64 ((midT R B i a b m : Nat) : Int)), (8, .int .i64 (m : Int))]) (fun m w' => w' = w6 ∧ m ≤ N) (fun m => N - m) 0 ⟨O, O, O, O, O, O, O, trivial⟩ ⟨O, Nat.zero_le _⟩ ?_
    rintro m e w7 ⟨rfl, hm⟩
    have hml := midT_le R B i a b m
    have hmn := midT_next R B i a b m
    refine Gbc O ?_
    refine Cd.cond_p _ O (fun h7 => ?_) (fun h7 => ?_)
    ·have hmN : m < N := by omega
     have hrom := hB.at_ (i := (m : Int)) (by omega) (by omega)
     have hrnm := hrom.1
     have hrlm := hrl (m : Int) (by omega) (by omega)
     refine Gaj 3 O ?_
     refine Cd.join (α := Unit) (fun _ => [(1, .pointer A1), (3, .int .i64 (N : Int)), (4, .int .i64 (i : Int)), (5, .int .i64 a), (6, .int .i64 b), (7, .int .i64 ((midT R B i a b m : Nat) : Int)), (8, .int .i64 (m : Int)), (124, .bool (decide (gi R (m : Int) = (i : Int) ∧ (a < 0 ∨ a ∈ gl B (m : Int)) ∧ (b < 0 ∨ (m : Int) ∈ gl B b))))]) (fun _ w' => w' = w7) ?_ ?_
     ·refine Gbo O (Ops.fld h1 O O O O inferInstance (Ops.ldf_s (j := 1) h1 (by exact congrArg Value.pointer O) O O O O (Gdo O (Ops.idx hR.2 O O O (by omega) (by omega) (Ops.ld_int hR O (by omega) O O (Gdo O ?_))))))
      refine Ops.split_p 99 O (fun p1 => ?_) (fun p1 => ?_)
      ·refine Ops.g O O O (Gdo O (Ops.g O O O (Gdo O (Ops.g O O O (Gdo O ?_)))))
       refine Ops.split_p 102 O (fun p2 => ?_) (fun p2 => ?_)
       ·refine Ops.k O O O O O (Ops.k O O O O O (Ops.k O O O O O (Ops.k O O O O O (Ops.k O O O O O (Ops.k O O O O O (Ops.k O O O O O (Ops.g O O O (Gdo O (Ops.g O O O (Gdo O (Ops.g O O O ?_)))))))))))
        refine Gdo O (Ops.g O O O (Gdo O ?_))
        refine Ops.split_p 115 O (fun p4 => ?_) (fun p4 => ?_)
        ·refine Ops.k O O O O O (Ops.k O O O O O (Ops.k O O O O O (Ops.k O O O O O (Ops.k O O O O O (Ops.k O O O O O (Ops.k O O O O O (Ops.g O O O (Gdn O (tQ ?_)))))))))
         exact ⟨(), ⟨O, O, O, O, O, O, O, congrArg Value.bool (decide_eq_true ⟨p1, .inl p2, .inl p4⟩).symm, trivial⟩, O⟩
        have hrob := hB.at_ (i := b) (by omega) (by omega)
        have hrnb := hrob.1
        have hrlb := hrl b (by omega) (by omega)
        refine Ops.g O O O (Ops.fld h1 O O O O inferInstance (Ops.g O O O (Ops.ldf_s (j := 2) h1 (by exact congrArg Value.pointer O) O O O O ?_)))
        refine Ops.g O O O (Gdo O (Ops.g O O O ?_))
        refine Ops.idx hB.top.2 O O O (by omega) (by omega) (Ops.g O O O (Ops.ld_sl hB.top O (by omega) O O ?_))
        refine Ops.g O O O (Gdo O (Ops.g O O O ?_))
        refine Ops.call (l01Has_c _ _ _ (gl B b) (m : Int) _ hrob (by omega)) O O O ?_
        rintro _ w9 ⟨rfl, rfl⟩
        refine Ops.g O O O (Gdn O (tQ ?_))
        exact ⟨(), ⟨O, O, O, O, O, O, O, congrArg Value.bool (decide_eq_decide.2 ⟨fun h => ⟨p1, .inl p2, .inr h⟩, fun h => h.2.2.resolve_left p4⟩), trivial⟩, O⟩
       refine Ops.g O O O (Ops.fld h1 O O O O inferInstance (Ops.g O O O (Ops.ldf_s (j := 2) h1 (by exact congrArg Value.pointer O) O O O O ?_)))
       refine Ops.g O O O (Gdo O (Ops.g O O O ?_))
       refine Ops.idx hB.top.2 O O O (by omega) (by omega) (Ops.g O O O (Ops.ld_sl hB.top O (by omega) O O ?_))
       refine Ops.g O O O (Gdo O (Ops.g O O O ?_))
       refine Ops.call (l01Has_c _ _ _ (gl B (m : Int)) a _ hrom (by omega)) O O O ?_
       rintro _ w8 ⟨rfl, rfl⟩
       refine Ops.g O O O (Gdo O ?_)
       refine Ops.split_p 112 O (fun p3 => ?_) (fun p3 => ?_)
       ·refine Ops.g O O O (Gdo O (Ops.g O O O (Gdo O (Ops.g O O O (Gdo O ?_)))))
        refine Ops.split_p 115 O (fun p4 => ?_) (fun p4 => ?_)
        ·refine Ops.k O O O O O (Ops.k O O O O O (Ops.k O O O O O (Ops.k O O O O O (Ops.k O O O O O (Ops.k O O O O O (Ops.k O O O O O (Ops.g O O O (Gdn O (tQ ?_)))))))))
         exact ⟨(), ⟨O, O, O, O, O, O, O, congrArg Value.bool (decide_eq_true ⟨p1, .inr p3, .inl p4⟩).symm, trivial⟩, O⟩
        have hrob := hB.at_ (i := b) (by omega) (by omega)
        have hrnb := hrob.1
        have hrlb := hrl b (by omega) (by omega)
        refine Ops.g O O O (Ops.fld h1 O O O O inferInstance (Ops.g O O O (Ops.ldf_s (j := 2) h1 (by exact congrArg Value.pointer O) O O O O ?_)))
        refine Ops.g O O O (Gdo O (Ops.g O O O ?_))
        refine Ops.idx hB.top.2 O O O (by omega) (by omega) (Ops.g O O O (Ops.ld_sl hB.top O (by omega) O O ?_))
        refine Ops.g O O O (Gdo O (Ops.g O O O ?_))
        refine Ops.call (l01Has_c _ _ _ (gl B b) (m : Int) _ hrob (by omega)) O O O ?_
        rintro _ w9 ⟨rfl, rfl⟩
        refine Ops.g O O O (Gdn O (tQ ?_))
        exact ⟨(), ⟨O, O, O, O, O, O, O, congrArg Value.bool (decide_eq_decide.2 ⟨fun h => ⟨p1, .inr p3, .inr h⟩, fun h => h.2.2.resolve_left p4⟩), trivial⟩, O⟩
       refine Ops.k O O O O O (Ops.k O O O O O (Ops.k O O O O O (Ops.skipu O O O O (Ops.skipu O O O O (Ops.skipu O O O O (Ops.skipu O O O O (Ops.skipu O O O O (Ops.skipu O O O O (Ops.skipu O O O O (Ops.k O O O O O (Gdn O ?_)))))))))))
       refine tQ ?_
       exact ⟨(), ⟨O, O, O, O, O, O, O, congrArg Value.bool (decide_eq_false (fun h => h.2.1.elim p2 p3)).symm, trivial⟩, O⟩
      refine Ops.k O O O O O (Ops.k O O O O O (Ops.k O O O O O (Ops.skipu O O O O (Ops.skipu O O O O (Ops.skipu O O O O (Ops.skipu O O O O (Ops.skipu O O O O (Ops.skipu O O O O (Ops.skipu O O O O (Ops.k O O O O O (Gdo O ?_)))))))))))
      refine Ops.k O O O O O (Ops.k O O O O O (Ops.k O O O O O (Ops.skipu O O O O (Ops.skipu O O O O (Ops.skipu O O O O (Ops.skipu O O O O (Ops.skipu O O O O (Ops.skipu O O O O (Ops.skipu O O O O (Ops.k O O O O O (Gdn O ?_)))))))))))
      refine tQ ?_
      exact ⟨(), ⟨O, O, O, O, O, O, O, congrArg Value.bool (decide_eq_false (fun h => p1 h.1)).symm, trivial⟩, O⟩
     rintro _ e w8 rfl
     refine Cd.cond_p _ O (fun h8 => ?_) (fun h8 => ?_)
     ·rw [if_pos h8] at hmn
      refine Gao O (Ops.add O O O (by omega) (Gdo O (Ops.add O O O (by omega) (Gdn O (tQ ?_)))))
      exact ⟨m + 1, by show N - (m + 1) < N - m; omega, ⟨O, O, O, O, O, congrArg (fun m : Nat => Value.int .i64 (m : Int)) hmn.symm, O, trivial⟩, O, by omega⟩
     rw [if_neg h8] at hmn
     refine Gao O (Ops.add O O O (by omega) (Gdn O (tQ ?_)))
     exact ⟨m + 1, by show N - (m + 1) < N - m; omega, ⟨O, O, O, O, O, congrArg (fun m : Nat => Value.int .i64 (m : Int)) hmn.symm, O, trivial⟩, O, by omega⟩
    have hme : m = N := by omega
    rw [hme] at hml ⊢
    rw [hmid] at hml ⊢
    refine Gax O (thenQ_x (Gfc O ?_))
    refine Cd.cond_p _ O (fun h8 => ?_) (fun h8 => ?_)
    ·refine Gao O ?_
     refine Ops.bsL [(i : Int), a, b] hS1 O O (by decide) (by decide) O O ?_
     intro A9 w9 hS9
     refine Gdr O (thenQ_r (Qk_ret (thenQ_r (Qk_ret (thenQ_r (Qk_ret ?_))))))
     refine ret1_s O ?_
     exact ⟨A9, 3, 3, O, ⟨fun h => absurd h (by decide), fun h => absurd (h (i : Int) a b (by omega) h2 hLoa hok.1 hok.2) (by omega)⟩, hS9.none⟩
    refine Gao O (Ops.add O O O (by omega) (Gdn O (tQ ?_)))
    exact ⟨y + 1, by show N + 1 - (y + 1) < N + 1 - y; omega, ⟨O, O, O, O, congrArg (Value.int .i64) (by show b + 1 = ((y + 1 : Nat) : Int) - 1; omega), trivial⟩, O, by omega, hnextB fun _ _ => by omega⟩
   refine Gax O (thenQ_x (Gfo O (Ops.add O O O (by omega) (Gdn O (tQ ?_)))))
   exact ⟨z + 1, by show N + 1 - (z + 1) < N + 1 - z; omega, ⟨O, O, O, congrArg (Value.int .i64) (by show a + 1 = ((z + 1 : Nat) : Int) - 1; omega), trivial⟩, O, by omega, fun a' b' => hnextA a' b' fun _ _ q2 q3 => hdb b' (by have := (hHi _ _).1 q2; omega) q2 q3⟩
  refine Gax O (thenQ_x (Gfo O (Ops.add O O O (by omega) (Gdn O (tQ ?_)))))
  exact ⟨i + 1, by show n.toNat - (i + 1) < n.toNat - i; omega, ⟨O, O, O, trivial⟩, O, by show ((i + 1 : Nat) : Int) ≤ n; omega, fun i' a' b' h0 h' q1 q2 q3 => by
   by_cases ei : i' = (i : Int)
   ·subst ei
    exact hda a' b' (by have := (hLo _ _).1 q1; omega) q1 q2 q3
   exact hdi i' a' b' h0 (by have h' : i' < ((i + 1 : Nat) : Int) := h'; omega) q1 q2 q3⟩
 refine Gax O (thenQ_x (Gfo O ?_))
 refine Ops.bs0 hS1 O ?_
 intro A9 w9 hS9
 refine Gdr O (ret1_s O ?_)
 exact ⟨A9, 0, 0, O, ⟨fun _ i' a b h0 h' q1 q2 q3 => hdi i' a b h0 (by omega) q1 q2 q3, fun _ => O⟩, hS9.none⟩
/-
 The reference's test of polytopes and of polytopality, walked.
-/
theorem l03Polytope_c (n : Nat) (A D : Option Addr) (cA cD : Nat) (R : List Int) (rs : List SlV) (B : List (List Int)) (Af : Option Addr) (cf : Nat) (rsF : List SlV) (w : World) (hR : RdI w A R.length R) (hB : RowsI w D B.length rs B) (hP : PosP n R B) (hF : RowsI w Af (flgP n R B).length rsF (flgP n R B)) (hf4 : (flgP n R B).length ≤ 400) :
  Ret Tryz.prog 84 [.agg #[.int .i64 n, .slice A R.length cA, .slice D B.length cD], .slice Af (flgP n R B).length cf] w (fun v w' => ∃ b : Bool, v = .bool b ∧ (b = true ↔ PlyP n R B) ∧ St w w' []) := by
 have hn := hP.n1
 have hbg := hP.big
 have hfit := flgP_fit (n := n) (R := R) (B := B) (by omega) hbg
 have hnd : (flgP n R B).Nodup := (flgP_SL n R B).nodup
 refine Ret.of_cd Tryz.func84 O Tryz.ntmps84 O (post1 O) (Gbo O (Ops.box3T (St.refl w) O O ?_))
 intro A1 w1 hS1
 have h1 : Rd w1 A1 3 (fun j => [Value.int .i64 n, .slice A R.length cA, .slice D B.length cD].getD j undef) := hS1.rd 0 O
 have hR := hS1.oldI hR
 have hB := hS1.oldRows hB
 have hF := hS1.oldRows hF
 have hS1 := hS1.none
 refine Gdo O (Ops.len O O (Gdo O ?_))
 refine Ops.split_p 8 O (fun h2 => ?_) (fun h2 => ?_)
 ·have hne : flgP n R B ≠ [] := fun h => by rw [h] at h2; exact absurd h2 (by decide)
  refine Ops.g O O O (Ops.ld_agg 2 h1 O O O ?_)
  refine Ops.g O O O (Gdo O (Ops.g O O O ?_))
  refine Ops.call (l03Pure_c n A D cA R.length B.length cD Af (flgP n R B).length cf rsF (flgP n R B) _ hF hbg (fun l hl => ⟨by have := (hfit l hl).1; omega, (hfit l hl).2⟩) (by omega)) O O O ?_
  rintro _ w2 ⟨b, rfl, hb, hst⟩
  have h1 := Rd.below h1 hst.below
  have hR := hst.oldI hR
  have hB := hst.oldRows hB
  have hF := hst.oldRows hF
  have hS1 := hS1.later hst.below
  have hpu : b = true ↔ PurP n R B := hb
  clear hst hb
  rw [bool_dec b]
  refine Gdo O ?_
  refine Ops.split_p 13 O (fun h3 => ?_) (fun h3 => ?_)
  ·refine Ops.g O O O (Ops.ld_agg 2 h1 O O O (Ops.g O O O (Ops.call (l03Fault_c n A D cA cD R rs B _ hR hB hP) O O O ?_)))
   rintro _ w3 ⟨A9, n9, c9, rfl, hd, hst⟩
   have hF := hst.oldRows hF
   have hS1 := hS1.later hst.below
   clear hst
   refine Ops.g O O O (Ops.len O O (Ops.g O O O (Gdo O ?_)))
   refine Ops.split_p 19 O (fun h4 => ?_) (fun h4 => ?_)
   ·refine Ops.g O O O (Gdo O (Ops.g O O O ?_))
    refine Ops.call (l03Parted_c Af (flgP n R B).length cf rsF (flgP n R B) n _ hF (by omega) hf4 (by omega) (fun x hx => (hfit x hx).1) hnd) O O O ?_
    rintro _ w4 ⟨A8, n8, c8, rfl, hc, hst⟩
    have hS1 := hS1.later hst.below
    refine Ops.g O O O (Ops.len O O (Ops.g O O O (Gdr O ?_)))
    refine ret1_b O ?_
    exact ⟨_, O, by rw [decide_eq_true_eq]; exact ⟨fun h => ⟨hne, hpu.1 h3, hd.1 (by omega), hc.1 (by omega)⟩, fun h => by have := hc.2 h.2.2.2; omega⟩, hS1⟩
   refine Ops.k O O O O O (Ops.k O O O O O (Ops.k O O O O O (Ops.k O O O O O (Gdr O ?_))))
   refine ret1_b O ?_
   exact ⟨false, rfl, ⟨fun h => (by cases h), fun h => absurd (hd.2 h.2.2.1) (by omega)⟩, hS1⟩
  refine Ops.k O O O O O (Ops.k O O O O O (Ops.k O O O O O (Ops.k O O O O O (Gdo O (Ops.k O O O O O (Ops.k O O O O O (Ops.k O O O O O (Ops.k O O O O O (Gdr O ?_)))))))))
  refine ret1_b O ?_
  exact ⟨false, rfl, ⟨fun h => (by cases h), fun h => absurd (hpu.2 h.2.1) h3⟩, hS1⟩
 refine Ops.k O O O O O (Ops.k O O O O O (Ops.k O O O O O (Gdo O (Ops.k O O O O O (Ops.k O O O O O (Ops.k O O O O O (Ops.k O O O O O (Gdo O (Ops.k O O O O O (Ops.k O O O O O (Ops.k O O O O O ?_)))))))))))
 refine Ops.k O O O O O (Gdr O ?_)
 refine ret1_b O ?_
 exact ⟨false, rfl, ⟨fun h => (by cases h), fun h => absurd (List.length_pos_iff.2 h.1) (by omega)⟩, hS1⟩
theorem l03Polytopal_c (A : Option Addr) (n c : Nat) (rs : List SlV) (M : List (List Int)) (w : World) (hR : RowsI w A n rs M) (hn9 : n ≤ 9223372036854775807) (hM : Mani M) :
  Ret Tryz.prog 96 [.agg #[.slice A n c]] w (fun v w' => ∃ b : Bool, v = .tuple #[.bool b, .int .i64 (ptC M)] ∧ (b = true ↔ GoodP M) ∧ St w w' []) := by
 have hl := hR.len
 have h5 := hM.1
 have h4 := hM.2.1
 have hRl := fpR_len M M.length
 have hBl := fpB_len M
 have hr0 := hR.rowLen (k := 0) (by omega) (by omega)
 refine Ret.of_cd Tryz.func96 O Tryz.ntmps96 O (post2 O) (Gbo O (Ops.box1 (St.refl w) O O ?_))
 intro A1 w1 hS1
 refine Gdo O (Ops.ld_agg 0 (hS1.rd 0 O) O O O (Ops.call (specFacePoset_c A n c rs M _ (hS1.oldRows hR) hn9 hM) O O O ?_))
 rintro _ w2 (⟨hbig, rfl, hst⟩ | ⟨hbig, AR, cR, AD, cD, rsD, rfl, hrD, hst⟩)
 ·have hS2 := hS1.later hst.below
  refine Gdo O (Ops.newP hS2 O ?_)
  intro A4 w3 hS3
  refine Ops.st_agg 3 0 hS3 O O O O O O O ?_
  intro w4 hS4
  refine Gdc O (Cd.cond_t O (Gar O (ret2_bi O O ?_)))
  unfold ptC
  rw [if_pos (.inl hbig)]
  exact ⟨false, rfl, ⟨fun h => (by cases h), fun h => by have := h.1; omega⟩, hS4.none⟩
 have hP := posP_of hM hbig
 have hS2 := hS1.call hst
 clear hst hS1
 refine Gdo O (Ops.newP hS2 O ?_)
 intro A4 w3 hS3
 refine Ops.st_agg 3 0 hS3 O O O O O O O ?_
 intro w4 hS4
 have hS4 : St w w4 (poB A4 (M.length : Int) AR (offP M M.length) cR AD (offP M M.length) cD :: (CkI 2 AR (offP M M.length) cR (fpR M M.length) :: ((mat 32 2 AD (offP M M.length) cD rsD (fpB M) ++ []) ++ [Bx 24 1 A1 [.slice A n c]]))) := hS4
 have hR4 : RdI w4 AR (fpR M M.length).length (fpR M M.length) := by rw [hRl]; exact hS4.rdI 1 O
 have hB4 : RowsI w4 AD (fpB M).length rsD (fpB M) := by
  rw [hBl]
  have h9 := hS4.sub (show (mat 32 2 AD (offP M M.length) cD rsD (fpB M)).Sublist _ from List.Sublist.cons _ (List.Sublist.cons _ (by rw [List.append_nil]; exact List.sublist_append_left _ _)))
  exact h9.rowsI1 hBl
 have hb4 := hS4.rd 0 O
 have hb1 : Rd w4 A1 1 (fun j => [Value.slice A n c].getD j undef) := by
  have h9 := hS4.sub (show List.Sublist [Bx 24 1 A1 [.slice A n c]] _ from List.Sublist.cons _ (List.Sublist.cons _ (List.sublist_append_right _ _)))
  exact h9.rd 0 O
 refine Gdc O (Cd.cond_f O (Gao O (Ops.ld_agg 2 hb4 O O O ?_)))
 refine Ops.call (l03Flags_c M.length AR AD cR cD (fpR M M.length) rsD (fpB M) _ hR4 hB4 hP) O (by rw [hRl, hBl]; rfl) O ?_
 rintro _ w5 ⟨Af, cf, rsf, rfl, hrf, hst⟩
 have hS5 := hS4.later hst.below
 have hR5 := hR4.later hst.below
 have hB5 := hB4.later hst.below
 have hb5 := Rd.below hb4 hst.below
 have hb1 := Rd.below hb1 hst.below
 have hM5 := hS5.oldRows hR
 refine Gdo O ?_
 first | refine Ops.not_p rfl rfl ?_ | refine Ops.not rfl rfl ?_
 refine Gdc O ?_
 refine Cd.cond_p _ O (fun h6 => ?_) (fun h6 => ?_)
 ·have hpt : ptC M = 3 := by unfold ptC; rw [if_pos (.inr (by show 400 < (flgP M.length (fpR M M.length) (fpB M)).length; omega))]
  refine Gar O (ret2_bi O O ?_)
  rw [hpt]
  refine ⟨false, rfl, ⟨fun h => (by cases h), fun h => ?_⟩, hS5.none⟩
  have h9 : (flgP M.length (fpR M M.length) (fpB M)).length = (gl M 0).length := h.2.1
  omega
 have hfl : (flgP M.length (fpR M M.length) (fpB M)).length ≤ 400 := Classical.not_not.1 h6
 have hpt : ptC M = 0 := by unfold ptC; rw [if_neg (by show ¬ (500 < offP M M.length ∨ 400 < (flgP M.length (fpR M M.length) (fpB M)).length); omega)]
 have hcp : cap (flgP M.length (fpR M M.length) (fpB M)) = flgP M.length (fpR M M.length) (fpB M) := cap_all (by omega)
 rw [hcp] at hrf hst ⊢
 rw [hpt]
 have hF5 : RowsI w5 Af (flgP M.length (fpR M M.length) (fpB M)).length rsf (flgP M.length (fpR M M.length) (fpB M)) := by
  rw [List.append_nil] at hst
  exact hst.rowsI1 O
 refine Gao O (Ops.len O O ?_)
 refine Ops.ld_agg 0 hb1 O O O (Ops.call (l02Flags_c A n c rs M _ hM5 (by omega)) O O O ?_)
 rintro _ w6 ⟨rfl, hst6⟩
 have hS6 := hS5.later hst6.below
 have hR6 := hR5.later hst6.below
 have hB6 := hB5.later hst6.below
 have hb6 := Rd.below hb5 hst6.below
 have hF6 := hF5.later hst6.below
 refine Gdo O ?_
 refine Ops.split_p 28 O (fun h7 => ?_) (fun h7 => ?_)
 ·refine Ops.g O O O (Ops.ld_agg 2 hb6 O O O ?_)
  refine Ops.g O O O (Gdo O (Ops.g O O O ?_))
  refine Ops.call (l03Polytope_c M.length AR AD cR cD (fpR M M.length) rsD (fpB M) Af cf rsf _ hR6 hB6 hP hF6 hfl) O (by rw [hRl, hBl]; rfl) O ?_
  rintro _ w7 ⟨b, rfl, hb, hst2⟩
  refine Gdr O (ret2_bi O O ?_)
  refine ⟨b, O, hb.trans ⟨fun h => ⟨hbig, ?_, h⟩, fun h => h.2.2⟩, (hS6.later hst2.below).none⟩
  show (flgP M.length (fpR M M.length) (fpB M)).length = _
  omega
 refine Ops.k O O O O O (Ops.k O O O O O (Ops.k O O O O O (Gdr O ?_)))
 refine ret2_bi O O ?_
 refine ⟨false, rfl, ⟨fun h => (by cases h), fun h => ?_⟩, hS6.none⟩
 have h9 : (flgP M.length (fpR M M.length) (fpB M)).length = (gl M 0).length := h.2.1
 omega
/-
 Polytopality as the two sides tell it. Conditions: the library's table of powers of ten holds what the program's text lays there.
-/
def AnsB (M : List (List Int)) (w : World) (v : Value) (w' : World) : Prop := ∃ b : Bool, v = .tuple #[.bool b, .int .i64 (if Mani M then ptC M else 1)] ∧ (b = true ↔ Mani M ∧ GoodP M) ∧ St w w' []
theorem implIsPolytopal_c (A : Option Addr) (n c : Nat) (rs : List SlV) (M : List (List Int)) (w : World) (hT : Tab w) (hR : RowsI w A n rs M) (hn : n ≤ c) (hc : c ≤ 9223372036854775807) :
  Ret Tryz.prog 35 [.agg #[.slice A n c]] w (AnsB M w) := by
 refine Ret.of_cd Tryz.func35 O Tryz.ntmps35 O (post2 O) (Gbo O (Ops.box1 (St.refl w) O O ?_))
 intro A1 w1 hS1
 refine Gdo O (Ops.ld_agg 0 (hS1.rd 0 O) O O O (Ops.call (isManiplex_c A n c rs M _ (hS1.oldRows hR) hn hc) O O O ?_))
 rintro _ w2 ⟨rfl, hst⟩
 have hS2 := hS1.later hst.below
 first | refine Ops.not_p rfl rfl ?_ | refine Ops.not rfl rfl ?_
 refine Gdc O ?_
 refine Cd.cond_p _ O (fun h1 => ?_) (fun h1 => ?_)
 ·have h1 : ¬ Mani M := h1
  refine Gar O (ret2_bi O O ?_)
  exact ⟨false, by rw [if_neg h1], ⟨fun h => (by cases h), fun h => absurd h.1 h1⟩, hS2.none⟩
 have h1 : Mani M := Classical.not_not.1 h1
 refine Gao O (Ops.ld_agg 0 (hS2.rd 0 O) O O O (Ops.call (isPolytopal_c A n c rs M _ (hT.later hS2.below) (hS2.oldRows hR) h1) O O O ?_))
 rintro _ w3 ⟨b, rfl, hb, hst3⟩
 have hS3 := hS2.later hst3.below
 refine Gdr O (ret2_bi O O ?_)
 exact ⟨b, by rw [if_pos h1], ⟨fun h => ⟨h1, hb.1 h⟩, fun h => hb.2 h.2⟩, hS3.none⟩
theorem specFacePosetBad_c (A : Option Addr) (n c : Nat) (rs : List SlV) (M : List (List Int)) (w : World) (hR : RowsI w A n rs M) (hn : n ≤ 9223372036854775807) (hM : ¬ Mani M) :
  Ret Tryz.prog 163 [.agg #[.slice A n c]] w (fun v w' => v = .tuple #[.agg #[.int .i64 0, .slice none 0 0, .slice none 0 0], .int .i64 1] ∧ St w w' []) := by
 refine Ret.of_cd Tryz.func163 O Tryz.ntmps163 O (postc2 O O) (Gbo O (Ops.box1 (St.refl w) O O ?_))
 intro A1 w1 hS1
 refine Ops.newP hS1 O ?_
 intro A2 w2 hS2
 refine Gdo O (Ops.ld_agg 0 (hS2.rd 1 O) O O O (Ops.call (l02Is_c A n c rs M _ (hS2.oldRows hR) hn) O O O ?_))
 rintro _ w3 ⟨rfl, hst⟩
 have hS3 := hS2.later hst.below
 first | refine Ops.not_p rfl rfl ?_ | refine Ops.not rfl rfl ?_
 refine Gdc O ?_
 refine Cd.cond_p _ O (fun h1 => ?_) (fun h1 => ?_)
 ·refine Gao O (Ops.bldP0 (by exact inferInstance) (by exact inferInstance) (by exact inferInstance) O (Ops.st_agg 3 0 hS3 O O O O O O O ?_))
  intro w4 hS4
  refine Gdr O (retc2_r O (hS4.rd 0 O) O ?_)
  exact ⟨O, hS4.none⟩
 exact absurd (Classical.not_not.1 h1) hM
theorem specPolytopalBad_c (A : Option Addr) (n c : Nat) (rs : List SlV) (M : List (List Int)) (w : World) (hR : RowsI w A n rs M) (hn : n ≤ 9223372036854775807) (hM : ¬ Mani M) :
  Ret Tryz.prog 96 [.agg #[.slice A n c]] w (AnsB M w) := by
 refine Ret.of_cd Tryz.func96 O Tryz.ntmps96 O (post2 O) (Gbo O (Ops.box1 (St.refl w) O O ?_))
 intro A3 w3 hS3
 refine Gdo O (Ops.ld_agg 0 (hS3.rd 0 O) O O O (Ops.call (specFacePosetBad_c A n c rs M _ (hS3.oldRows hR) hn hM) O O O ?_))
 rintro _ w4 ⟨rfl, hst⟩
 have hS4 := hS3.later hst.below
 refine Gdo O (Ops.newP hS4 O ?_)
 intro A5 w5 hS5
 refine Ops.st_agg 3 0 hS5 O O O O O O O ?_
 intro w6 hS6
 refine Gdc O (Cd.cond_t O (Gar O (ret2_bi O O ?_)))
 exact ⟨false, by rw [if_neg hM], ⟨fun h => (by cases h), fun h => absurd h.1 hM⟩, hS6.none⟩
theorem specIsPolytopal_c (A : Option Addr) (n c : Nat) (rs : List SlV) (M : List (List Int)) (w : World) (hR : RowsI w A n rs M) (hn : n ≤ 9223372036854775807) :
  Ret Tryz.prog 39 [.agg #[.slice A n c]] w (AnsB M w) := by
 refine Ret.of_cd Tryz.func39 O Tryz.ntmps39 O (post2 O) (Gbo O (Ops.box1 (St.refl w) O O ?_))
 intro A1 w1 hS1
 refine Gdo O (Ops.ld_agg 0 (hS1.rd 0 O) O O O ?_)
 refine Ops.call (show Ret _ _ _ _ (AnsB M w1) from ?_) O O O ?_
 ·by_cases hM : Mani M
  ·refine (l03Polytopal_c A n c rs M _ (hS1.oldRows hR) hn hM).mono fun v w' h => ?_
   obtain ⟨b, rfl, hb, hst⟩ := h
   exact ⟨b, by rw [if_pos hM], ⟨fun h => ⟨hM, hb.1 h⟩, fun h => hb.2 h.2⟩, hst⟩
  have hR1 := hS1.oldRows hR
  exact specPolytopalBad_c A n c rs M _ hR1 hn hM
 rintro _ w2 ⟨b, rfl, hb, hst⟩
 refine Gdr O (ret2_bi O O ?_)
 exact ⟨b, O, hb, (hS1.later hst.below).none⟩
end Go.Proofs.YtopgfgdgfjddpaaGreatDoor.Vc
/-
 Plain mathematics of a stable sort of structs of three numbers: exchanges, blocks turned round, sorted blocks joined.
-/
namespace Go.Proofs.YtopgfgdgfjddpaaGreatDoor.Vc.TS
open Go.RowKit
def gs (l : List TV) (i : Nat) : TV := l.getD i tvNil
/-! one put among others in order, by exchanges -/
/-! ranges exchanged -/
/-! two sorted ranges joined -/
def hi0 (a m b : Nat) : Nat := if (a + b) / 2 < m then (a + b) / 2 else m
/-! one moved along -/
/-! blocks -/
/-
 The library's stable sort of structs of three numbers by the third, walked: insertion, exchange of ranges, rotation.
-/
end Go.Proofs.YtopgfgdgfjddpaaGreatDoor.Vc.TS
/-
 Plain mathematics of products: the program's order of the pairs is the reference's.
-/
namespace Go.Proofs.YtopgfgdgfjddpaaGreatDoor.Vc
open TS
def LftP (m1 m2 : Nat) (kind : Int) (a b : Int) : Prop :=
 if kind = 1 then (a = 0 ∨ b = 0 ∨ (a = (m1 : Int) - 1 ∧ b = (m2 : Int) - 1)) else if kind = 2 then (a = (m1 : Int) - 1 ∨ b = (m2 : Int) - 1 ∨ (a = 0 ∧ b = 0)) else ((a = 0 ∧ b = 0) ∨ (a = (m1 : Int) - 1 ∧ b = (m2 : Int) - 1))
instance (m1 m2 : Nat) (kind a b : Int) : Decidable (LftP m1 m2 kind a b) := by unfold LftP; infer_instance
section
variable {m1 m2 : Nat} {kind : Int} {n1 n2 : Int} {rk1 rk2 : Int → Int} {und1 und2 : Int → Int → Prop}
end
end Go.Proofs.YtopgfgdgfjddpaaGreatDoor.Vc
/-
 Plain mathematics: a product of polytopes has a flag, and its maniplex.
-/
namespace Go.Proofs.YtopgfgdgfjddpaaGreatDoor.Vc
section
variable {m1 m2 : Nat} {n1 n2 : Int} {rk1 rk2 : Int → Int} {und1 und2 : Int → Int → Prop} [DecidableRel und1] [DecidableRel und2] {kind : Int}
end
/-
 Plain mathematics of the program's way to find neighbours of flags: what its map and its moves hold.
-/
noncomputable def mvF (n : Nat) (fl : List (List Int)) (i f : Nat) : List Int := (List.range fl.length).map fun a => if a < f ∧ ptP n fl i a < f then (ptP n fl i a : Int) else 0
def FsP (n : Nat) (fl : List (List Int)) (i f : Nat) (L : List (ByteArray × Int)) : Prop := ∀ a : Nat, f ≤ a → a < fl.length → getA L (keyB (rstP (gl fl (a : Int)) i)) = if ptP n fl i a < f then some (ptP n fl i a : Int) else none
section
variable {n : Nat} {fl : List (List Int)} {i f : Nat} {L : List (ByteArray × Int)}
theorem mvF_len : (mvF n fl i f).length = fl.length := by simp [mvF]
theorem mvF_0 : mvF n fl i 0 = List.replicate fl.length 0 := by
 apply List.ext_getElem
 ·simp [mvF]
 intro a h1 h2
 simp [mvF]
theorem mvF_all (h : NbP n fl) (hi : i < n) : mvF n fl i fl.length = mvP n fl i := by
 rw [mv_pt h hi]
 unfold mvF
 refine List.map_congr_left fun a ha => ?_
 have ha := List.mem_range.1 ha
 rw [if_pos ⟨ha, h.lt ha hi⟩]
theorem mvF_miss (h : NbP n fl) (hi : i < n) (hf : f < fl.length) (hp : ¬ ptP n fl i f < f) : mvF n fl i (f + 1) = mvF n fl i f := by
 unfold mvF
 refine List.map_congr_left fun a ha => ?_
 have ha := List.mem_range.1 ha
 have h1 := (h.pt hf hi).1
 have h2 := h.pp ha hi
 by_cases e : a = f
 ·subst e
  rw [if_neg (by omega), if_neg (by omega)]
 by_cases e2 : ptP n fl i a = f
 ·have h3 : a = ptP n fl i f := by rw [← h2, e2]
  rw [if_neg (by omega), if_neg (by omega)]
 by_cases c : a < f ∧ ptP n fl i a < f
 ·rw [if_pos c, if_pos (by omega)]
 rw [if_neg c, if_neg (by omega)]
theorem mvF_hit (h : NbP n fl) (hi : i < n) (hf : f < fl.length) (hp : ptP n fl i f < f) : mvF n fl i (f + 1) = ((mvF n fl i f).set f (ptP n fl i f : Int)).set (ptP n fl i f) (f : Int) := by
 have hpp := h.pp hf hi
 apply List.ext_getElem
 ·simp [mvF]
 intro a h1 h2
 have ha : a < fl.length := by simpa [mvF] using h1
 have h3 := h.pp ha hi
 rw [List.getElem_set, List.getElem_set]
 simp only [mvF, List.getElem_map, List.getElem_range]
 by_cases e : ptP n fl i f = a
 ·subst e
  rw [if_pos rfl, hpp, if_pos (by omega)]
 rw [if_neg e]
 by_cases e2 : f = a
 ·subst e2
  rw [if_pos rfl, if_pos (by omega)]
 rw [if_neg e2]
 have h4 : ptP n fl i a ≠ f := fun e3 => e (by rw [← h3, e3])
 by_cases c : a < f ∧ ptP n fl i a < f
 ·rw [if_pos c, if_pos (by omega)]
 rw [if_neg c, if_neg (by omega)]
theorem FsP.zero : FsP n fl i 0 [] := fun a _ _ => by rw [if_neg (by omega)]; rfl
theorem FsP.at_ (h : FsP n fl i f L) (hf : f < fl.length) : getA L (keyB (rstP (gl fl (f : Int)) i)) = if ptP n fl i f < f then some (ptP n fl i f : Int) else none := h f (Nat.le_refl _) hf
theorem FsP.hit (hN : NbP n fl) (hi : i < n) (h : FsP n fl i f L) (hf : f < fl.length) (hp : ptP n fl i f < f) : FsP n fl i (f + 1) L := fun a h0 ha => by
 have h2 := hN.pp ha hi
 rw [h a (by omega) ha]
 have h4 : ptP n fl i a ≠ f := fun e => by rw [e] at h2; omega
 by_cases c : ptP n fl i a < f
 ·rw [if_pos c, if_pos (by omega)]
 rw [if_neg c, if_neg (by omega)]
theorem FsP.miss (hN : NbP n fl) (hl : ∀ x ∈ fl, x.length = n) (hi : i < n) (h : FsP n fl i f L) (hf : f < fl.length) (hp : ¬ ptP n fl i f < f) : FsP n fl i (f + 1) (putA L (keyB (rstP (gl fl (f : Int)) i)) (f : Int)) := fun a h0 ha => by
 have h1 := hN.pp hf hi
 have h2 := hN.pp ha hi
 have hk : keyB (rstP (gl fl (f : Int)) i) = keyB (rstP (gl fl (a : Int)) i) ↔ a = f ∨ a = ptP n fl i f := by
  have lf : (gl fl (f : Int)).length = n := hl _ (by rw [gl_mem hf]; exact List.getElem_mem _)
  have la : (gl fl (a : Int)).length = n := hl _ (by rw [gl_mem ha]; exact List.getElem_mem _)
  constructor
  ·intro e
   have e := (rst_same lf la).1 (keyB_inj e)
   by_cases c : a = f
   ·exact .inl c
   exact .inr (((hN.pt hf hi).2 a).1 ⟨⟨hf, ha, fun k hk hne => e k hk hne⟩, c⟩)
  intro e
  rcases e with e | e
  ·subst e; rfl
  have h3 := ((hN.pt hf hi).2 a).2 e
  exact congrArg keyB ((rst_same lf la).2 h3.1.2.2)
 rw [getA_put, h a (by omega) ha]
 by_cases e2 : a = ptP n fl i f
 ·rw [if_pos (hk.2 (.inr e2))]
  have h3 : ptP n fl i a = f := by rw [e2, h1]
  rw [if_pos (by omega), h3]
 rw [if_neg fun e3 => (hk.1 e3).elim (by omega) e2]
 have h4 : ptP n fl i a ≠ f := fun e3 => e2 (by rw [← h2, e3])
 by_cases c : ptP n fl i a < f
 ·rw [if_pos c, if_pos (by omega)]
 rw [if_neg c, if_neg (by omega)]
end
/-
 Plain mathematics: the maniplex of the flags of a polytope is a maniplex, and its faces are the polytope's elements.
-/
section
variable {n : Nat} {fl : List (List Int)}
theorem mn_len (n : Nat) (fl : List (List Int)) : (mnP n fl).length = n := by simp [mnP]
theorem mn_row (n : Nat) (fl : List (List Int)) {i : Nat} (hi : i < n) : gl (mnP n fl) (i : Int) = mvP n fl i := by
 rw [gl_mem (by rw [mn_len]; exact hi)]
 simp [mnP]
theorem mn_at (h : NbP n fl) {i : Nat} (hi : i < n) : gl (mnP n fl) (i : Int) = (List.range fl.length).map fun a => (ptP n fl i a : Int) := by rw [mn_row n fl hi, mv_pt h hi]
theorem mn_gi (h : NbP n fl) {i a : Nat} (hi : i < n) (ha : a < fl.length) : gi (gl (mnP n fl) (i : Int)) (a : Int) = ptP n fl i a := by
 rw [mn_at h hi, gi_mem (by simpa using ha)]
 simp
theorem mn_rl (h : NbP n fl) {i : Nat} (hi : i < n) : (gl (mnP n fl) (i : Int)).length = fl.length := by rw [mn_at h hi]; simp
theorem mn_mem (h : NbP n fl) {p : List Int} : p ∈ mnP n fl ↔ ∃ i : Nat, i < n ∧ p = gl (mnP n fl) (i : Int) := by
 constructor
 ·intro hp
  obtain ⟨i, hi, e⟩ := List.mem_iff_getElem.1 hp
  rw [mn_len] at hi
  exact ⟨i, hi, by rw [gl_mem (by rw [mn_len]; exact hi)]; exact e.symm⟩
 rintro ⟨i, hi, rfl⟩
 rw [gl_mem (by rw [mn_len]; exact hi)]
 exact List.getElem_mem _
theorem mn_gi0 (h : NbP n fl) {i : Nat} (hi : i < n) {x : Int} (h0 : 0 ≤ x) (h1 : x < fl.length) : gi (gl (mnP n fl) (i : Int)) x = ptP n fl i x.toNat := by
 obtain ⟨a, rfl⟩ : ∃ a : Nat, x = a := ⟨x.toNat, by omega⟩
 rw [mn_gi h hi (by omega)]; simp
theorem mn_perm (h : NbP n fl) (hb : fl.length ≤ 400) {i : Nat} (hi : i < n) : IsPerm (gl (mnP n fl) (i : Int)) ∧ IsFree (gl (mnP n fl) (i : Int)) := by
 have hl := mn_rl h hi
 refine ⟨⟨by omega, fun x hx => ?_, ?_⟩, fun a ha => ?_⟩
 ·rw [hl]
  rw [mn_at h hi] at hx
  obtain ⟨a, ha, rfl⟩ := List.mem_map.1 hx
  have := h.lt (List.mem_range.1 ha) hi
  omega
 ·rw [mn_at h hi]
  refine List.pairwise_map.2 ((List.nodup_range (n := fl.length)).imp_of_mem fun {a b} ha hb hne e => hne ?_)
  have ha := List.mem_range.1 ha
  have hb := List.mem_range.1 hb
  have e : ptP n fl i a = ptP n fl i b := by omega
  rw [← h.pp ha hi, e, h.pp hb hi]
 rw [hl] at ha
 rw [mn_gi h hi ha, mn_gi h hi (h.lt ha hi), h.pp ha hi]
 have := (h.pt ha hi).1
 exact ⟨by omega, O⟩
theorem mn_sys (h : NbP n fl) : Sys fl.length (mnP n fl) := fun p hp => by
 obtain ⟨i, hi, rfl⟩ := (mn_mem h).1 hp
 refine ⟨mn_rl h hi, fun x h0 h1 => ?_⟩
 rw [mn_gi0 h hi h0 h1]
 have := h.lt (a := x.toNat) (by omega) hi
 omega
theorem mn_adj (h : NbP n fl) {i a : Nat} (ha : a < fl.length) (hi : i < n) : AdjP n fl i a (ptP n fl i a) := (((h.pt ha hi).2 _).2 rfl).1
theorem mn_link0 (h : NbP n fl) {S : Nat → Prop} {a b : Nat} (hl : LnkP n fl S a b) : Reach (mnP n fl) (a : Int) (b : Int) := by
 induction hl with
 | refl => exact .refl
 | step hl hk hs ha ih =>
  rename_i b c k
  by_cases e : c = b
  ·subst e; exact ih
  have hb := hl.rng.2
  have e2 : c = ptP n fl k b := ((h.pt hb hk).2 c).1 ⟨ha, e⟩
  have := Reach.step ih ((mn_mem h).2 ⟨k, hk, O⟩)
  rw [mn_gi h hk hb, ← e2] at this
  exact this
end
section
variable {n : Nat} {R : List Int} {B : List (List Int)}
theorem flg_comm (hP : PosP n R B) (hD : DiaP n R B) {i k a : Nat} (hi : i < n) (hk : k < n) (hik : i + 2 ≤ k) (ha : a < (flgP n R B).length) :
  ptP n (flgP n R B) k (ptP n (flgP n R B) i a) = ptP n (flgP n R B) i (ptP n (flgP n R B) k a) := by
 have h := flg_NbP hP hD
 have hn : 1 ≤ n := by omega
 obtain ⟨b, hb⟩ : ∃ b, ptP n (flgP n R B) i a = b := ⟨_, rfl⟩
 obtain ⟨c, hc⟩ : ∃ c, ptP n (flgP n R B) k a = c := ⟨_, rfl⟩
 have hbl : b < (flgP n R B).length := hb ▸ h.lt ha hi
 have hcl : c < (flgP n R B).length := hc ▸ h.lt ha hk
 have ab := mn_adj h ha hi
 have ac := mn_adj h ha hk
 have nb := (h.pt ha hi).1
 have nc := (h.pt ha hk).1
 rw [hb] at ab nb ⊢
 rw [hc] at ac nc ⊢
 have fa := flg_at hn ha
 have fb := flg_at hn hbl
 have fc := flg_at hn hcl
 obtain ⟨x, hx⟩ : ∃ x : List Int, x = (gl (flgP n R B) (c : Int)).set i (gi (gl (flgP n R B) (b : Int)) (i : Int)) := ⟨_, rfl⟩
 have hxl : x.length = n := by rw [hx, List.length_set]; exact fc.1
 have hxi : ∀ j : Nat, j < n → gi x (j : Int) = if i = j then gi (gl (flgP n R B) (b : Int)) (i : Int) else gi (gl (flgP n R B) (c : Int)) (j : Int) := fun j hj => by
  rw [gi_mem (by omega)]
  subst hx
  rw [List.getElem_set]
  split
  ·rfl
  exact (gi_mem (by rw [fc.1]; exact hj)).symm
 have hm : x ∈ flgP n R B := by
  refine (flgP_mem hn).2 ⟨hxl, fun j hj => ?_, fun j hj => ?_⟩
  ·rw [hxi j hj]
   split
   ·rename_i e; subst e; exact fb.2.1 i hj
   exact fc.2.1 j hj
  rw [hxi j (by omega), hxi (j + 1) hj]
  by_cases e1 : i = j
  ·subst e1
   rw [if_pos rfl, if_neg (by omega), ← ac.2.2 (i + 1) hj (by omega), ab.2.2 (i + 1) hj (by omega)]
   exact fb.2.2 i hj
  by_cases e2 : i = j + 1
  ·subst e2
   rw [if_neg e1, if_pos rfl, ← ac.2.2 j (by omega) (by omega), ab.2.2 j (by omega) (by omega)]
   exact fb.2.2 j hj
  rw [if_neg e1, if_neg e2]
  exact fc.2.2 j hj
 obtain ⟨d, hd, ed⟩ := List.mem_iff_getElem.1 hm
 have ed' : gl (flgP n R B) (d : Int) = x := by rw [gl_mem hd]; exact ed
 have e1 : ptP n (flgP n R B) k b = d := by
  refine (((h.pt hbl hk).2 d).1 ⟨⟨hbl, hd, fun j hj hne => ?_⟩, fun e => ?_⟩).symm
  ·rw [ed', hxi j hj]
   split
   ·rename_i e; subst e; rfl
   rename_i e; rw [← ab.2.2 j hj (fun e' => e e'.symm), ac.2.2 j hj hne]
  subst e
  have h1 := hxi k hk
  rw [if_neg (by omega), ← ed', ← ab.2.2 k hk (by omega)] at h1
  exact nc (flg_inj hcl ha (list_gi (n := n) fc.1 fa.1 fun j hj => by
   by_cases e : j = k
   ·subst e; exact h1.symm
   exact (ac.2.2 j hj e).symm))
 have e2 : ptP n (flgP n R B) i c = d := by
  refine (((h.pt hcl hi).2 d).1 ⟨⟨hcl, hd, fun j hj hne => ?_⟩, fun e => ?_⟩).symm
  ·rw [ed', hxi j hj, if_neg (fun e => hne e.symm)]
  subst e
  have h1 := hxi i hi
  rw [if_pos rfl, ← ed', ← ac.2.2 i hi (by omega)] at h1
  exact nb (flg_inj hbl ha (list_gi (n := n) fb.1 fa.1 fun j hj => by
   by_cases e : j = i
   ·subst e; exact h1.symm
   exact (ab.2.2 j hj e).symm))
 rw [e1, e2]
theorem mn_mani (hP : PosP n R B) (hY : PlyP n R B) (hn : n ≤ 5) (hb : (flgP n R B).length ≤ 400) : Mani (mnP n (flgP n R B)) := by
 have h := flg_NbP hP hY.2.2.1
 have hn1 := hP.n1
 have h0 : 0 < n := by omega
 have hpos : 0 < (flgP n R B).length := List.length_pos_iff.2 hY.1
 have hl0 : (gl (mnP n (flgP n R B)) 0).length = (flgP n R B).length := mn_rl h h0
 have h2 : 2 ≤ (flgP n R B).length := by
  have h1 := (h.pt hpos h0).1
  have h3 := h.lt hpos h0
  omega
 refine ⟨by rw [mn_len]; omega, by rw [hl0]; omega, fun p hp => ?_, fun i hi k hk hik f hf => ?_, ?_⟩
 ·obtain ⟨i, hi, rfl⟩ := (mn_mem h).1 hp
  rw [hl0, mn_rl h hi]
  exact ⟨O, mn_perm h hb hi⟩
 ·rw [mn_len] at hi hk
  rw [hl0] at hf
  have hi' := h.lt hf hi
  have hk' := h.lt hf hk
  refine ⟨?_, ?_⟩
  ·rw [mn_gi h hi hf, mn_gi h hk hf, mn_gi h hk hi', mn_gi h hi hk', flg_comm hP hY.2.2.1 hi hk hik hf]
  rw [mn_gi h hi hf, mn_gi h hk hf]
  intro e
  have e : ptP n (flgP n R B) i f = ptP n (flgP n R B) k f := by omega
  have a1 := mn_adj h hf hi
  have a2 := mn_adj h hf hk
  rw [← e] at a2
  refine (h.pt hf hi).1 (flg_inj hi' hf (list_gi (n := n) (flg_at (by omega) hi').1 (flg_at (by omega) hf).1 fun j hj => ?_))
  by_cases e3 : j = i
  ·exact (a2.2.2 j hj (by omega)).symm
  exact (a1.2.2 j hj e3).symm
 rw [hl0]
 refine (orbit_all (mn_sys h) hpos).2 fun x hx0 hx1 => ?_
 obtain ⟨b, rfl⟩ : ∃ b : Nat, x = b := ⟨x.toNat, by omega⟩
 by_cases e : b = 0
 ·subst e; exact .refl
 exact mn_link0 h (hY.2.2.2 0 b (by omega) (by omega))
end
end Go.Proofs.YtopgfgdgfjddpaaGreatDoor.Vc
/-
 The maniplex of a poset's flags, walked in the reference.
-/
namespace Go.Proofs.YtopgfgdgfjddpaaGreatDoor.Vc
open Go.RowKit
/-! plain -/
section
variable {n : Nat} {fl : List (List Int)} {i a b : Nat}
end
noncomputable def mnT (n : Nat) (fl : List (List Int)) (i : Nat) : List (List Int) := (List.range i).map (mvP n fl)
theorem mnT_next (n : Nat) (fl : List (List Int)) (i : Nat) : mnT n fl (i + 1) = mnT n fl i ++ [mvP n fl i] := by
 unfold mnT
 rw [List.range_succ, List.map_append]; rfl
theorem mnT_len (n : Nat) (fl : List (List Int)) (i : Nat) : (mnT n fl i).length = i := by simp [mnT]
abbrev mxB (A : Option Addr) (B : Option Addr) (i c : Nat) : Ck := Bx 24 1 A [.slice B i c]
/-
 An answer: a maniplex and a code.
-/
def AnsX (L : List (List Int)) (K : Int) (w : World) (v : Value) (w' : World) : Prop := ∃ A c, ∃ rs : List SlV, v = .tuple #[.agg #[.slice A L.length c], .int .i64 K] ∧ rs.length = L.length ∧ St w w' (mat 32 2 A L.length c rs L)
theorem AnsX.none {w w' : World} {ks : List Ck} {K : Int} (h : St w w' ks) : AnsX [] K w (.tuple #[.agg #[.slice Option.none 0 0], .int .i64 K]) w' := ⟨Option.none, 0, [], rfl, rfl, h.none.nil _⟩
end Go.Proofs.YtopgfgdgfjddpaaGreatDoor.Vc
/-
 The library's stable sort of structs of three numbers, walked: two sorted ranges joined; all.
-/
namespace Go.Proofs.YtopgfgdgfjddpaaGreatDoor.Vc.TS
open Go.RowKit
end Go.Proofs.YtopgfgdgfjddpaaGreatDoor.Vc.TS
/-
 Faces under faces, walked in the program.
-/
namespace Go.Proofs.YtopgfgdgfjddpaaGreatDoor.Vc
open Go.RowKit
/-
 The product of the faces of two polytopes, walked in the program.
-/
section
variable (N1 N2 : Nat) (B1 B2 : List (List Int)) (L : List (Int × Int))
end
/-
 The product of two maniplexes' posets, walked in the program. Conditions: the library's table of powers of ten holds what the program's text lays there.
-/
/-
 The maniplex of a poset's flags, walked in the program. Conditions: the library's table of powers of ten holds what the program's text lays there.
-/
abbrev mvK (A6 : Option Addr) (N : Nat) (mv : List Int) (g : Nat) (L : List (ByteArray × Int)) (A3 A2 Am : Option Addr) (i cm : Nat) (rsm : List SlV) (T : List (List Int)) : List Ck :=
 CkI 2 A6 N N mv :: CkM 138 g (prV Value.string (Value.int .i64) L) :: mxB A3 Am i cm :: mxB A2 none 0 0 :: (mat 32 2 Am i cm rsm T ++ [])
theorem perm_q2 {α : Type} (b m q1 q2 : α) (X : List α) : (b :: q1 :: q2 :: m :: (X ++ [])).Perm (q1 :: q2 :: m :: ((X ++ [b]) ++ [])) := by
 classical
 refine List.perm_iff_count.2 fun z => ?_
 simp only [List.count_append, List.count_cons, List.count_nil]
 omega
set_option maxHeartbeats 4000000 in
theorem maniplexOf_c (n : Nat) (F : Option Addr) (N cF : Nat) (rsF : List SlV) (fl : List (List Int)) (w : World) (hT : Tab w) (hF : RowsI w F N rsF fl) (hl : ∀ x ∈ fl, x.length = n ∧ ∀ e ∈ x, 0 ≤ e ∧ e ≤ 1000) (hNb : NbP n fl) (hN : 0 < N ∧ N ≤ 400) (hn5 : n ≤ 1000) :
  Ret Tryz.prog 90 [.slice F N cF] w (fun v w' => ∃ A' c' rs', v = .agg #[.slice A' n c'] ∧ rs'.length = n ∧ St w w' (mat 32 2 A' n c' rs' (mnP n fl) ++ [])) := by
 have hfl : fl.length = N := hF.len
 have hln : ∀ x ∈ fl, x.length = n := fun x hx => (hl x hx).1
 refine Ret.of_cd Tryz.func90 O Tryz.ntmps90 O (postc O O) (Gbo O (Ops.new1 (St.refl w) O ?_))
 intro A2 w1 hS1
 refine Gdo O (Ops.new1 hS1 O ?_)
 intro A3 w2 hS2
 have hS2 : St w w2 (mxB A3 none 0 0 :: mxB A2 none 0 0 :: (mat 32 2 none 0 0 [] (mnT n fl 0) ++ [])) := (hS2.nil 32).perm (List.perm_append_singleton _ _).symm
 clear hS1
 have hF2 := hS2.oldRows hF
 have h00 := hF2.at_ (i := (0 : Int)) (by omega) (by omega)
 have hn0 : (rg rsF (0 : Int)).n = n := by rw [← h00.1]; exact hln _ (by rw [show (0 : Int) = ((0 : Nat) : Int) from O, gl_mem (by omega)]; exact List.getElem_mem _)
 refine Gdo O (Ops.idx hF2.top.2 O O O (by omega) (by omega) ?_)
 refine Ops.ld_sl hF2.top O (by show (0 : Int).toNat < N; exact hN.1) O O ?_
 refine Ops.len O O (Gdc O ?_)
 refine Cd.loop (α := Nat × (Option Addr × Nat) × List SlV) (fun z => [(0, .slice F N cF), (2, .pointer A2), (3, .pointer A3), (16, .int .i64 (n : Int)), (17, .int .i64 (z.1 : Int))]) (fun z w' => z.1 ≤ n ∧ z.2.2.length = z.1 ∧ St w w' (mxB A3 z.2.1.1 z.1 z.2.1.2 :: mxB A2 none 0 0 :: (mat 32 2 z.2.1.1 z.1 z.2.1.2 z.2.2 (mnT n fl z.1) ++ []))) (fun z => n - z.1) (0, (none, 0), []) ⟨O, O, O, congrArg (fun m : Nat => Value.int .i64 (m : Int)) hn0, O, trivial⟩ ⟨Nat.zero_le _, O, hS2⟩ ?_
 clear hS2 hF2 h00
 rintro ⟨i, ⟨Am, cm⟩, rsm⟩ e w5 ⟨hi, hrm, hS⟩
 dsimp only at hi hrm hS ⊢
 refine Gbc O ?_
 refine Cd.cond_p _ O (fun h1 => ?_) (fun h1 => ?_)
 ·have hin : i < n := by omega
  refine Gao O (Ops.mkmap hS O ?_)
  intro g w6 hS6
  refine Gdo O (Ops.len O O ?_)
  refine Ops.mkI N hS6 O O ⟨by omega, by omega⟩ ?_
  intro A6 w7 hS7
  have hS7 : St w w7 (mvK A6 N (mvF n fl i 0) g [] A3 A2 Am i cm rsm (mnT n fl i)) := by
   have e0 := mvF_0 (n := n) (fl := fl) (i := i)
   rw [hfl] at e0
   rw [e0]
   exact hS7
  clear hS6 hS
  refine Gdo O (Ops.len O O (Gdc O ?_))
  refine Cd.loop (α := Nat × List (ByteArray × Int)) (fun z => [(0, .slice F N cF), (2, .pointer A2), (3, .pointer A3), (4, .int .i64 (i : Int)), (5, .map (some g)), (6, .slice A6 N N), (16, .int .i64 (n : Int)), (17, .int .i64 (i : Int)), (24, .slice F N cF), (25, .int .i64 (N : Int)), (26, .int .i64 (z.1 : Int))]) (fun z w' => z.1 ≤ N ∧ FsP n fl i z.1 z.2 ∧ St w w' (mvK A6 N (mvF n fl i z.1) g z.2 A3 A2 Am i cm rsm (mnT n fl i))) (fun z => N - z.1) (0, []) ⟨O, O, O, O, O, O, O, O, O, O, O, trivial⟩ ⟨Nat.zero_le _, FsP.zero, hS7⟩ ?_
  clear hS7
  rintro ⟨f, L⟩ e1 w8 ⟨hf, hFs, hS⟩
  dsimp only at hf hFs hS ⊢
  refine Gbc O ?_
  refine Cd.cond_p _ O (fun h2 => ?_) (fun h2 => ?_)
  ·have hfN : f < fl.length := by omega
   have hF8 := hS.oldRows hF
   have hrf := hF8.at_ (i := (f : Int)) (by omega) (by omega)
   have hmf : gl fl (f : Int) ∈ fl := by rw [gl_mem hfN]; exact List.getElem_mem _
   have hlf := hl _ hmf
   have hnf : (rg rsF (f : Int)).n = n := by rw [← hrf.1]; exact hlf.1
   have hat := hFs.at_ hfN
   have hpl := hNb.lt hfN hin
   have hmvl := mvF_len (n := n) (fl := fl) (i := i) (f := f)
   refine Gao O (Ops.idx hF8.top.2 O O O (by omega) (by omega) (Ops.ld_sl hF8.top O (by omega) O O (Gdo O (Ops.call (Clone_c _ _ _ (gl fl (f : Int)) _ hrf (by omega)) O O O ?_))))
   rintro _ w9 ⟨A9, c9, rfl, hst⟩
   have hS9 := hS.call hst
   clear hS hst hF8 hrf
   rw [hnf] at hS9 ⊢
   have hS9 : St w w9 (CkI 2 A9 n c9 (gl fl (f : Int)) :: mvK A6 N (mvF n fl i f) g L A3 A2 Am i cm rsm (mnT n fl i)) := hS9
   refine Gdo O (Ops.idx (hS9.rd 0 O) O O O (by omega) (by omega) (Ops.st_int 0 (i := (i : Int)) hS9 O O O (by omega) ?_))
   intro w10 hS10
   have hS10 : St w w10 (CkI 2 A9 n c9 (rstP (gl fl (f : Int)) i) :: mvK A6 N (mvF n fl i f) g L A3 A2 Am i cm rsm (mnT n fl i)) := hS10
   refine Gdo O ?_
   refine Ops.call (keyOf_c A9 n c9 (rstP (gl fl (f : Int)) i) _ (hT.later hS10.below) (hS10.rdI 0 O) (fun x hx => by
    rcases List.mem_or_eq_of_mem_set hx with hx | rfl
    ·have := hlf.2 x hx; omega
    omega) (by omega)) rfl rfl rfl ?_
   rintro _ w11 ⟨rfl, hst⟩
   have hS11 := hS10.tail.later hst.below
   clear hS9 hS10 hst
   refine Gdo O (Ops.lookIok keyS (keyB (rstP (gl fl (f : Int)) i)) (hS11.rdM 1 O) O O O ?_)
   rw [hat]
   by_cases hp : ptP n fl i f < f
   ·rw [if_pos hp]
    have hhit := mvF_hit hNb hin hfN hp
    refine Gdc O (Cd.cond_t O (Gao O (Ops.idx (hS11.rd 0 O) O O O (by omega) (by omega) (Ops.st_int 0 (i := (f : Int)) hS11 O O O (by omega) ?_))))
    intro w12 hS12
    refine Ops.idx (hS12.rd 0 O) O O O (by show (0 : Int) ≤ (ptP n fl i f : Int); omega) (by show (ptP n fl i f : Int) < (N : Int); omega) ?_
    refine Ops.st_int 0 (i := (ptP n fl i f : Int)) hS12 O O O (by omega) ?_
    intro w13 hS13
    refine Gdo O (Ops.add O O O (by omega) (Gdn O (tQ ?_)))
    refine ⟨(f + 1, L), by show N - (f + 1) < N - f; omega, ⟨O, O, O, O, O, O, O, O, O, O, O, trivial⟩, by show f + 1 ≤ N; omega, hFs.hit hNb hin hfN hp, ?_⟩
    show St w w13 (mvK A6 N (mvF n fl i (f + 1)) g L A3 A2 Am i cm rsm (mnT n fl i))
    rw [hhit]
    exact hS13
   rw [if_neg hp]
   have hmis := mvF_miss hNb hin hfN hp
   refine Gdc O (Cd.cond_f O (Gao O (Ops.upm O keyS 1 (u := (f : Int)) (a := keyB (rstP (gl fl (f : Int)) i)) (vv := Value.int .i64) hS11 O O O O ?_)))
   intro w12 hS12
   refine Gdo O (Ops.add O O O (by omega) (Gdn O (tQ ?_)))
   refine ⟨(f + 1, putA L (keyB (rstP (gl fl (f : Int)) i)) (f : Int)), by show N - (f + 1) < N - f; omega, ⟨O, O, O, O, O, O, O, O, O, O, O, trivial⟩, by show f + 1 ≤ N; omega, hFs.miss hNb hln hin hfN hp, ?_⟩
   show St w w12 (mvK A6 N (mvF n fl i (f + 1)) g _ A3 A2 Am i cm rsm (mnT n fl i))
   rw [hmis]
   exact hS12
  have hfe : f = fl.length := by omega
  subst hfe
  rw [mvF_all hNb hin] at hS
  have hmn := mnT_next n fl i
  have hS : St w w8 (CkI 2 A6 N N (mvP n fl i) :: mxB A3 Am i cm :: mxB A2 none 0 0 :: (mat 32 2 Am i cm rsm (mnT n fl i) ++ [])) := hS.sub ((List.Sublist.refl _).cons _ |>.cons_cons _)
  refine Gax O (thenQ_x (Gfo O ?_))
  refine Ops.fld (hS.rd 1 O) O O O O inferInstance (Ops.ldf_s (j := 0) (hS.rd 1 O) O O O O O (Gdo O (Ops.bs1R hS O O O ?_)))
  intro A9 w9 hS9
  refine Ops.appR 4 hS9 O (hS9.rdR 0 O) O O O (by omega) (by omega) O ?_
  intro AZ cZ w10 hS10
  refine Ops.fld (hS10.rd 2 O) O O O O inferInstance (Ops.stf 2 (j := 0) hS10 O O O O O ?_)
  intro w11 hS11
  have hS11 := hS11.tail
  have hS11 := hS11.perm (perm_q2 _ _ _ _ _)
  refine Gdo O (Ops.add O O O (by omega) (Gdn O (tQ ?_)))
  refine ⟨(i + 1, (AZ, cZ), rsm ++ [⟨A6, N, N⟩]), by show n - (i + 1) < n - i; omega, ⟨O, O, O, O, O, trivial⟩, by show i + 1 ≤ n; omega, by show (rsm ++ [_]).length = i + 1; rw [List.length_append, hrm]; rfl, ?_⟩
  show St w w11 (mxB A3 AZ (i + 1) cZ :: mxB A2 none 0 0 :: (mat 32 2 AZ (i + 1) cZ (rsm ++ [_]) (mnT n fl (i + 1)) ++ []))
  rw [hmn]
  unfold mat
  rw [rowsCk_snoc (by rw [hrm, mnT_len])]
  exact hS11
 obtain rfl : i = n := by omega
 refine Gax O (thenQ_x (Gfo O ?_))
 refine Ops.ld_agg 0 (hS.rd 0 O) O O O (Ops.st_agg 1 1 hS O O O O O O O ?_)
 intro w6 hS6
 refine Gdr O (retc_r O (hS6.rd 1 O) ?_)
 exact ⟨Am, cm, rsm, O, hrm, hS6.sub (show List.Sublist _ (_ :: _ :: _) from ((List.Sublist.refl _).cons _ |>.cons _))⟩
noncomputable def mxM (n : Nat) (R : List Int) (B : List (List Int)) : List (List Int) := if flgK n R B = 0 then mnP n (flgP n R B) else []
theorem mx_few {n : Nat} {R : List Int} {B : List (List Int)} (h : (flgP n R B).length ≤ 400) : flgK n R B = 0 ∧ flgL n R B = flgP n R B ∧ mxM n R B = mnP n (flgP n R B) := by
 have e : flgK n R B = 0 := by unfold flgK; rw [if_pos h]
 refine ⟨e, by unfold flgL; rw [if_pos h], by unfold mxM; rw [if_pos e]⟩
theorem flg_el {n : Nat} {R : List Int} {B : List (List Int)} (hP : PosP n R B) : ∀ x ∈ flgP n R B, x.length = n ∧ ∀ e ∈ x, 0 ≤ e ∧ e ≤ 1000 := fun x hx => by
 have hn := hP.n1
 have hb := hP.big
 have h := (flgP_mem (by omega)).1 hx
 refine ⟨h.1, fun e he => ?_⟩
 obtain ⟨k, hk, rfl⟩ := List.mem_iff_getElem.1 he
 have := (h.2.1 k (by omega)).1
 rw [gi_mem hk] at this
 omega
/-
 Flags, the maniplex of a poset, as the program tells them. Conditions: the library's table of powers of ten holds what the program's text lays there.
-/
theorem implFlagsOf_c (n : Nat) (A D : Option Addr) (cA cD : Nat) (R : List Int) (rs : List SlV) (B : List (List Int)) (w : World) (hR : RdI w A R.length R) (hB : RowsI w D B.length rs B) (hP : PosP n R B) :
  Ret Tryz.prog 28 [.agg #[.int .i64 n, .slice A R.length cA, .slice D B.length cD]] w (AnsSS (flgL n R B) (flgK n R B) w) := by
 refine Ret.of_cd Tryz.func28 O Tryz.ntmps28 O (post2 O) (Gbo O (Ops.box3T (St.refl w) O O ?_))
 intro A1 w1 hS1
 refine Gdo O (Ops.ld_agg 2 (hS1.rd 0 O) O O O (Ops.call (flagsOf_c n A D cA cD R rs B _ (hS1.oldI hR) (hS1.oldRows hB) hP) O O O ?_))
 rintro _ w2 ⟨A2, c2, rs2, rfl, hrl, hst⟩
 have hS2 := hS1.call2 hst
 refine Gdr O (ret2_si O O ?_)
 exact ⟨A2, c2, rs2, O, hrl, hS2.tail⟩
theorem implManiplexOf_c (n : Nat) (A D : Option Addr) (cA cD : Nat) (R : List Int) (rs : List SlV) (B : List (List Int)) (w : World) (hT : Tab w) (hR : RdI w A R.length R) (hB : RowsI w D B.length rs B) (hP : PosP n R B) (hf : (flgP n R B).length ≤ 400) :
  Ret Tryz.prog 32 [.agg #[.int .i64 n, .slice A R.length cA, .slice D B.length cD]] w (fun v w' => (PlyP n R B ∧ AnsX (mnP n (flgP n R B)) 0 w v w') ∨ (¬ PlyP n R B ∧ AnsX [] 5 w v w')) := by
 have hn := hP.n1
 obtain ⟨e1, e2, e3⟩ := mx_few hf
 refine Ret.of_cd Tryz.func32 O Tryz.ntmps32 O (postc2 O O) (Gbo O (Ops.box3T (St.refl w) O O ?_))
 intro A1 w1 hS1
 refine Ops.new1 hS1 O ?_
 intro A2 w2 hS2
 refine Gdo O (Ops.ld_agg 2 (hS2.rd 1 O) O O O (Ops.call (flagsOf_c n A D cA cD R rs B _ (hS2.oldI hR) (hS2.oldRows hB) hP) O O O ?_))
 rintro _ w3 ⟨AF, cF, rsF, rfl, hrF, hst⟩
 rw [e2] at hst hrF ⊢
 rw [e1]
 have hF : RowsI w3 AF (flgP n R B).length rsF (flgP n R B) := hst.rowsI O
 have hS3 := hS2.later hst.below
 have hT3 := hT.later hS3.below
 refine Gdc O (Cd.cond_f O (Gao O (Ops.ld_agg 2 (hS3.rd 1 O) O O O (Gdo O (Ops.call (isPolytope_c n A D cA cD R rs B AF cF rsF _ hT3 (hS3.oldI hR) (hS3.oldRows hB) hP hF hf) O O O ?_)))))
 rintro _ w4 ⟨b, rfl, hb, hst4⟩
 have hS4 := hS3.later hst4.below
 first | refine Ops.not_p rfl rfl ?_ | refine Ops.not rfl rfl ?_
 refine Gdc O ?_
 refine Cd.cond O (fun h1 => ?_) (fun h1 => ?_)
 ·have h1 : ¬ PlyP n R B := fun h => by have := hb.2 h; subst this; cases h1
  refine Gao O (Ops.bld0 (by exact inferInstance) O (Ops.st_agg 1 0 hS4 O O O O O O O ?_))
  intro w5 hS5
  refine Gdr O (retc2_r O (hS5.rd 0 O) O ?_)
  exact .inr ⟨h1, AnsX.none hS5⟩
 have h1 : PlyP n R B := hb.1 (by cases b <;> simp_all)
 refine Gao O (Ops.call (maniplexOf_c n AF _ cF rsF _ _ (hT.later hS4.below) (hF.later hst4.below) (flg_el hP) (flg_NbP hP h1.2.2.1) ⟨List.length_pos_iff.2 h1.1, hf⟩ (by omega)) O O O ?_)
 rintro _ w5 ⟨Am, cm, rsm, rfl, hrm, hst5⟩
 have hml := mn_len n (flgP n R B)
 have hS5 := (hS4.call hst5).perm List.perm_append_comm
 refine Ops.st_agg 1 0 hS5 O O O O O O O ?_
 intro w6 hS6
 refine Gdr O (retc2_r O (hS6.rd 0 O) O ?_)
 refine .inl ⟨h1, Am, cm, rsm, by rw [hml]; rfl, by rw [hml]; exact hrm, ?_⟩
 rw [hml]
 have h9 := hS6.sub (show List.Sublist _ (_ :: _ :: _) from ((List.Sublist.refl _).cons _ |>.cons _))
 rwa [List.append_nil] at h9
/-
 The laws' tests of equal rows and maniplexes.
-/
theorem likeRows5_c (A : Option Addr) (n c : Nat) (rs : List SlV) (xss : List (List Int)) (B : Option Addr) (m cB : Nat) (rs' : List SlV) (yss : List (List Int)) (w : World) (hX : RowsI w A n rs xss) (hY : RowsI w B m rs' yss) (hn : n ≤ 9223372036854775806) (hr : ∀ x ∈ xss, x.length ≤ 9223372036854775806) :
  Ret Tryz.prog 120 [.slice A n c, .slice B m cB] w (fun v w' => v = .bool (decide (xss = yss)) ∧ St w w' []) := by
 have hxl := hX.len
 have hyl := hY.len
 refine Ret.of_cd Tryz.func120 O Tryz.ntmps120 O (post1 O) ?_
 refine Gbo O (Ops.len O O (Gdo O (Ops.len O O (Gdc O ?_))))
 refine Cd.cond_p _ O (fun h1 => ?_) (fun h1 => ?_)
 ·have hne : xss ≠ yss := fun e => h1 (by rw [← hxl, ← hyl, e])
  refine Gar O (ret1_b O ?_)
  exact ⟨by rw [decide_eq_false hne], St.refl w⟩
 have hnm : n = m := by omega
 subst hnm
 refine Gac O ?_
 refine Cd.loop (α := Nat) (fun i => [(0, .slice A n c), (1, .slice B n cB), (5, .int .i64 (i : Int))]) (fun i w' => St w w' [] ∧ i ≤ n ∧ ∀ j, j < i → xss[j]? = yss[j]?) (fun i => n - i) 0 ⟨O, O, O, trivial⟩ ⟨St.refl w, Nat.zero_le _, fun j hj => absurd hj (Nat.not_lt_zero _)⟩ ?_
 rintro i e w1 ⟨hS1, hi, hj⟩
 have hX1 := hS1.oldRows hX
 have hY1 := hS1.oldRows hY
 refine Gbo O (Ops.len O O (Gdc O ?_))
 refine Cd.cond_p _ O (fun h2 => ?_) (fun h2 => ?_)
 ·have hxi := hX1.at_ (i := (i : Int)) (by omega) (by omega)
  have hyi := hY1.at_ (i := (i : Int)) (by omega) (by omega)
  have hri : (rg rs (i : Int)).n ≤ 9223372036854775806 := by
   rw [← hxi.1, gl_mem (by omega)]; exact hr _ (List.getElem_mem _)
  refine Gac O ?_
  refine Cd.draw [xS (A) (n) (c), xI ((i : Int)), xP (ptrAt (A) ((i : Int)).toNat), xS ((rg (rs) ((i : Int))).a) ((rg (rs) ((i : Int))).n) ((rg (rs) ((i : Int))).c), xS (B) (n) (cB), xI ((i : Int)), xP (ptrAt (B) ((i : Int)).toNat), xS ((rg (rs') ((i : Int))).a) ((rg (rs') ((i : Int))).n) ((rg (rs') ((i : Int))).c), xB (decide (gl xss (i : Int) = gl yss (i : Int))), xB (decide (¬ (gl xss (i : Int) = gl yss (i : Int))))] (by kernel_rfl) (by kernel_rfl) O (exL O) ?_ ?_
  ·refine ⟨Dr O, Dr O, fun _ _ hb _ _ => Ops.idx (hX1.top.later hb).2 O O O (by omega) (by omega) (Az O), fun _ _ hb _ _ => Ops.ld_sl (hX1.top.later hb) O (by omega) O O (Az O), Dr O, Dr O, fun _ _ hb _ _ => Ops.idx (hY1.top.later hb).2 O O O (by omega) (by omega) (Az O), fun _ _ hb _ _ => Ops.ld_sl (hY1.top.later hb) O (by omega) O O (Az O), ?_, fun _ _ _ _ _ => Ops.not_p O O (Az O), trivial⟩
   intro e1 w1 hb hp hun
   refine Ops.call (likeInts_c _ _ _ _ _ _ _ _ _ (hxi.later hb) (hyi.later hb) hri) O O O ?_
   rintro _ w2 ⟨rfl, hst⟩
   refine Ops.n ?_
   exact After.dn hst.below (by exact O)
  intro u w2 hb2 _
  have hS2 := hS1.later hb2
  refine Gec O ?_
  refine Cd.cond_p _ O (fun h3 => ?_) (fun h3 => ?_)
  ·have hne : xss ≠ yss := fun e => h3 (by rw [e])
   refine Gar O (thenQ_r (Qk_ret ?_))
   refine ret1_b O ?_
   exact ⟨by rw [decide_eq_false hne], hS2⟩
  have h3 := Decidable.not_not.1 h3
  rw [gl_mem (by omega), gl_mem (by omega)] at h3
  refine Gao O (Ops.add O O O (by omega) (Gdn O (tQ ?_)))
  refine ⟨i + 1, by show n - (i + 1) < n - i; omega, ⟨O, O, O, trivial⟩, hS2, by omega, fun j hj' => ?_⟩
  by_cases e : j = i
  ·subst e; rw [List.getElem?_eq_getElem (by omega), List.getElem?_eq_getElem (by omega), h3]
  exact hj j (by omega)
 have he : xss = yss := List.ext_getElem? fun j => by
  by_cases hjn : j < n
  ·exact hj j (by omega)
  rw [List.getElem?_eq_none (by omega), List.getElem?_eq_none (by omega)]
 refine Gax O (thenQ_x (Gfr O ?_))
 refine ret1_b O ?_
 exact ⟨by rw [decide_eq_true he], hS1⟩
theorem like5_c (A : Option Addr) (n c : Nat) (rs : List SlV) (xss : List (List Int)) (B : Option Addr) (m cB : Nat) (rs' : List SlV) (yss : List (List Int)) (w : World) (hX : RowsI w A n rs xss) (hY : RowsI w B m rs' yss) (hn : n ≤ 9223372036854775806) (hr : ∀ x ∈ xss, x.length ≤ 9223372036854775806) :
  Ret Tryz.prog 64 [.agg #[.slice A n c], .agg #[.slice B m cB]] w (fun v w' => v = .bool (decide (xss = yss)) ∧ St w w' []) := by
 refine Ret.of_cd Tryz.func64 O Tryz.ntmps64 O (post1 O) (Gbo O (Ops.box1 (St.refl w) O O ?_))
 intro A1 w1 hS1
 refine Ops.box1 hS1 O O ?_
 intro A2 w2 hS2
 refine Gdo O (Ops.fld (hS2.rd 1 O) O O O O inferInstance (Ops.ldf_s (hS2.rd 1 O) O O O O O (Ops.fld (hS2.rd 0 O) O O O O inferInstance (Ops.ldf_s (hS2.rd 0 O) O O O O O (Ops.call (likeRows5_c A n c rs xss B m cB rs' yss _ (hS2.oldRows hX) (hS2.oldRows hY) hn hr) O O O ?_)))))
 rintro _ w3 ⟨rfl, hst⟩
 refine Gdr O (ret1_b O ?_)
 exact ⟨O, (hS2.later hst.below).none⟩
end Go.Proofs.YtopgfgdgfjddpaaGreatDoor.Vc
/-
 Plain mathematics: the faces of the maniplex of a polytope's flags are as many as its elements, rank by rank.
-/
namespace Go.Proofs.YtopgfgdgfjddpaaGreatDoor.Vc
structure Ply (n : Nat) (R : List Int) (B : List (List Int)) : Prop where
 pos : PosP n R B
 ply : PlyP n R B
 n5 : n ≤ 5
 few : (flgP n R B).length ≤ 400
section
variable {n : Nat} {R : List Int} {B : List (List Int)}
theorem Ply.nb (h : Ply n R B) : NbP n (flgP n R B) := flg_NbP h.pos h.ply.2.2.1
theorem Ply.n1 (h : Ply n R B) : 1 ≤ n := by have := h.pos.n1; omega
theorem Ply.mani (h : Ply n R B) : Mani (mnP n (flgP n R B)) := mn_mani h.pos h.ply h.n5 h.few
theorem Ply.nl (h : Ply n R B) : (gl (mnP n (flgP n R B)) 0).length = (flgP n R B).length := mn_rl h.nb (show 0 < n by have := h.n1; omega)
end
/-
 Plain mathematics: the maniplex of a polytope's flags is polytopal.
-/
section
variable {n : Nat} {R : List Int} {B : List (List Int)}
def flY (n : Nat) (M : List (List Int)) (a : Nat) : List Int := (List.range n).map fun i => fpE M i a
theorem flY_at {M : List (List Int)} {a i : Nat} (hi : i < n) : gi (flY n M a) (i : Int) = fpE M i a := by
 unfold flY
 rw [gi_mem (by simpa using hi), List.getElem_map, List.getElem_range]
end
/-
 Plain mathematics of the list of maniplexes: forms put in ascending order one by one, and that there is one such order.
-/
abbrev Mx := List (List Int)
def leM (a b : Mx) : Prop := ¬ lexCC b a < 0
theorem leM_anti {a b : Mx} (h : leM a b) (h' : leM b a) : a = b := by
 unfold leM at h h'
 rw [lexCC_swap] at h
 exact lexCC_zero.1 (by omega)
/-! the list of a rank and a number of flags -/
def Own1 (N : Nat) (xss : Mx) : Prop := ∀ f, f < N → ¬ lexCC (formL N xss (f : Nat)) xss < 0
instance (N : Nat) (xss : Mx) : Decidable (Own1 N xss) := by unfold Own1; exact inferInstance
end Go.Proofs.YtopgfgdgfjddpaaGreatDoor.Vc
/-
 The walks of the program's forms, and of comparisons on both sides.
-/
namespace Go.Proofs.YtopgfgdgfjddpaaGreatDoor.Vc
open Go.RowKit
theorem rowF_len (o b mv : List Int) : (rowF o b mv).length = o.length := by simp [rowF]
theorem rowF_take {o b mv : List Int} {k : Nat} (hk : k < o.length) : (rowF o b mv).take (k + 1) = (rowF o b mv).take k ++ [gi b (gi mv (gi o (k : Int)))] := by
 rw [List.take_succ_eq_append_getElem (by rw [rowF_len]; exact hk), gi_mem hk]
 simp [rowF]
theorem formFrom_c (A : Option Addr) (n c : Nat) (rs : List SlV) (xss : List (List Int)) (N : Nat) (f : Int) (w : World) (hR : RowsI w A n rs xss) (hM : Mani xss) (hN : N = (gl xss 0).length) (h0 : 0 ≤ f) (hf : f < N) :
  Ret Tryz.prog 186 [.slice A n c, .int .i64 f] w (fun v w' => ∃ A' c' rs', v = .agg #[.slice A' n c'] ∧ rs'.length = n ∧ St w w' (mat 32 2 A' n c' rs' (formL N xss f))) := by
 subst hN
 have hP := hM.prm h0 hf
 have hs := hM.2.2.1.sys
 have h5 := hM.1
 have h40 := hM.2.1
 have hxl := hR.len
 have hr0 : (gl xss 0).length = (rg rs 0).n := hR.rowLen (by omega) (by omega)
 have hform : formL (gl xss 0).length xss f = xss.map fun mv => rowF (orbit (gl xss 0).length xss f) (backI (gl xss 0).length (orbit (gl xss 0).length xss f)) mv := O
 have hbk : ∀ x : Int, 0 ≤ x → x < ((gl xss 0).length : Int) → 0 ≤ gi (backI (gl xss 0).length (orbit (gl xss 0).length xss f)) x ∧ gi (backI (gl xss 0).length (orbit (gl xss 0).length xss f)) x < ((gl xss 0).length : Int) := fun x h0 h1 => by
  obtain ⟨k, hk, _, hb⟩ := hP.backR h0 h1
  omega
 have hbl := backI_len (gl xss 0).length (orbit (gl xss 0).length xss f)
 have hbe : backI (gl xss 0).length (orbit (gl xss 0).length xss f) = scat (List.replicate (gl xss 0).length 0) (fun k => gi (orbit (gl xss 0).length xss f) k) (fun k => (k : Int)) (gl xss 0).length := by
  unfold backI; rw [hP.len]
 have hnum := numberedFrom_c A n c rs xss (gl xss 0).length f
 generalize hNe : (gl xss 0).length = N at *
 generalize hoe : orbit N xss f = o at *
 generalize hb0 : backI N o = b at *
 have hol := hP.len
 have hrow : ∀ k : Nat, k < N → 0 ≤ gi o (k : Int) ∧ gi o (k : Int) < N := fun k hk => hP.rng hk
 rw [hform]
 refine Ret.of_cd Tryz.func186 O Tryz.ntmps186 O (postc O O) (Gbo O (Ops.new1 (St.refl w) O ?_))
 intro Ac w1 hS1
 refine Gdo O (Ops.call (hnum _ (hS1.oldRows hR) (by omega) (by omega) hs (by omega) h0 hf) O O O ?_)
 rintro _ w2 ⟨Ao, co, rfl, hst⟩
 rw [hol] at hst ⊢
 have hS2 := hS1.call hst
 have hR2 := hS2.oldRows hR
 refine Gdo O (Ops.idx hR2.top.2 O O O (by omega) (by omega) (Ops.ld_sl hR2.top O (by omega) O O (Ops.len O O ?_)))
 refine Ops.mkI N hS2 (by rw [← hr0]; rfl) O (by omega) ?_
 intro A6 w3 hS3
 refine Gdo O (Ops.len O O (Gdc O ?_))
 refine Cd.loop (α := Nat) (fun k => [(0, .slice A n c), (4, .pointer Ac), (5, .slice Ao N co), (6, .slice A6 N N), (23, .slice Ao N co), (24, .int .i64 (N : Int)), (25, .int .i64 (k : Int))]) (fun k w' => St w w' [CkI 2 A6 N N (scat (List.replicate N 0) (fun k => gi o k) (fun k => (k : Int)) k), CkI 2 Ao N co o, Bx 24 1 Ac [.slice none 0 0]] ∧ k ≤ N) (fun k => N - k) 0 ⟨O, O, O, by rw [← hr0]; rfl, O, O, O, trivial⟩ ⟨hS3, Nat.zero_le _⟩ ?_
 rintro k e w4 ⟨hS4, hk⟩
 have hO4 := hS4.rdI 1 O
 refine Gbc O ?_
 refine Cd.cond_p _ O (fun h1 => ?_) (fun h1 => ?_)
 ·have hok := hrow k (by omega)
  refine Gao O (Ops.idx hO4.2 O O O (by omega) (by omega) (Ops.ld_int hO4 O (by omega) O O (Gdo O (Ops.idx (hS4.rdI 0 O).2 O O O (by omega) (by omega) (Ops.st_int 0 hS4 O O O (by omega) ?_)))))
  intro w5 hS5
  refine Gdo O (Ops.add O O O (by omega) (Gdn O (tQ ?_)))
  exact ⟨k + 1, by show N - (k + 1) < N - k; omega, ⟨O, O, O, O, O, O, O, trivial⟩, hS5, by omega⟩
 have hkN : k = N := by omega
 subst hkN
 rw [← hbe] at hS4
 refine Gax O (thenQ_x (Gfo O ?_))
 refine Ops.new1 hS4 O ?_
 intro Ad w5 hS5
 have hS0 : St w w5 (Bx 24 1 Ad [.slice none 0 0] :: CkI 2 A6 k k b :: CkI 2 Ao k co o :: Bx 24 1 Ac [.slice none 0 0] :: CkR 32 none 0 0 [] :: []) := (hS5.nil 32).perm (List.perm_append_comm (l₁ := [_]) (l₂ := [_, _, _, _]))
 refine Gdo O (Ops.len O O (Gdc O ?_))
 refine Cd.loop (α := Nat × Option Addr × Nat × List SlV) (fun s => [(4, .pointer Ac), (5, .slice Ao k co), (6, .slice A6 k k), (9, .pointer Ad), (35, .slice A n c), (36, .int .i64 (n : Int)), (37, .int .i64 (s.1 : Int))]) (fun s w' => St w w' (Bx 24 1 Ad [.slice s.2.1 s.1 s.2.2.1] :: CkI 2 A6 k k b :: CkI 2 Ao k co o :: Bx 24 1 Ac [.slice none 0 0] :: CkR 32 s.2.1 s.1 s.2.2.1 s.2.2.2 :: rowsCk 2 s.2.2.2 ((xss.map fun mv => rowF o b mv).take s.1)) ∧ s.1 ≤ n ∧ s.2.2.2.length = s.1) (fun s => n - s.1) (0, none, 0, []) ⟨O, O, O, O, O, O, O, trivial⟩ ⟨hS0, Nat.zero_le _, O⟩ ?_
 rintro ⟨i, A3, c3, rs1⟩ e w6 ⟨hS6, hi, hlen⟩
 dsimp only at hS6 hi hlen ⊢
 refine Gbc O ?_
 refine Cd.cond_p _ O (fun h1 => ?_) (fun h1 => ?_)
 ·have hi' : i < n := by omega
  have hx : i < xss.length := by omega
  have hM6 := hS6.oldRows hR
  have e2 : gl xss i = xss[i] := by simp [gl, List.getD_eq_getElem?_getD, List.getElem?_eq_getElem hx]
  have hmv := hs (gl xss i) (gl_in (by omega) (by omega))
  have hmr := hM6.rowLen (k := (i : Int)) (by omega) h1
  refine Gao O (Ops.idx hM6.top.2 O O O (by omega) (by omega) (Ops.ld_sl hM6.top O (by omega) O O ?_))
  refine Gdo O (Ops.len O O (Gdc O ?_))
  refine Cd.loop (α := Nat × Option Addr × Nat) (fun s => [(4, .pointer Ac), (5, .slice Ao k co), (6, .slice A6 k k), (9, .pointer Ad), (35, .slice A n c), (36, .int .i64 (n : Int)), (37, .int .i64 (i : Int)), (11, .slice (rg rs i).a (rg rs i).n (rg rs i).c), (12, .slice s.2.1 s.1 s.2.2), (41, .slice Ao k co), (42, .int .i64 (k : Int)), (43, .int .i64 (s.1 : Int))]) (fun s w' => St w w' (CkI 2 s.2.1 s.1 s.2.2 ((rowF o b (gl xss i)).take s.1) :: Bx 24 1 Ad [.slice A3 i c3] :: CkI 2 A6 k k b :: CkI 2 Ao k co o :: Bx 24 1 Ac [.slice none 0 0] :: CkR 32 A3 i c3 rs1 :: rowsCk 2 rs1 ((xss.map fun mv => rowF o b mv).take i)) ∧ s.1 ≤ k) (fun s => k - s.1) (0, none, 0) ⟨O, O, O, O, O, O, O, O, O, O, O, O, trivial⟩ ⟨hS6.nil _, Nat.zero_le _⟩ ?_
  rintro ⟨j, A12, c12⟩ e w7 ⟨hS7, hj⟩
  dsimp only at hS7 hj ⊢
  have hO7 := hS7.rdI 3 O
  have hB7 := hS7.rdI 2 O
  have hM7 := (hS7.oldRows hR).at_ (i := (i : Int)) (by omega) h1
  refine Gbc O ?_
  refine Cd.cond_p _ O (fun h2 => ?_) (fun h2 => ?_)
  ·have hoj := hrow j (by omega)
   have hv := hmv.2 _ hoj.1 hoj.2
   have hbv := hbk _ hv.1 hv.2
   refine Gao O (Ops.idx hO7.2 O O O (by omega) (by omega) (Ops.ld_int hO7 O (by omega) O O (Gdo O (Ops.idx hM7.2 O O O (by omega) (by omega) (Ops.ld_int hM7 O (by omega) O O (Ops.idx hB7.2 O O O (by omega) (by omega) (Ops.ld_int hB7 O (by omega) O O (Ops.bs1I hS7 O O O ?_))))))))
   intro A9 w9 hS9
   refine Ops.appI 1 hS9 O (hS9.rdI 0 O) O O O (by omega) (by omega) O ?_
   intro A10 c10 w10 hS10
   have hS10 := hS10.tail
   refine Gdo O (Ops.add O O O (by omega) (Gdn O (tQ ?_)))
   refine ⟨(j + 1, A10, c10), by show k - (j + 1) < k - j; omega, ⟨O, O, O, O, O, O, O, O, O, O, O, O, trivial⟩, ?_, by show j + 1 ≤ k; omega⟩
   show St w w10 (CkI _ A10 (j + 1) c10 ((rowF o b (gl xss i)).take (j + 1)) :: _)
   rw [rowF_take (by omega)]
   exact hS10
  have hjk : j = k := by omega
  subst hjk
  rw [List.take_of_length_le (by rw [rowF_len]; omega)] at hS7
  refine Gax O (thenQ_x (Gfo O ?_))
  refine Ops.fld (hS7.rd 1 O) O O O O inferInstance (Ops.ldf_s (hS7.rd 1 O) O O O O O (Gdo O (Ops.bs1R hS7 O O O ?_)))
  intro A9 w9 hS9
  refine Ops.appR 6 hS9 O (hS9.rdR 0 O) O O O (by omega) (by omega) O ?_
  intro A10 c10 w10 hS10
  have hS10 := hS10.tail
  refine Ops.fld (hS10.rd 1 O) O O O O inferInstance (Ops.stf 1 hS10 O O O O O ?_)
  intro w11 hS11
  have hS11 : St w w11 (CkI 2 A12 j c12 (rowF o b (gl xss i)) :: Bx 24 1 Ad [.slice A10 (i + 1) c10] :: CkI 2 A6 j j b :: CkI 2 Ao j co o :: Bx 24 1 Ac [.slice none 0 0] :: CkR 32 A10 (i + 1) c10 (rs1 ++ [⟨A12, j, c12⟩]) :: rowsCk 2 rs1 ((xss.map fun mv => rowF o b mv).take i)) := hS11
  refine Gdo O (Ops.add O O O (by omega) (Gdn O (tQ ?_)))
  refine ⟨(i + 1, A10, c10, rs1 ++ [⟨A12, j, c12⟩]), by show n - (i + 1) < n - i; omega, ⟨O, O, O, O, O, O, O, trivial⟩, ?_, hi', by simp [hlen]⟩
  show St w w11 (_ :: _ :: _ :: _ :: CkR _ A10 (i + 1) c10 (rs1 ++ [_]) :: rowsCk _ (rs1 ++ [_]) ((xss.map fun mv => rowF o b mv).take (i + 1)))
  rw [List.take_succ_eq_append_getElem (by rw [List.length_map]; exact hx), rowsCk_append (by simp [hlen]; omega), List.getElem_map, ← e2]
  refine hS11.perm ?_
  exact List.perm_append_comm (l₁ := [_]) (l₂ := _ :: _ :: _ :: _ :: _ :: rowsCk 2 rs1 ((xss.map fun mv => rowF o b mv).take i))
 have hin : i = n := by omega
 subst hin
 rw [List.take_of_length_le (by rw [List.length_map]; omega)] at hS6
 refine Gax O (thenQ_x (Gfo O ?_))
 refine Ops.ld_agg 0 (hS6.rd 0 O) O O O (Ops.st_agg 1 3 hS6 O O O O O O O ?_)
 intro w7 hS7
 refine Gdr O (retc_r O (hS7.rd 3 O) ?_)
 exact ⟨A3, c3, rs1, O, hlen, hS7.sub ((((List.sublist_cons_self _ _).trans (List.sublist_cons_self _ _)).trans (List.sublist_cons_self _ _)).trans (List.sublist_cons_self _ _))⟩
end Go.Proofs.YtopgfgdgfjddpaaGreatDoor.Vc
/-
 Plain mathematics: numbering anew keeps what a search finds; the form of a form; every maniplex in the numbers of its own search is a rooted form.
-/
namespace Go.Proofs.YtopgfgdgfjddpaaGreatDoor.Vc
theorem gl_succ (p : List Int) (ps : List (List Int)) (j : Nat) : gl (p :: ps) ((j + 1 : Nat) : Int) = gl ps (j : Int) := by
 simp only [gl, Int.toNat_natCast, List.getD_cons_succ]
theorem gi_map {φ : Int → Int} {l : List Int} {k : Nat} (h : k < l.length) : gi (l.map φ) (k : Int) = φ (gi l (k : Int)) := by
 rw [gi_mem (by simpa using h), gi_mem h, List.getElem_map]
structure Ism (N : Nat) (xss yss : List (List Int)) (φ : Int → Int) : Prop where
 len : yss.length = xss.length
 rng : ∀ x : Int, 0 ≤ x → x < N → 0 ≤ φ x ∧ φ x < N
 inj : ∀ x y : Int, 0 ≤ x → x < N → 0 ≤ y → y < N → φ x = φ y → x = y
 com : ∀ (i : Nat) (x : Int), i < xss.length → 0 ≤ x → x < N → gi (gl yss i) (φ x) = φ (gi (gl xss i) x)
section
variable {N : Nat} {xss yss : List (List Int)} {φ : Int → Int}
theorem push_map (hinj : ∀ x y : Int, 0 ≤ x → x < N → 0 ≤ y → y < N → φ x = φ y → x = y) {out : List Int} (ho : ∀ x ∈ out, 0 ≤ x ∧ x < (N : Int)) {y : Int} (h0 : 0 ≤ y) (h1 : y < N) : push1 (out.map φ) (φ y) = (push1 out y).map φ := by
 unfold push1
 by_cases h : y ∈ out
 ·rw [if_pos h, if_pos (List.mem_map_of_mem h)]
 rw [if_neg h, if_neg (fun hm => by
  obtain ⟨z, hz, e⟩ := List.mem_map.1 hm
  exact h (hinj z y (ho z hz).1 (ho z hz).2 h0 h1 e ▸ hz)), List.map_append]
 rfl
theorem fold_map (hinj : ∀ x y : Int, 0 ≤ x → x < N → 0 ≤ y → y < N → φ x = φ y → x = y) {x : Int} : ∀ (ps qs : List (List Int)) (out : List Int), qs.length = ps.length → (∀ z ∈ out, 0 ≤ z ∧ z < (N : Int)) → (∀ j : Nat, j < ps.length → (0 ≤ gi (gl ps j) x ∧ gi (gl ps j) x < N) ∧ gi (gl qs j) (φ x) = φ (gi (gl ps j) x)) → qs.foldl (fun o p => push1 o (gi p (φ x))) (out.map φ) = (ps.foldl (fun o p => push1 o (gi p x)) out).map φ
 | [], [], _, _, _, _ => rfl
 | p :: ps, q :: qs, out, hl, ho, h => by
  have h0 : (0 ≤ gi p x ∧ gi p x < N) ∧ gi q (φ x) = φ (gi p x) := h 0 (by simp)
  simp only [List.foldl_cons]
  rw [h0.2, push_map hinj ho h0.1.1 h0.1.2]
  exact fold_map hinj ps qs _ (by simpa using hl) (fun z hz => by
   rcases push1_mem.1 hz with hz | rfl
   ·exact ho z hz
   ·exact h0.1) (fun j hj => by
   have := h (j + 1) (by simpa using hj)
   rw [gl_succ, gl_succ] at this
   exact this)
 | [], _ :: _, _, hl, _, _ => by simp at hl
 | _ :: _, [], _, hl, _, _ => by simp at hl
theorem bfs_map (h : Ism N xss yss φ) (hs : Sys N xss) {pt : Int} : ∀ (f i : Nat) (out : List Int), Good N xss pt out → bfs yss f i (out.map φ) = (bfs xss f i out).map φ
 | 0, _, _, _ => rfl
 | f + 1, i, out, hg => by
  simp only [bfs, List.length_map]
  by_cases hi : i < out.length
  ·rw [if_pos hi, if_pos hi, gi_map hi]
   have hx := gi_in hi
   have hr := hg.range _ hx
   have e : expand yss (φ (gi out i)) (out.map φ) = (expand xss (gi out i) out).map φ := fold_map h.inj xss yss out h.len hg.range (fun j hj => ⟨(hs (gl xss j) (by rw [gl_mem hj]; exact List.getElem_mem _)).2 _ hr.1 hr.2, h.com j _ hj hr.1 hr.2⟩)
   rw [e]
   exact bfs_map h hs f (i + 1) _ (foldl_push hs xss out (fun p hp => hp) hg hx).1
  ·rw [if_neg hi, if_neg hi]
theorem orbit_map (h : Ism N xss yss φ) (hs : Sys N xss) {pt : Int} (h0 : 0 ≤ pt) (h1 : pt < N) : orbit N yss (φ pt) = (orbit N xss pt).map φ := bfs_map h hs (N + 1) 0 [pt] (good_one h0 h1)
theorem form_map (h : Ism N xss yss φ) (hM : Mani xss) (hN : N = (gl xss 0).length) {pt : Int} (h0 : 0 ≤ pt) (h1 : pt < N) : formL N yss (φ pt) = formL N xss pt := by
 have hs := hM.2.2.1.sys
 have hP := hM.prm h0 (by rw [← hN]; exact h1)
 rw [← hN] at hs hP
 have ho := orbit_map h hs h0 h1
 have hP' : Prm N ((orbit N xss pt).map φ) := by
  refine ⟨by rw [List.length_map]; exact hP.len, ?_, fun x hx => ?_⟩
  ·rw [List.nodup_iff_pairwise_ne, List.pairwise_map]
   exact List.Pairwise.imp_of_mem (fun ha hb hab e => hab (h.inj _ _ (hP.range _ ha).1 (hP.range _ ha).2 (hP.range _ hb).1 (hP.range _ hb).2 e)) (List.nodup_iff_pairwise_ne.1 hP.nodup)
  obtain ⟨y, hy, rfl⟩ := List.mem_map.1 hx
  exact h.rng y (hP.range y hy).1 (hP.range y hy).2
 have hb : ∀ z : Int, 0 ≤ z → z < N → gi (backI N ((orbit N xss pt).map φ)) (φ z) = gi (backI N (orbit N xss pt)) z := fun z h0 h1 => by
  obtain ⟨k, hk, e1, e2⟩ := hP.backR h0 h1
  have := hP'.back hk
  rw [gi_map (by rw [hP.len]; exact hk), e1] at this
  rw [this, e2]
 unfold formL
 rw [ho]
 apply List.ext_getElem
 ·simp [h.len]
 intro i h2 h3
 simp only [List.length_map] at h2 h3
 simp only [List.getElem_map]
 unfold rowF
 rw [List.map_map]
 apply List.map_congr_left
 intro x hx
 have hx := hP.range x hx
 have hr := (hs (gl xss i) (by rw [gl_mem h3]; exact List.getElem_mem _)).2 x hx.1 hx.2
 have hc := h.com i x h3 hx.1 hx.2
 rw [gl_mem h2, gl_mem h3] at hc
 rw [gl_mem h3] at hr
 show gi _ (gi yss[i] (φ x)) = _
 rw [hc, hb _ hr.1 hr.2]
/-! a maniplex and its forms -/
variable {f : Int}
theorem form_ism (hM : Mani xss) (hN : N = (gl xss 0).length) (h0 : 0 ≤ f) (h1 : f < N) : Ism N xss (formL N xss f) (gi (backI N (orbit N xss f))) := by
 have hs := hM.2.2.1.sys
 have hP := hM.prm h0 (by rw [← hN]; exact h1)
 rw [← hN] at hs hP
 refine ⟨formL_len _ _ _, fun x hx hx' => ?_, fun x y hx hx' hy hy' e => ?_, fun i x hi hx hx' => ?_⟩
 ·obtain ⟨k, hk, _, e⟩ := hP.backR hx hx'
  omega
 ·obtain ⟨k, hk, e1, e2⟩ := hP.backR hx hx'
  obtain ⟨j, hj, e3, e4⟩ := hP.backR hy hy'
  have : (k : Int) = j := by omega
  rw [← e1, ← e3, this]
 obtain ⟨k, hk, e1, e2⟩ := hP.backR hx hx'
 rw [e2, gl_mem (by rw [formL_len]; exact hi)]
 simp only [formL, List.getElem_map]
 rw [gi_mem (by rw [rowF_len, hP.len]; exact hk)]
 simp only [rowF, List.getElem_map]
 rw [← gi_mem (by rw [hP.len]; exact hk), e1, gl_mem hi]
theorem form_pt (hM : Mani xss) (hN : N = (gl xss 0).length) (h0 : 0 ≤ f) (h1 : f < N) : gi (orbit N xss f) 0 = f ∧ gi (backI N (orbit N xss f)) f = 0 := by
 have hs := hM.2.2.1.sys
 have hP := hM.prm h0 (by rw [← hN]; exact h1)
 rw [← hN] at hs hP
 have e := gi_prefix (orbit_spec hs h0 h1).2.1 (i := 0) (by simp)
 have e : gi (orbit N xss f) 0 = f := e
 refine ⟨e, ?_⟩
 have := hP.back (k := 0) (by omega)
 have this : gi (backI N (orbit N xss f)) (gi (orbit N xss f) 0) = 0 := this
 rwa [e] at this
theorem form_orbit (hM : Mani xss) (hN : N = (gl xss 0).length) (h0 : 0 ≤ f) (h1 : f < N) : orbit N (formL N xss f) 0 = seqI N := by
 have hs := hM.2.2.1.sys
 have hP := hM.prm h0 (by rw [← hN]; exact h1)
 rw [← hN] at hs hP
 have h := orbit_map (form_ism hM hN h0 h1) hs h0 h1
 rw [(form_pt hM hN h0 h1).2] at h
 rw [h]
 apply List.ext_getElem
 ·rw [List.length_map, hP.len, seqI_len]
 intro i h2 h3
 rw [seqI_len] at h3
 rw [List.getElem_map, ← gi_mem (by rw [hP.len]; exact h3), hP.back h3]
 simp [seqI]
end
/-
 Plain mathematics: the tree of partial moves grows every maniplex that has the numbers of its own search, so the least form of a maniplex is in the list.
-/
section
variable {n F : Nat} {L : List (List Int)}
theorem Reach.con (hI : Shp n F L) (hs : Sys F L) (hF : 0 < F) {x : Int} (h : Reach L 0 x) : (0 ≤ x ∧ x < F) ∧ Con n L x := by
 induction h with
 | refl => exact ⟨⟨by omega, by omega⟩, .zero⟩
 | @step y p _ hp ih =>
  obtain ⟨i, hi, rfl⟩ := List.mem_iff_getElem.1 hp
  have hr := (hs _ hp).2 y ih.1.1 ih.1.2
  have e : gi L[i] y = cell L i y := by
   unfold cell
   rw [gl_mem hi]
  rw [e] at hr ⊢
  exact ⟨hr, .step ih.2 (by rw [← hI.1]; exact hi) ih.1.1 hr.1⟩
end
section
variable {N : Nat} {xss : List (List Int)} {f : Int}
theorem form_inv (hM : Mani xss) (hN : N = (gl xss 0).length) (h0 : 0 ≤ f) (h1 : f < N) : Inv xss.length N (formL N xss f) N (N * xss.length) ∧ Mani (formL N xss f) := by
 have hP := hM.prm h0 (by rw [← hN]; exact h1)
 have hs := hM.2.2.1.sys
 rw [← hN] at hP hs
 have hI := form_ism hM hN h0 h1
 have hN2 := hM.2.1
 have hn := hM.1
 have hN40 : 2 ≤ N ∧ N ≤ 400 := by omega
 have hshp : Shp xss.length N (formL N xss f) := ⟨formL_len _ _ _, fun p hp => by
  obtain ⟨mv, _, rfl⟩ := List.mem_map.1 hp
  rw [rowF_len, hP.len]⟩
 have hc : ∀ (i : Nat) (k : Nat), i < xss.length → k < N → cell (formL N xss f) i (k : Int) = gi (backI N (orbit N xss f)) (gi (gl xss i) (gi (orbit N xss f) k)) := fun i k hi hk => by
  have hr := hP.rng hk
  have := hI.com i _ hi hr.1 hr.2
  rw [hP.back hk] at this
  exact this
 have hin : ∀ (i : Nat) (x : Int), i < xss.length → 0 ≤ x → x < N → 0 ≤ gi (gl xss i) x ∧ gi (gl xss i) x < N := fun i x hi hx hx' => (hs (gl xss i) (by rw [gl_mem hi]; exact List.getElem_mem _)).2 x hx hx'
 have hfree : ∀ (i : Nat) (x : Int), i < xss.length → 0 ≤ x → x < N → gi (gl xss i) x ≠ x ∧ gi (gl xss i) (gi (gl xss i) x) = x := fun i x hi hx hx' => by
  have h := (hM.2.2.1.at_ hi)
  have := h.2.2 x.toNat (by omega)
  rw [Int.toNat_of_nonneg hx] at this
  exact this
 have hcell : ∀ (i : Nat) (k : Nat), i < xss.length → k < N → ∃ j : Nat, j < N ∧ cell (formL N xss f) i (k : Int) = j ∧ gi (orbit N xss f) j = gi (gl xss i) (gi (orbit N xss f) k) := fun i k hi hk => by
  have hr := hP.rng hk
  have hq := hin i _ hi hr.1 hr.2
  obtain ⟨j, hj, e1, e2⟩ := hP.backR hq.1 hq.2
  exact ⟨j, hj, by rw [hc i k hi hk, e2], e1⟩
 have hInv : Inv xss.length N (formL N xss f) N (N * xss.length) := by
  refine ⟨hshp, by omega, by omega, Nat.le_refl _, fun i x hi hx hx' => .inr ?_, fun a ha => ?_, fun x hx => ?_, Nat.le_refl _⟩
  ·obtain ⟨k, rfl⟩ : ∃ k : Nat, x = k := ⟨x.toNat, by omega⟩
   have hk : k < N := by omega
   obtain ⟨j, hj, e1, e2⟩ := hcell i k hi hk
   obtain ⟨l, hl, e3, e4⟩ := hcell i j hi hj
   have hr := hP.rng hk
   have hf := hfree i _ hi hr.1 hr.2
   rw [e2, hf.2] at e4
   have el := hP.inj hl hk e4
   rw [e1, e3, el]
   refine ⟨by omega, by omega, hx', O, fun e => ?_⟩
   have : j = k := by omega
   rw [this] at e2
   exact hf.1 e2.symm
  ·have ha2 : a / xss.length < N := Nat.div_lt_of_lt_mul (by rw [Nat.mul_comm]; exact ha)
   obtain ⟨j, hj, e1, _⟩ := hcell (a % xss.length) (a / xss.length) (Nat.mod_lt _ (by omega)) ha2
   rw [e1]
   omega
  have hsF : Sys N (formL N xss f) := fun p hp => by
   refine ⟨hshp.2 p hp, fun x hx hx' => ?_⟩
   obtain ⟨i, hi, rfl⟩ := List.mem_iff_getElem.1 hp
   rw [formL_len] at hi
   obtain ⟨k, rfl⟩ : ∃ k : Nat, x = k := ⟨x.toNat, by omega⟩
   obtain ⟨j, hj, e1, _⟩ := hcell i k hi (by omega)
   unfold cell at e1
   rw [gl_mem (by rw [formL_len]; exact hi)] at e1
   omega
  have ho := form_orbit hM hN h0 h1
  have := (orbit_spec hsF (pt := 0) (by omega) (by omega)).2.2 (x : Int)
  rw [ho] at this
  exact (Reach.con hshp hsF (by omega) (this.1 (seqI_mem.2 ⟨by omega, by omega⟩))).2
 refine ⟨hInv, hInv.mani hn.2 hN40 (fun e he i hi k hk hik => ?_)⟩
 rw [formL_len] at hi hk
 have hr := hP.rng he
 obtain ⟨j1, hj1, a1, b1⟩ := hcell i e hi he
 obtain ⟨j2, hj2, a2, b2⟩ := hcell k e hk he
 obtain ⟨j3, hj3, a3, b3⟩ := hcell k j1 hk hj1
 obtain ⟨j4, hj4, a4, b4⟩ := hcell i j2 hi hj2
 obtain ⟨q, hq⟩ : ∃ q : Nat, gi (orbit N xss f) e = q := ⟨(gi (orbit N xss f) e).toNat, by omega⟩
 have hcm := hM.2.2.2.1 i hi k hk hik q (by omega)
 unfold Comm at hcm
 rw [← hq] at hcm
 refine ⟨fun _ e1 => ?_, fun _ _ => ?_⟩
 ·rw [a1, a2] at e1
  have : j1 = j2 := by omega
  rw [this] at b1
  exact hcm.2 (by rw [← b1, ← b2])
 unfold kn
 rw [a1, a2, if_neg (by omega), if_neg (by omega), a3, a4]
 have : gi (orbit N xss f) (j3 : Int) = gi (orbit N xss f) (j4 : Int) := by rw [b3, b4, b1, b2]; exact hcm.1
 rw [hP.inj hj3 hj4 this]
theorem least_is (hM : Mani xss) (hN : N = (gl xss 0).length) : ∃ f : Nat, f < N ∧ leastL N xss = formL N xss f := leastTo_is (by have := hM.2.1; omega) N (Nat.le_refl _)
end
/-
 Plain mathematics: isomorphic maniplexes have the same least form.
-/
theorem least_ism {N : Nat} {xss yss : List (List Int)} {φ : Int → Int} (h : Ism N xss yss φ) (hs : ∀ y : Nat, y < N → ∃ x : Nat, x < N ∧ φ (x : Int) = (y : Int)) (hM : Mani xss) (hN : N = (gl xss 0).length) (hM' : Mani yss) (hN' : N = (gl yss 0).length) : leastL N yss = leastL N xss := by
 obtain ⟨a, ha, ea⟩ := least_is hM hN
 obtain ⟨b, hb, eb⟩ := least_is hM' hN'
 apply leM_anti
 ·intro hc
  rw [ea] at hc
  have hr := h.rng (a : Int) (by omega) (by omega)
  rw [← form_map h hM hN (pt := (a : Int)) (by omega) (by omega)] at hc
  obtain ⟨k, hk⟩ : ∃ k : Nat, φ (a : Int) = k := ⟨(φ (a : Int)).toNat, by omega⟩
  rw [hk] at hc hr
  exact (leastTo_le (N := N) (xss := yss) N).2 k (by omega) hc
 intro hc
 rw [eb] at hc
 obtain ⟨x, hx, e⟩ := hs b hb
 rw [← e, form_map h hM hN (pt := (x : Int)) (by omega) (by omega)] at hc
 exact (leastTo_le (N := N) (xss := xss) N).2 x hx hc
/-
 Plain mathematics: each flag of the face poset of a maniplex is that of a flag of the maniplex; where the flags are as many, both have the same least form.
-/
section
variable {M : List (List Int)}
theorem fpE_eq {i a b : Nat} : fpE M i a = fpE M i b ↔ gi (facesL M i) (a : Int) = gi (facesL M i) (b : Int) := by
 unfold fpE
 omega
theorem fpE_rk (hM : Mani M) {i a : Nat} (hi : i < M.length) (ha : a < (gl M 0).length) : (0 ≤ fpE M i a ∧ fpE M i a < (offP M M.length : Int)) ∧ gi (fpR M M.length) (fpE M i a) = i := by
 have h1 := fpE_in hM (i := i) ha
 have h2 := offP_mono M (show i + 1 ≤ M.length by omega)
 exact ⟨by omega, fpR_at hi h1.1 h1.2⟩
theorem fpE_hit (hM : Mani M) {e : Int} (h0 : 0 ≤ e) (h1 : e < (offP M M.length : Int)) : ∃ i a : Nat, i < M.length ∧ a < (gl M 0).length ∧ e = fpE M i a := by
 obtain ⟨i, hi, h2, h3⟩ := fpR_rk h0 h1
 have h4 : offP M (i + 1) = offP M i + (facesN M i).toNat := O
 have h5 := facesN_le M i
 obtain ⟨a, ha, e1⟩ := faces_hit hM i (e - offP M i) (by omega) (by omega)
 exact ⟨i, a, hi, ha, by unfold fpE; omega⟩
theorem flM_mem (hM : Mani M) {y : List Int} : y ∈ flM M ↔ ∃ a : Nat, a < (gl M 0).length ∧ y = flY M.length M a := by
  have hn := hM.1
  unfold flM
  rw [flgP_mem hn.1]
  constructor
  · rintro ⟨hl, hr, hc⟩
    have key : ∀ i : Nat, i < M.length → ∃ a : Nat, a < (gl M 0).length ∧ ∀ k : Nat, k ≤ i → gi y (k : Int) = fpE M k a := by
      intro i
      induction i with
      | zero =>
        intro hi
        have h1 := hr 0 hi
        rw [fpR_len] at h1
        obtain ⟨j, a, hj, ha, e⟩ := fpE_hit hM h1.1.1 h1.1.2
        have h2 := (fpE_rk hM hj ha).2
        rw [← e, h1.2] at h2
        obtain rfl : j = 0 := by omega
        exact ⟨a, ha, fun k hk => by obtain rfl : k = 0 := by omega
                                     exact e⟩
      | succ i ih =>
        intro hi
        obtain ⟨a, ha, hk⟩ := ih (by omega)
        have h1 := hr (i + 1) hi
        have h0 := hr i (by omega)
        rw [fpR_len] at h1 h0
        have hm := hc i hi
        rw [fpB_at h1.1.1 h1.1.2] at hm
        obtain ⟨_, f, hf, j, hj, l, hlj, e1, e2⟩ := hm
        have r1 := (fpE_rk hM hj hf).2
        have r2 := (fpE_rk hM (show l < M.length by omega) hf).2
        rw [← e1, h1.2] at r1
        rw [← e2, h0.2] at r2
        obtain rfl : j = i + 1 := by omega
        obtain rfl : l = i := by omega
        have e3 : gi (facesL M l) (a : Int) = gi (facesL M l) (f : Int) := fpE_eq.1 (by rw [← hk l (Nat.le_refl _), e2])
        obtain ⟨u, hu, hlo, hhi⟩ := split_face hM (j := l) (f := (a : Int)) (by omega) (by omega) (faces_same hM (by omega) (by omega) (by omega) (by omega) e3)
        obtain ⟨b, rfl⟩ : ∃ b : Nat, u = b := ⟨u.toNat, by omega⟩
        refine ⟨b, by omega, fun k hkl => ?_⟩
        by_cases hkl2 : k ≤ l
        · rw [hk k hkl2]
          exact fpE_eq.2 (hlo k hkl2).symm
        · obtain rfl : k = l + 1 := by omega
          rw [e1]
          exact fpE_eq.2 (hhi (l + 1) (by omega)).symm
    obtain ⟨a, ha, h⟩ := key (M.length - 1) (by omega)
    refine ⟨a, ha, list_gi (n := M.length) hl (by simp [flY]) fun i hi => ?_⟩
    rw [flY_at hi]
    exact h i (by omega)
  · rintro ⟨a, ha, rfl⟩
    refine ⟨by simp [flY], fun i hi => ?_, fun i hi => ?_⟩
    · rw [flY_at hi, fpR_len]
      exact fpE_rk hM hi ha
    · rw [flY_at (show i < M.length by omega), flY_at hi]
      have h1 := fpE_rk hM hi ha
      have h2 := fpE_rk hM (show i < M.length by omega) ha
      rw [fpB_at h1.1.1 h1.1.2]
      exact ⟨h2.1, a, ha, i + 1, hi, i, by omega, O, O⟩
theorem flY_inj (hM : Mani M) (hl : (flM M).length = (gl M 0).length) {a b : Nat} (ha : a < (gl M 0).length) (hb : b < (gl M 0).length) (e : flY M.length M a = flY M.length M b) : a = b := by
 refine Classical.byContradiction fun hne => ?_
 have hex : ∀ y : List Int, ∃ c : Nat, y ∈ flM M → c < (gl M 0).length ∧ c ≠ a ∧ y = flY M.length M c := fun y => by
  by_cases hy : y ∈ flM M
  ·obtain ⟨c, hc, ec⟩ := (flM_mem hM).1 hy
   by_cases h : c = a
   ·exact ⟨b, fun _ => ⟨hb, fun q => hne q.symm, by rw [ec, h, e]⟩⟩
   exact ⟨c, fun _ => ⟨hc, h, ec⟩⟩
  exact ⟨0, fun h => absurd h hy⟩
 obtain ⟨g, hg⟩ := Classical.axiomOfChoice hex
 have hg : ∀ y : List Int, y ∈ flM M → g y < (gl M 0).length ∧ g y ≠ a ∧ y = flY M.length M (g y) := hg
 have hnd : (flM M).Nodup := (flgP_SL _ _ _).nodup
 have hq : (a :: (flM M).map g).Nodup := by
  refine List.nodup_cons.2 ⟨fun hm => ?_, ?_⟩
  ·obtain ⟨y, hy, e1⟩ := List.mem_map.1 hm
   exact (hg y hy).2.1 e1
  exact List.pairwise_map.2 (hnd.imp_of_mem fun {x y} hx hy hxy q => hxy (by rw [(hg x hx).2.2, (hg y hy).2.2, q]))
 have := nodup_le (gl M 0).length _ hq fun x hx => by
  rcases List.mem_cons.1 hx with rfl | hx
  ·exact ha
  obtain ⟨y, hy, rfl⟩ := List.mem_map.1 hx
  exact (hg y hy).1
 rw [List.length_cons, List.length_map, hl] at this
 omega
theorem good_ply (hM : Mani M) (hG : GoodP M) : Ply M.length (fpR M M.length) (fpB M) :=
 ⟨posP_of hM hG.1, hG.2.2, by have := hM.1; omega, by
  have h1 := hG.2.1
  have h2 := hM.2.1
  unfold flM at h1
  omega⟩
theorem good_ism (hM : Mani M) (hG : GoodP M) : ∃ φ : Int → Int, Ism (gl M 0).length M (mnP M.length (flM M)) φ ∧ ∀ y : Nat, y < (gl M 0).length → ∃ x : Nat, x < (gl M 0).length ∧ φ (x : Int) = (y : Int) := by
 have hP := good_ply hM hG
 have hl : (flM M).length = (gl M 0).length := hG.2.1
 have hnb : NbP M.length (flM M) := hP.nb
 have hex : ∀ a : Nat, ∃ p : Nat, a < (gl M 0).length → p < (gl M 0).length ∧ gl (flM M) (p : Int) = flY M.length M a := fun a => by
  by_cases ha : a < (gl M 0).length
  ·obtain ⟨p, hp, e⟩ := List.mem_iff_getElem.1 ((flM_mem hM).2 ⟨a, ha, rfl⟩)
   exact ⟨p, fun _ => ⟨by omega, by rw [gl_mem hp]; exact e⟩⟩
  exact ⟨0, fun h => absurd h ha⟩
 obtain ⟨g, hg⟩ := Classical.axiomOfChoice hex
 have hg : ∀ a : Nat, a < (gl M 0).length → g a < (gl M 0).length ∧ gl (flM M) (g a : Int) = flY M.length M a := hg
 have ginj : ∀ a b : Nat, a < (gl M 0).length → b < (gl M 0).length → g a = g b → a = b := fun a b ha hb e => flY_inj hM hl ha hb (by rw [← (hg a ha).2, ← (hg b hb).2, e])
 refine ⟨fun x => (g x.toNat : Int), ⟨mn_len _ _, fun x h0 h1 => ?_, fun x y h0 h1 h2 h3 e => ?_, fun i x hi h0 h1 => ?_⟩, fun y hy => ?_⟩
 ·have := (hg x.toNat (by omega)).1
  omega
 ·have := ginj x.toNat y.toNat (by omega) (by omega) (by have e : (g x.toNat : Int) = (g y.toNat : Int) := e; omega)
  omega
 ·obtain ⟨a, rfl⟩ : ∃ a : Nat, x = a := ⟨x.toNat, by omega⟩
  have ha : a < (gl M 0).length := by omega
  have hr := hM.in_ hi h0 h1
  obtain ⟨b, hb⟩ : ∃ b : Nat, gi (gl M (i : Int)) (a : Int) = b := ⟨(gi (gl M (i : Int)) (a : Int)).toNat, by omega⟩
  have hfree : b ≠ a := by
   have := ((hM.2.2.1.at_ hi).2.2 a (by rw [(hM.2.2.1.at_ hi).1]; exact ha)).1
   intro e
   rw [hb] at this
   omega
  rw [hb] at hr
  have hbN : b < (gl M 0).length := by omega
  show gi (gl (mnP M.length (flM M)) (i : Int)) (g (a : Int).toNat : Int) = (g (gi (gl M (i : Int)) (a : Int)).toNat : Int)
  rw [hb, Int.toNat_natCast, Int.toNat_natCast]
  have hga := hg a ha
  have hgb := hg b hbN
  rw [mn_gi hnb hi (by rw [hl]; exact hga.1)]
  have : g b = ptP M.length (flM M) i (g a) := ((hnb.pt (by rw [hl]; exact hga.1) hi).2 (g b)).1 ⟨⟨by rw [hl]; exact hga.1, by rw [hl]; exact hgb.1, fun k hk hne => ?_⟩, fun e => hfree (ginj b a hbN ha e)⟩
  ·rw [this]
  rw [hga.2, hgb.2, flY_at hk, flY_at hk]
  refine fpE_eq.2 ?_
  rw [← hb]
  exact (faces_move hM hi (fun e => hne e.symm) h0 h1).symm
 have hm : gl (flM M) (y : Int) ∈ flM M := by rw [gl_mem (by omega)]; exact List.getElem_mem _
 obtain ⟨a, ha, e⟩ := (flM_mem hM).1 hm
 refine ⟨a, ha, ?_⟩
 have hga := hg a ha
 have : g a = y := flg_inj (n := M.length) (R := fpR M M.length) (B := fpB M) (by show _ < (flM M).length; omega) (by show _ < (flM M).length; omega) (by show gl (flM M) _ = gl (flM M) _; rw [hga.2, e])
 show (g (a : Int).toNat : Int) = _
 rw [Int.toNat_natCast, this]
theorem good_least (hM : Mani M) (hG : GoodP M) : leastL (gl M 0).length (mnP M.length (flM M)) = leastL (gl M 0).length M := by
 obtain ⟨φ, h, hs⟩ := good_ism hM hG
 have hP := good_ply hM hG
 have hl : (flM M).length = (gl M 0).length := hG.2.1
 have h1 : (gl (mnP M.length (flM M)) 0).length = (flM M).length := hP.nl
 exact least_ism h hs hM O hP.mani (by rw [← hl]; exact h1.symm)
end
end Go.Proofs.YtopgfgdgfjddpaaGreatDoor.Vc
/-
 The walks of the program's least form, and of the reference's numbers of orbits.
-/
namespace Go.Proofs.YtopgfgdgfjddpaaGreatDoor.Vc
open Go.RowKit
section
variable {P : Program} {N : Nat} {ops : Array Oper} {K : Env → World → Prop} {rest : List Oper} {e : Env} {w : World} {d : Nat} {ty : TypeId} {pos : String} {af : Array Edge}
end
theorem St.matAt {w0 w : World} {t1 t2 : TypeId} {A : Option Addr} {n c : Nat} {rs : List SlV} {xss : List (List Int)} {ks : List Ck} (h : St w0 w ks) (hsub : (mat t1 t2 A n c rs xss).Sublist ks) (hl : xss.length = n) : RowsI w A n rs xss := (h.sub hsub).rowsI1 hl
theorem leastForm_c (A : Option Addr) (n c : Nat) (rs : List SlV) (xss : List (List Int)) (N : Nat) (w : World) (hR : RowsI w A n rs xss) (hM : Mani xss) (hN : N = (gl xss 0).length) :
  Ret Tryz.prog 165 [.agg #[.slice A n c]] w (fun v w' => ∃ A' c' rs', v = .agg #[.slice A' n c'] ∧ rs'.length = n ∧ St w w' (mat 32 2 A' n c' rs' (leastL N xss))) := by
 have h5 := hM.1
 have h40 := hM.2.1
 have hxl := hR.len
 have hr0 : (gl xss 0).length = (rg rs 0).n := hR.rowLen (by omega) (by omega)
 have hll : ∀ k, (leastTo N xss k).length = n := fun k => by
  induction k with
  | zero => rw [leastTo, formL_len, hxl]
  | succ k ih =>
   rw [leastTo]
   split
   ·rw [formL_len, hxl]
   ·exact ih
 have hfl : ∀ f : Int, (formL N xss f).length = n := fun f => by rw [formL_len, hxl]
 refine Ret.of_cd Tryz.func165 O Tryz.ntmps165 O (postc O O) (Gbo O (Ops.box1 (St.refl w) O O ?_))
 intro Ab w1 hS1
 refine Ops.new1 hS1 O ?_
 intro Ac w2 hS2
 refine Gdo O (Ops.fld (hS2.rd 1 O) O O O O inferInstance (Ops.ldf_s (hS2.rd 1 O) O O O O O (Ops.call (formFrom_c A n c rs xss N 0 _ (hS2.oldRows hR) hM hN (by omega) (by omega)) O O O ?_)))
 rintro _ w3 ⟨A4, c4, rs4, rfl, hl4, hst⟩
 have hS3 := (hS2.call hst).perm List.perm_append_comm
 refine Ops.new1 hS3 O ?_
 intro Ad w4 hS4
 refine Ops.st_agg 1 0 hS4 O O O O O O O ?_
 intro w5 hS5
 have hS5 : St w w5 (Bx 24 1 Ad [.slice A4 n c4] :: Bx 24 1 Ac [.slice none 0 0] :: Bx 24 1 Ab [.slice A n c] :: mat 32 2 A4 n c4 rs4 (leastTo N xss 0)) := hS5
 refine Gdo O (Ops.call (flags_c Ab A n c rs xss _ _ (hS5.rd 2 O) O (hS5.oldRows hR) (by omega)) O O O ?_)
 rintro _ w5 ⟨rfl, rfl⟩
 refine Gdc O ?_
 refine Cd.loop (α := Nat × Option Addr × Nat × List SlV) (fun s => [(1, .pointer Ab), (2, .pointer Ac), (3, .pointer Ad), (9, .int .i64 (N : Int)), (10, .int .i64 (s.1 : Int))]) (fun s w' => St w w' (Bx 24 1 Ad [.slice s.2.1 n s.2.2.1] :: Bx 24 1 Ac [.slice none 0 0] :: Bx 24 1 Ab [.slice A n c] :: mat 32 2 s.2.1 n s.2.2.1 s.2.2.2 (leastTo N xss s.1)) ∧ s.1 ≤ N ∧ s.2.2.2.length = n) (fun s => N - s.1) (0, A4, c4, rs4) ⟨O, O, O, by rw [hN, hr0]; rfl, O, trivial⟩ ⟨hS5, Nat.zero_le _, hl4⟩ ?_
 rintro ⟨k, A6, c6, rs6⟩ e w6 ⟨hS6, hk, hl6⟩
 dsimp only at hS6 hk hl6 ⊢
 refine Gbc O ?_
 refine Cd.cond_p _ O (fun h1 => ?_) (fun h1 => ?_)
 ·refine Gao O (Ops.fld (hS6.rd 2 O) O O O O inferInstance (Ops.ldf_s (hS6.rd 2 O) O O O O O (Gdo O (Ops.call (formFrom_c A n c rs xss N (k : Int) _ (hS6.oldRows hR) hM hN (by omega) (by omega)) O O O ?_))))
  rintro _ w7 ⟨A7, c7, rs7, rfl, hl7, hst7⟩
  have hS7 := (hS6.call hst7).perm List.perm_append_comm
  refine Ops.new1 hS7 O ?_
  intro A8 w8 hS8
  refine Ops.st_agg 1 0 hS8 O O O O O O O ?_
  intro w9 hS9
  have hS9 : St w w9 (Bx 24 1 A8 [.slice A7 n c7] :: Bx 24 1 Ad [.slice A6 n c6] :: Bx 24 1 Ac [.slice none 0 0] :: Bx 24 1 Ab [.slice A n c] :: (mat 32 2 A6 n c6 rs6 (leastTo N xss k) ++ mat 32 2 A7 n c7 rs7 (formL N xss k))) := hS9
  have hr6 : RowsI w9 A6 n rs6 (leastTo N xss k) := hS9.matAt ((List.sublist_append_left _ _).trans (List.sublist_append_right [_, _, _, _] _)) (hll k)
  have hr7 : RowsI w9 A7 n rs7 (formL N xss k) := hS9.matAt (((((List.sublist_append_right _ _).cons _).cons _).cons _).cons _) (hfl k)
  refine Gdo O (Ops.ld_agg 0 (hS9.rd 0 O) O O O (Ops.ld_agg 0 (hS9.rd 1 O) O O O (Ops.call (compareManiplexes_c A7 n c7 rs7 _ A6 n c6 rs6 _ _ hr7 hr6 (by omega)) O O O ?_)))
  rintro _ w10 ⟨rfl, hst10⟩
  have hS10 := hS9.later hst10.below
  refine Gdc O ?_
  refine Cd.cond_p _ O (fun h2 => ?_) (fun h2 => ?_)
  ·have hle : leastTo N xss (k + 1) = formL N xss k := by rw [leastTo, if_pos h2]
   refine Gao O (Ops.ld_agg 0 (hS10.rd 0 O) O O O (Ops.st_agg 1 1 hS10 O O O O O O O ?_))
   intro w11 hS11
   refine Gdo O (Ops.add O O O (by omega) (Gdn O (tQ ?_)))
   refine ⟨(k + 1, A7, c7, rs7), by show N - (k + 1) < N - k; omega, ⟨O, O, O, O, O, trivial⟩, ?_, by show k + 1 ≤ N; omega, hl7⟩
   show St w w11 (Bx _ 1 Ad [.slice A7 n c7] :: _ :: _ :: mat _ _ A7 n c7 rs7 (leastTo N xss (k + 1)))
   rw [hle]
   exact hS11.sub (((List.Sublist.cons_cons _ (List.Sublist.cons_cons _ (List.Sublist.cons_cons _ (List.sublist_append_right _ _)))).cons _))
  ·have hle : leastTo N xss (k + 1) = leastTo N xss k := by rw [leastTo, if_neg h2]
   refine Gao O (Ops.add O O O (by omega) (Gdn O (tQ ?_)))
   refine ⟨(k + 1, A6, c6, rs6), by show N - (k + 1) < N - k; omega, ⟨O, O, O, O, O, trivial⟩, ?_, by show k + 1 ≤ N; omega, hl6⟩
   show St w w10 (Bx _ 1 Ad [.slice A6 n c6] :: _ :: _ :: mat _ _ A6 n c6 rs6 (leastTo N xss (k + 1)))
   rw [hle]
   exact hS10.sub (((List.Sublist.cons_cons _ (List.Sublist.cons_cons _ (List.Sublist.cons_cons _ (List.sublist_append_left _ _)))).cons _))
 ·have hkN : k = N := by omega
  rw [hkN] at hS6
  refine Gax O (thenQ_x (Gfo O ?_))
  refine Ops.ld_agg 0 (hS6.rd 0 O) O O O (Ops.st_agg 1 1 hS6 O O O O O O O ?_)
  intro w7 hS7
  refine Gdr O (retc_r O (hS7.rd 1 O) ?_)
  exact ⟨A6, c6, rs6, O, hl6, hS7.sub (((List.sublist_cons_self _ _).trans (List.sublist_cons_self _ _)).trans (List.sublist_cons_self _ _))⟩
/-! the numbers of orbits -/
/-
 The program's LeastForm.
-/
theorem leastTo_len (N : Nat) (xss : List (List Int)) : ∀ k, (leastTo N xss k).length = xss.length
 | 0 => by rw [leastTo, formL_len]
 | k + 1 => by
  rw [leastTo]
  split
  ·rw [formL_len]
  ·exact leastTo_len N xss k
theorem leastL_len (N : Nat) (xss : List (List Int)) : (leastL N xss).length = xss.length := leastTo_len N xss N
theorem LeastForm_c (A : Option Addr) (n c : Nat) (rs : List SlV) (xss : List (List Int)) (w : World) (hR : RowsI w A n rs xss) (hM : Mani xss) (hnc : n ≤ c) (hc : c ≤ 9223372036854775807) :
  Ret Tryz.prog 100 [.agg #[.slice A n c]] w (AnsX (leastL (gl xss 0).length xss) 0 w) := by
 have hxl := hR.len
 refine Ret.of_cd Tryz.func100 O Tryz.ntmps100 O (postc2 O O) (Gbo O (Ops.box1 (St.refl w) O O ?_))
 intro Ab w1 hS1
 refine Ops.new1 hS1 O ?_
 intro Ac w2 hS2
 refine Gdo O (Ops.ld_agg 0 (hS2.rd 1 O) O O O (Ops.call (isManiplex_c A n c rs xss _ (hS2.oldRows hR) hnc hc) O O O ?_))
 rintro _ w3 ⟨rfl, hst⟩
 have hS3 := hS2.later hst.below
 first | refine Ops.not_p rfl rfl ?_ | refine Ops.not rfl rfl ?_
 refine Gdc O ?_
 refine Cd.cond_pf O (fun h => h hM) ?_
 refine Gao O (Ops.ld_agg 0 (hS3.rd 1 O) O O O (Ops.call (leastForm_c A n c rs xss (gl xss 0).length _ (hS3.oldRows hR) hM O) O O O ?_))
 rintro _ w4 ⟨A', c', rs', rfl, hrl, hst4⟩
 have hS4 : St w w4 ([Bx 24 1 Ac [.slice none 0 0], Bx 24 1 Ab [.slice A n c]] ++ mat 32 2 A' n c' rs' (leastL (gl xss 0).length xss)) := (hS3.call hst4).perm List.perm_append_comm
 refine Ops.st_agg 1 0 hS4 O O O O O O O ?_
 intro w5 hS5
 refine Gdr O (retc2_r O (hS5.rd 0 O) O ?_)
 have hll : (leastL (gl xss 0).length xss).length = n := by rw [leastL_len, hxl]
 exact ⟨A', c', rs', by rw [hll]; rfl, by rw [hrl, hll], by rw [hll]; exact (hS5.sub ((List.Sublist.refl _).cons _)).sub ((List.Sublist.refl _).cons _)⟩
/-
 The start of a source of draws, whatever the world before.
-/
theorem l01FromG_c (Ac : Option Addr) (nc cc : Nat) (bs : List Int) (w : World) (hY : RdY w Ac nc bs) (hnc : nc ≤ 1000000) :
  Ret Tryz.prog 80 [.slice Ac nc cc] w (fun v w' => ∃ (As : Option Addr) (k : Ck), v = .pointer As ∧ (∀ w0, RdY w0 Ac nc bs → srcK w0 As k) ∧ St w w' [k]) := by
 refine Ret.of_cd Tryz.func80 O Tryz.ntmps80 O (post1 O) ?_
 refine Gbo O (Ops.len O O ?_)
 refine Ops.convK O O (wrap_u64_in _ (by omega)) ?_
 refine Ops.addW O O O fun r1 _ => ?_
 refine Ops.bld02 (by exact inferInstance) (by exact inferInstance) (by exact inferInstance) O O O O O O O O (Ops.box3' (St.refl w) O O ?_)
 intro As w2 hS
 refine Gdc O ?_
 refine Cd.loop (α := Nat × Int) (fun s => [(0, .slice Ac nc cc), (3, .pointer As), (4, .int .i64 (s.1 : Int))]) (fun s w' => St w w' [Bx 118 3 As [.slice Ac nc cc, .int .i64 0, .int .u64 s.2]] ∧ s.1 ≤ nc) (fun s => nc - s.1) (0, _) ⟨O, O, O, trivial⟩ ⟨hS, Nat.zero_le _⟩ ?_
 rintro ⟨i, h⟩ e w3 ⟨hS1, hi⟩
 dsimp only at hS1 hi ⊢
 refine Gbo O (Ops.len O O (Gdo O ?_))
 refine Ops.split_p 16 O (fun h1 => ?_) (fun h1 => ?_)
 ·skip
  refine Ops.g O O O (Gdo O (Ops.g O O O (Gdc O ?_)))
  refine Cd.cond_p _ O (fun h2 => ?_) (fun h2 => ?_)
  ·skip
   have h255 := hY.at_ (j := (i : Int)) (by omega) (by omega)
   have hY1 := hY.below hS1.below
   refine Gac O ?_
   refine Cd.drawP [15] [yP (As), yP (As), yP (As), yP (ptrAt (As) 2), .ex (.int .u64 h), .pr (fun v _ => ∃ r : Int, v = .int .u64 r), yS (Ac) (nc) (cc), yI ((i : Int)), yP (ptrAt Ac (i : Int).toNat), .ex (.int .u8 (bs.getD (i : Int).toNat 0)), .ex (.int .u64 (bs.getD (i : Int).toNat 0)), .pr (fun v _ => ∃ r : Int, v = .int .u64 r), .pr (fun v _ => ∃ r : Int, v = .int .u64 r), yP (As), yP (ptrAt (As) 2), .pr (fun _ w' => ∃ r : Int, St w w' [Bx 118 3 As [.slice Ac nc cc, .int .i64 0, .int .u64 r]])] (by kernel_rfl) (by kernel_rfl) (ly (ly (ly (ly (ly (List.forall_mem_cons.2 ⟨Ye.lasts_pr (fun _ _ _ h _ => h), (ly (ly (ly (ly (ly (List.forall_mem_cons.2 ⟨Ye.lasts_pr (fun _ _ _ h _ => h), (List.forall_mem_cons.2 ⟨Ye.lasts_pr (fun _ _ _ h _ => h), (ly (ly (List.forall_mem_cons.2 ⟨Ye.lasts_pr (fun v w w' h hb => by obtain ⟨r, h⟩ := h; exact ⟨r, h.later hb⟩), (fun _ h => by cases h)⟩)))⟩)⟩))))))⟩)))))) ?_ ?_
   ·refine ⟨DrP O, DrP O, cP fun _ _ hb _ _ _ => Ops.nilp ((hS1.rd 0 O).below hb) (Nat.succ_pos _) O O (AzP O O), cP fun _ _ hb _ _ _ => Ops.fld ((hS1.rd 0 O).below hb) O O O O inferInstance (AzP O O), ?_, ?_, DrP O, DrP O, ?_, ?_, ?_, ?_, ?_, cP fun _ _ hb _ _ _ => Ops.nilp ((hS1.rd 0 O).below hb) (Nat.succ_pos _) O O (AzP O O), cP fun _ _ hb _ _ _ => Ops.fld ((hS1.rd 0 O).below hb) O O O O inferInstance (AzP O O), ?_, trivial⟩
    ·refine cP fun e1 w1 hb hp hun hq => ?_
     refine Ops.ldf_i (k := .u64) ((hS1.rd 0 O).below hb) O O O O O (Ops.n (p0_ O (by exact O)))
    ·intro e1 w1 cc hlo hhi hb0 hp hun hq; show Ops _ _ _ _ _ _ _
     refine Ops.mulW O O O fun r _ => ?_
     refine Ops.n ?_
     exact AfterP.dn O (Below.refl _ _) ⟨r, O⟩
    ·refine cP fun e1 w1 hb hp hun hq => ?_
     refine Ops.idx (hY1.below hb).2.2 O O O (by omega) (by omega) (Ops.n (p0_ O (by exact O)))
    ·refine cP fun e1 w1 hb hp hun hq => ?_
     refine Ops.ld_byte (hY1.below hb) O (by omega) O O (Ops.n (p0_ O (by exact O)))
    ·intro e1 w1 cc hlo hhi hb0 hp hun hq; show Ops _ _ _ _ _ _ _
     refine Ops.convK O O (wrap_u64_in _ (by omega)) (Ops.n (p0_ O (by exact O)))
    ·refine cP fun e1 w1 hb hp hun hq => ?_
     obtain ⟨r, hr⟩ := (hp 5 _ _ (by kernel_rfl) rfl rfl (by kernel_rfl))
     refine Ops.addW (by exact hr) O O fun r _ => ?_
     refine Ops.n ?_
     exact AfterP.dn O (Below.refl _ _) ⟨r, O⟩
    ·refine cP fun e1 w1 hb hp hun hq => ?_
     obtain ⟨r, hr⟩ := (hp 11 _ _ (by kernel_rfl) rfl rfl (by kernel_rfl))
     refine Ops.addW (by exact hr) O O fun r _ => ?_
     refine Ops.n ?_
     exact AfterP.dn O (Below.refl _ _) ⟨r, O⟩
    refine cPT fun e1 w1 hb hp hun hq => ?_
    obtain ⟨r, hr⟩ := (hp 12 _ _ (by kernel_rfl) rfl rfl (by kernel_rfl))
    refine Ops.stf 0 (hS1.later hb) O O (by exact hr) O O ?_
    intro w9 hT
    refine Ops.n ?_
    exact AfterU.st O ⟨r, hT⟩
   intro u w5 _ hu _ _
   obtain ⟨r, hT⟩ := hu 15 _ rfl (by kernel_rfl)
   refine Geo O (Ops.add O O O (by omega) (Gdn O (tQ ?_)))
   exact ⟨(i + 1, r), by show nc - (i + 1) < nc - i; omega, ⟨O, O, O, trivial⟩, hT, by show i + 1 ≤ nc; omega⟩
  refine Gax O (thenQ_x (Gfr O ?_))
  refine ret1_v O ?_
  exact ⟨As, _, O, fun w0 h0 => ⟨Ac, nc, cc, 0, h, bs, O, ⟨Int.le_refl _, by omega⟩, hnc, h0⟩, hS1⟩
 skip
 refine Ops.k O O O O O (Ops.k O O O O O (Gdc O ?_))
 refine Cd.cond_f O ?_
 refine Gax O (thenQ_x (Gfr O ?_))
 refine ret1_v O ?_
 exact ⟨As, _, O, fun w0 h0 => ⟨Ac, nc, cc, 0, h, bs, O, ⟨Int.le_refl _, by omega⟩, hnc, h0⟩, hS1⟩
end Go.Proofs.YtopgfgdgfjddpaaGreatDoor.Vc
