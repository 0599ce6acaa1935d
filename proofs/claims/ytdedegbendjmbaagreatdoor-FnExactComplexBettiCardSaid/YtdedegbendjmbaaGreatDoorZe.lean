/-
  The texts D2, Co1, Co2, Co6, D1, Rpl, C8, D3, Co8 in one. Conditions: as each part states them.
-/
import Derived.Test.YtdedegbendjmbaaGreatDoorLayb
import Derived.Test.YtdedegbendjmbaaGreatDoorZc
import Derived.Shelf.SlicesE.Compact
import Derived.Shelf.SlicesE.Delete
import Derived.Test.YtdedegbendjmbaaGreatDoorZd
import Derived.Test.YtdedegbendjmbaaGreatDoorZb
/-
  The library's Compact of an ascending list of one's own, and its Delete in a list of lists of one's own; sets as ascending lists. Conditions: as each states them.
-/
namespace Go.Proofs.YtdedegbendjmbaaGreatDoor.Vc
open Go.RowKit Go.Sort

/-! what the library leaves in a row of one's own -/
/-! ascending lists without twins -/
def SA (l : List Int) : Prop := l.Pairwise (· < ·)
theorem SA.asc {l : List Int} (h : SA l) : Asc l := h.imp fun h => by omega
theorem SA.nodup {l : List Int} (h : SA l) : l.Nodup := h.imp fun h => by omega
theorem SA.eq {l l' : List Int} (h : SA l) (h' : SA l') (hm : ∀ x, x ∈ l ↔ x ∈ l') : l = l' := asc_unique ((List.perm_ext_iff_of_nodup h.nodup h'.nodup).2 hm) h.asc h'.asc

def cmpL (xs : List Int) : List Int := Lib.compactUpTo xs.toArray xs.toArray.size
/-- the elements of a list as an ascending list without twins -/
def cs (l : List Int) : List Int := cmpL (srt l)
instance : Inhabited SlV := ⟨slNil⟩
end Go.Proofs.YtdedegbendjmbaaGreatDoor.Vc
/-
  Plain mathematics of complexes: parts of lists, greatest lists, and that there is one order of them. Conditions: as each states them. No program in sight.
-/
namespace Go.Proofs.YtdedegbendjmbaaGreatDoor.Vc

/-! the order of lists -/
def LT (a b : List Int) : Prop := lexC a b < 0
instance (a b : List Int) : Decidable (LT a b) := by unfold LT; infer_instance
theorem LT.ne {a b : List Int} (h : LT a b) : a ≠ b := fun e => by
  unfold LT at h
  rw [lexC_zero.2 e] at h
  omega
theorem LT.tri {a b : List Int} (h : ¬ LT a b) (h' : a ≠ b) : LT b a := by
  unfold LT at h ⊢
  have h1 := lexC_swap a b
  have h2 : lexC a b ≠ 0 := fun e => h' (lexC_zero.1 e)
  omega
theorem LT.asymm {a b : List Int} (h : LT a b) : ¬ LT b a := fun h' => by
  unfold LT at h h'
  have h1 := lexC_swap a b
  omega
theorem LT.irrefl (a : List Int) : ¬ LT a a := fun h => h.ne rfl
theorem LT.trans {a b c : List Int} (h : LT a b) (h' : LT b c) : LT a c := lexC_trans h h'
theorem LT.ntrans {a b c : List Int} (h : ¬ LT a b) (h' : ¬ LT b c) : ¬ LT a c := fun hac => by
  by_cases e : a = b
  · subst e; exact h' hac
  · exact h' ((LT.tri h e).trans hac)
/-- ascending lists of lists -/
def SL (l : List (List Int)) : Prop := l.Pairwise LT
theorem SL.nodup {l : List (List Int)} (h : SL l) : l.Nodup := h.imp fun h => h.ne
theorem SL.eq : ∀ {l l' : List (List Int)}, SL l → SL l' → (∀ x, x ∈ l ↔ x ∈ l') → l = l'
  | [], [], _, _, _ => rfl
  | [], b :: r, _, _, h => absurd ((h b).2 (by simp)) (by simp)
  | a :: l, [], _, _, h => absurd ((h a).1 (by simp)) (by simp)
  | a :: l, b :: r, hl, hr, h => by
    obtain ⟨hl1, hl2⟩ := List.pairwise_cons.1 hl
    obtain ⟨hr1, hr2⟩ := List.pairwise_cons.1 hr
    have e : a = b := by
      have h1 : a ∈ b :: r := (h a).1 (by simp)
      have h2 : b ∈ a :: l := (h b).2 (by simp)
      rcases List.mem_cons.1 h1 with e | h1
      · exact e
      · rcases List.mem_cons.1 h2 with e | h2
        · exact e.symm
        · exact absurd (hl1 b h2) (hr1 a h1).asymm
    subst e
    rw [SL.eq hl2 hr2 fun x => ?_]
    have hx := h x
    constructor
    · intro hm
      rcases List.mem_cons.1 (hx.1 (by simp [hm])) with e | h'
      · subst e; exact absurd (hl1 x hm) (LT.irrefl x)
      · exact h'
    · intro hm
      rcases List.mem_cons.1 (hx.2 (by simp [hm])) with e | h'
      · subst e; exact absurd (hr1 x hm) (LT.irrefl x)
      · exact h'
/-- a row in which no one is less than one before, without twins -/
theorem SL.of_sorted {l : List (List Int)} (h : l.Pairwise fun a b => ¬ LT b a) (hn : l.Nodup) : SL l := by
  refine (h.and hn).imp fun {a b} ⟨h1, h2⟩ => LT.tri h1 (Ne.symm h2)

/-! parts -/
def Ins (a b : List Int) : Prop := ∀ x ∈ a, x ∈ b
instance (a b : List Int) : Decidable (Ins a b) := by unfold Ins; infer_instance
theorem Ins.refl (a : List Int) : Ins a a := fun _ h => h
theorem Ins.trans {a b c : List Int} (h : Ins a b) (h' : Ins b c) : Ins a c := fun x hx => h' x (h x hx)
theorem Ins.sub : ∀ {b a : List Int}, SA a → SA b → Ins a b → a.Sublist b
  | _, [], _, _, _ => List.nil_sublist _
  | [], x :: s, _, _, h => absurd (h x (by simp)) (by simp)
  | y :: r, x :: s, ha, hb, h => by
    obtain ⟨ha1, ha2⟩ := List.pairwise_cons.1 ha
    obtain ⟨hb1, hb2⟩ := List.pairwise_cons.1 hb
    rcases List.mem_cons.1 (h x (by simp)) with e | hx
    · subst e
      refine List.Sublist.cons_cons _ (Ins.sub ha2 hb2 fun z hz => ?_)
      rcases List.mem_cons.1 (h z (by simp [hz])) with e | hz'
      · subst e; have := ha1 z hz; omega
      · exact hz'
    · refine List.Sublist.cons _ (Ins.sub ha hb2 fun z hz => ?_)
      have hyx := hb1 x hx
      rcases List.mem_cons.1 (h z hz) with e | hz'
      · subst e
        rcases List.mem_cons.1 hz with e | hz
        · omega
        · have := ha1 z hz; omega
      · exact hz'
theorem Ins.of_sub {a b : List Int} (h : a.Sublist b) : Ins a b := fun _ hx => h.subset hx
theorem Ins.anti {a b : List Int} (ha : SA a) (hb : SA b) (h : Ins a b) (h' : Ins b a) : a = b := ha.eq hb fun x => ⟨h x, h' x⟩
theorem Ins.same {a b : List Int} (ha : SA a) (hb : SA b) (h : Ins a b) (hl : b.length ≤ a.length) : a = b := (Ins.sub ha hb h).eq_of_length_le hl

/-- all parts with so many elements -/
def ptsP : List Int → Nat → List (List Int)
  | _, 0 => [[]]
  | [], _ + 1 => []
  | x :: r, k + 1 => (ptsP r k).map (x :: ·) ++ ptsP r (k + 1)
theorem ptsP_mem : ∀ {l : List Int} {k : Nat} {p : List Int}, p ∈ ptsP l k ↔ p.Sublist l ∧ p.length = k
  | l, 0, p => by
    simp only [ptsP, List.mem_singleton]
    constructor
    · rintro rfl; exact ⟨List.nil_sublist _, rfl⟩
    · exact fun h => List.eq_nil_of_length_eq_zero h.2
  | [], k + 1, p => by
    simp only [ptsP, List.not_mem_nil, List.sublist_nil, false_iff, not_and]
    rintro rfl
    simp
  | x :: r, k + 1, p => by
    simp only [ptsP, List.mem_append, List.mem_map, ptsP_mem]
    constructor
    · rintro (⟨q, ⟨h1, h2⟩, rfl⟩ | ⟨h1, h2⟩)
      · exact ⟨List.Sublist.cons_cons _ h1, by simp [h2]⟩
      · exact ⟨List.Sublist.cons _ h1, h2⟩
    · rintro ⟨h1, h2⟩
      rcases List.sublist_cons_iff.1 h1 with h3 | ⟨q, rfl, h3⟩
      · exact .inr ⟨h3, h2⟩
      · exact .inl ⟨q, ⟨h3, by simpa using h2⟩, rfl⟩
theorem ptsP_short {l : List Int} {k : Nat} (h : l.length < k) : ptsP l k = [] := by
  rw [List.eq_nil_iff_forall_not_mem]
  intro p hp
  obtain ⟨h1, h2⟩ := ptsP_mem.1 hp
  have := h1.length_le
  omega
theorem ptsP_step {l : List Int} {k i : Nat} (h : i < l.length) : ptsP (l.drop i) (k + 1) = (ptsP (l.drop (i + 1)) k).map (gi l (i : Int) :: ·) ++ ptsP (l.drop (i + 1)) (k + 1) := by
  rw [List.drop_eq_getElem_cons h, ptsP, gi_mem h]
theorem LT.cons_iff {x y : Int} {a b : List Int} : LT (x :: a) (y :: b) ↔ x < y ∨ x = y ∧ LT a b := by
  unfold LT
  rw [lexC]
  by_cases e : x = y
  · subst e
    rw [if_pos (cmpI_zero.2 rfl)]
    constructor
    · exact fun h => .inr ⟨rfl, h⟩
    · rintro (h | h)
      · omega
      · exact h.2
  · rw [if_neg (fun h => e (cmpI_zero.1 h)), cmpI_neg]
    constructor
    · exact fun h => .inl h
    · rintro (h | h)
      · exact h
      · exact absurd h.1 e
theorem ptsP_SL : ∀ {l : List Int} {k : Nat}, SA l → SL (ptsP l k)
  | l, 0, _ => by simp [ptsP, SL]
  | [], k + 1, _ => by simp [ptsP, SL]
  | x :: r, k + 1, h => by
    obtain ⟨h1, h2⟩ := List.pairwise_cons.1 h
    unfold SL
    rw [ptsP, List.pairwise_append]
    refine ⟨?_, ptsP_SL h2, ?_⟩
    · rw [List.pairwise_map]
      exact (ptsP_SL (k := k) h2).imp fun {a b} hab => LT.cons_iff.2 (.inr ⟨rfl, hab⟩)
    · intro a ha b hb
      obtain ⟨q, _, rfl⟩ := List.mem_map.1 ha
      obtain ⟨h3, h4⟩ := ptsP_mem.1 hb
      match b, h3, h4 with
      | y :: b, h3, _ => exact LT.cons_iff.2 (.inl (h1 y (h3.subset (by simp))))
/-- all parts -/
def allP (z : List Int) : List (List Int) := (List.range (z.length + 1)).flatMap (ptsP z)
theorem allP_mem {z p : List Int} : p ∈ allP z ↔ p.Sublist z := by
  simp only [allP, List.mem_flatMap, List.mem_range, ptsP_mem]
  constructor
  · rintro ⟨_, _, h, _⟩; exact h
  · exact fun h => ⟨p.length, by have := h.length_le; omega, h, rfl⟩

/-! greatest lists -/
/-- a list that is no part of another one -/
def MaxIn (ls : List (List Int)) (x : List Int) : Prop := x ∈ ls ∧ x ≠ [] ∧ ∀ y ∈ ls, Ins x y → y = x
instance (ls : List (List Int)) (x : List Int) : Decidable (MaxIn ls x) := by unfold MaxIn; infer_instance
/-- these are the greatest lists, in order -/
def FacOf (ls F : List (List Int)) : Prop := SL F ∧ ∀ x, x ∈ F ↔ MaxIn ls x
theorem FacOf.eq {ls F G : List (List Int)} (h : FacOf ls F) (h' : FacOf ls G) : F = G := h.1.eq h'.1 fun x => (h.2 x).trans (h'.2 x).symm

/-- the search for the greatest ones, among lists of which no one is longer than one before -/
def grtS (out : List (List Int)) (l : List Int) : List (List Int) := if l = [] ∨ l ∈ out.flatMap allP then out else out ++ [l]
def grtP (ls : List (List Int)) : List (List Int) := ls.foldl grtS []
theorem grtP_snoc (ls : List (List Int)) (l : List Int) : grtP (ls ++ [l]) = grtS (grtP ls) l := by simp [grtP, List.foldl_append]
theorem grtS_in {out : List (List Int)} {l : List Int} (ho : ∀ z ∈ out, SA z) (hl : SA l) : l ∈ out.flatMap allP ↔ ∃ z ∈ out, Ins l z := by
  simp only [List.mem_flatMap, allP_mem]
  exact ⟨fun ⟨z, h1, h2⟩ => ⟨z, h1, .of_sub h2⟩, fun ⟨z, h1, h2⟩ => ⟨z, h1, h2.sub hl (ho z h1)⟩⟩
structure GrtI (ls out : List (List Int)) : Prop where
  mem : ∀ z ∈ out, z ∈ ls ∧ z ≠ []
  all : ∀ l ∈ ls, l ≠ [] → ∃ z ∈ out, Ins l z
  anti : out.Pairwise fun a b => ¬ Ins b a
theorem grtP_inv : ∀ (r : List (List Int)), (∀ l ∈ r, SA l) → GrtI r.reverse (grtP r.reverse)
  | [], _ => ⟨by simp [grtP], by simp, by simp [grtP]⟩
  | l :: r, h => by
    have ih := grtP_inv r fun z hz => h z (by simp [hz])
    have hl := h l (by simp)
    have ho : ∀ z ∈ grtP r.reverse, SA z := fun z hz => h z (by have := (ih.mem z hz).1; simp at this; simp [this])
    rw [List.reverse_cons, grtP_snoc]
    unfold grtS
    split
    · rename_i hc
      refine ⟨fun z hz => ⟨by simp [(ih.mem z hz).1] , (ih.mem z hz).2⟩, fun x hx hne => ?_, ih.anti⟩
      rcases List.mem_append.1 hx with hx | hx
      · exact ih.all x hx hne
      · obtain rfl : x = l := by simpa using hx
        rcases hc with hc | hc
        · exact absurd hc hne
        · exact (grtS_in ho hl).1 hc
    · rename_i hc
      refine ⟨fun z hz => ?_, fun x hx hne => ?_, ?_⟩
      · rcases List.mem_append.1 hz with hz | hz
        · exact ⟨by simp [(ih.mem z hz).1], (ih.mem z hz).2⟩
        · obtain rfl : z = l := by simpa using hz
          exact ⟨by simp, fun e => hc (.inl e)⟩
      · rcases List.mem_append.1 hx with hx | hx
        · obtain ⟨z, h1, h2⟩ := ih.all x hx hne
          exact ⟨z, by simp [h1], h2⟩
        · obtain rfl : x = l := by simpa using hx
          exact ⟨x, by simp, Ins.refl x⟩
      · rw [List.pairwise_append]
        refine ⟨ih.anti, by simp, fun a ha b hb hba => ?_⟩
        obtain rfl : b = l := by simpa using hb
        exact hc (.inr ((grtS_in ho hl).2 ⟨a, ha, hba⟩))
theorem grtP_I {ls : List (List Int)} (h : ∀ l ∈ ls, SA l) : GrtI ls (grtP ls) := by
  have := grtP_inv ls.reverse fun l hl => h l (by simpa using hl)
  rwa [List.reverse_reverse] at this
/-- in order of lengths, those that are left are the greatest -/
theorem grtP_sub : ∀ (ls : List (List Int)), (grtP ls).Sublist ls := fun ls => by
  have key : ∀ r : List (List Int), (grtP r.reverse).Sublist r.reverse := fun r => by
    induction r with
    | nil => simp [grtP]
    | cons l r ih =>
      rw [List.reverse_cons, grtP_snoc]
      unfold grtS
      split
      · exact ih.trans (List.sublist_append_left _ _)
      · exact ih.append (List.Sublist.refl _)
  have := key ls.reverse
  rwa [List.reverse_reverse] at this
theorem grtP_mem {ls : List (List Int)} (h : ∀ l ∈ ls, SA l) (hd : ls.Pairwise fun a b => b.length ≤ a.length) (x : List Int) : x ∈ grtP ls ↔ MaxIn ls x := by
  have hI := grtP_I h
  have hdo : (grtP ls).Pairwise fun a b => b.length ≤ a.length := hd.sublist (grtP_sub ls)
  constructor
  · intro hx
    refine ⟨(hI.mem x hx).1, (hI.mem x hx).2, fun y hy hxy => ?_⟩
    have hyne : y ≠ [] := fun e => (hI.mem x hx).2 (by
      cases x with
      | nil => rfl
      | cons a r => have := hxy a (by simp); rw [e] at this; simp at this)
    obtain ⟨z, hz, hyz⟩ := hI.all y hy hyne
    have hxz := hxy.trans hyz
    have e : x = z := by
      refine Classical.byContradiction fun he => ?_
      obtain ⟨i, hi, rfl⟩ := List.mem_iff_getElem.1 hx
      obtain ⟨j, hj, rfl⟩ := List.mem_iff_getElem.1 hz
      rcases Nat.lt_trichotomy i j with hij | hij | hij
      · have h1 := List.pairwise_iff_getElem.1 hdo i j hi hj hij
        exact he (hxz.same (h _ (hI.mem _ hx).1) (h _ (hI.mem _ hz).1) h1)
      · subst hij; exact he rfl
      · exact List.pairwise_iff_getElem.1 hI.anti j i hj hi hij hxz
    subst e
    exact hyz.anti (h y hy) (h x (hI.mem x hx).1) hxy
  · intro hx
    obtain ⟨z, hz, hxz⟩ := hI.all x hx.1 hx.2.1
    have := hx.2.2 z (hI.mem z hz).1 hxz
    rwa [this] at hz
theorem grtP_nodup {ls : List (List Int)} (h : ∀ l ∈ ls, SA l) : (grtP ls).Nodup := (grtP_I h).anti.imp fun h e => h (by rw [e]; exact Ins.refl _)
theorem MaxIn.perm {ls ls' : List (List Int)} (h : ∀ x, x ∈ ls ↔ x ∈ ls') {x : List Int} (hm : MaxIn ls x) : MaxIn ls' x := ⟨(h x).1 hm.1, hm.2.1, fun y hy => hm.2.2 y ((h y).2 hy)⟩

/-! one more list in order -/
def atL (x : List Int) : List (List Int) → Nat
  | [] => 0
  | y :: l => if LT y x then atL x l + 1 else 0
theorem atL_le (x : List Int) : ∀ l, atL x l ≤ l.length
  | [] => Nat.le_refl _
  | y :: l => by
    have := atL_le x l
    unfold atL
    split
    · simp; omega
    · simp
theorem atL_lt {x : List Int} : ∀ {l : List (List Int)} {j : Nat} (hj : j < l.length), j < atL x l → LT l[j] x
  | y :: l, j, hj, h => by
    unfold atL at h
    split at h
    · rename_i hy
      cases j with
      | zero => exact hy
      | succ j => exact atL_lt (l := l) (by simpa using hj) (by omega)
    · omega
theorem atL_ge {x : List Int} : ∀ {l : List (List Int)} (_ : SL l) {j : Nat} (hj : j < l.length), atL x l ≤ j → ¬ LT l[j] x
  | y :: l, hs, j, hj, h => by
    obtain ⟨h1, h2⟩ := List.pairwise_cons.1 hs
    unfold atL at h
    split at h
    · rename_i hy
      cases j with
      | zero => omega
      | succ j => exact atL_ge (l := l) h2 (by simpa using hj) (by omega)
    · rename_i hy
      cases j with
      | zero => exact hy
      | succ j =>
        intro hl
        have hj' : j < l.length := by simpa using hj
        exact hy ((h1 l[j] (List.getElem_mem hj')).trans hl)
/-- the place is told by its neighbours -/
theorem atL_of {x : List Int} {l : List (List Int)} (hs : SL l) {k : Nat} (hk : k ≤ l.length) (h1 : ∀ j (hj : j < l.length), j < k → LT l[j] x) (h2 : ∀ j (hj : j < l.length), k ≤ j → ¬ LT l[j] x) : atL x l = k := by
  have h3 := atL_le x l
  rcases Nat.lt_trichotomy (atL x l) k with h | h | h
  · exact absurd (h1 _ (by omega) h) (atL_ge hs (by omega) (Nat.le_refl _))
  · exact h
  · exact absurd (atL_lt (by omega) h) (h2 k (by omega) (Nat.le_refl _))
def putL (l : List (List Int)) (x : List Int) : List (List Int) := if x ∈ l then l else l.take (atL x l) ++ x :: l.drop (atL x l)
theorem putL_mem {l : List (List Int)} {x y : List Int} : y ∈ putL l x ↔ y ∈ l ∨ y = x := by
  unfold putL
  split
  · rename_i h
    exact ⟨fun h' => .inl h', fun h' => by rcases h' with h' | rfl <;> assumption⟩
  · constructor
    · intro h
      rcases List.mem_append.1 h with h | h
      · exact .inl (List.mem_of_mem_take h)
      · rcases List.mem_cons.1 h with h | h
        · exact .inr h
        · exact .inl (List.mem_of_mem_drop h)
    · rintro (h | rfl)
      · rw [← List.take_append_drop (atL x l) l] at h
        rcases List.mem_append.1 h with h | h
        · simp [h]
        · simp [h]
      · simp
theorem putL_SL {l : List (List Int)} (hs : SL l) (x : List Int) : SL (putL l x) := by
  unfold putL
  split
  · exact hs
  · rename_i hx
    have h1 : ∀ a ∈ l.take (atL x l), LT a x := fun a ha => by
      obtain ⟨j, hj, rfl⟩ := List.mem_iff_getElem.1 ha
      rw [List.length_take] at hj
      rw [List.getElem_take]
      exact atL_lt (by omega) (by omega)
    have h2 : ∀ b ∈ l.drop (atL x l), LT x b := fun b hb => by
      obtain ⟨j, hj, rfl⟩ := List.mem_iff_getElem.1 hb
      rw [List.length_drop] at hj
      rw [List.getElem_drop]
      exact LT.tri (atL_ge hs (by omega) (Nat.le_add_right _ _)) (fun e => hx (by rw [← e]; exact List.getElem_mem _))
    unfold SL
    rw [List.pairwise_append]
    refine ⟨hs.sublist (List.take_sublist _ _), List.pairwise_cons.2 ⟨h2, hs.sublist (List.drop_sublist _ _)⟩, fun a ha b hb => ?_⟩
    rcases List.mem_cons.1 hb with rfl | hb
    · exact h1 a ha
    · exact (h1 a ha).trans (h2 b hb)
def putS (ls : List (List Int)) : List (List Int) := (ls.filter fun l => decide (l ≠ [])).foldl putL []
theorem foldPut_SL : ∀ (ls : List (List Int)) {l : List (List Int)}, SL l → SL (ls.foldl putL l) ∧ ∀ x, x ∈ ls.foldl putL l ↔ x ∈ l ∨ x ∈ ls
  | [], l, h => ⟨h, fun x => by simp⟩
  | a :: r, l, h => by
    obtain ⟨h1, h2⟩ := foldPut_SL r (putL_SL h a)
    refine ⟨h1, fun x => ?_⟩
    rw [List.foldl_cons, h2, putL_mem, List.mem_cons]
    constructor
    · rintro ((h | h) | h)
      · exact .inl h
      · exact .inr (.inl h)
      · exact .inr (.inr h)
    · rintro (h | h | h)
      · exact .inl (.inl h)
      · exact .inl (.inr h)
      · exact .inr h
theorem putS_SL (ls : List (List Int)) : SL (putS ls) := (foldPut_SL _ (by simp [SL])).1
theorem putS_mem (ls : List (List Int)) (x : List Int) : x ∈ putS ls ↔ x ∈ ls ∧ x ≠ [] := by
  rw [putS, (foldPut_SL _ (by simp [SL])).2]; simp
/-- the greatest lists in order -/
def facP (ls : List (List Int)) : List (List Int) := (putS ls).filter fun x => decide (∀ y ∈ putS ls, Ins x y → y = x)
theorem facP_of (ls : List (List Int)) : FacOf ls (facP ls) := by
  refine ⟨(putS_SL ls).filter _, fun x => ?_⟩
  rw [facP, List.mem_filter, putS_mem, decide_eq_true_eq]
  constructor
  · rintro ⟨⟨h1, h2⟩, h3⟩
    refine ⟨h1, h2, fun y hy hxy => h3 y ((putS_mem ls y).2 ⟨hy, fun e => h2 ?_⟩) hxy⟩
    cases x with
    | nil => rfl
    | cons a r => have := hxy a (by simp); rw [e] at this; simp at this
  · rintro ⟨h1, h2, h3⟩
    exact ⟨⟨h1, h2⟩, fun y hy => h3 y ((putS_mem ls y).1 hy).1⟩
theorem facP_mem {ls : List (List Int)} {x : List Int} : x ∈ facP ls ↔ MaxIn ls x := (facP_of ls).2 x

/-! numbers anew -/
def Mono (f : Int → Int) (s : List Int) : Prop := ∀ x ∈ s, ∀ y ∈ s, x < y → f x < f y
theorem Mono.inj {f : Int → Int} {s : List Int} (h : Mono f s) {x y : Int} (hx : x ∈ s) (hy : y ∈ s) (e : f x = f y) : x = y := by
  rcases Int.lt_trichotomy x y with hl | hl | hl
  · have := h x hx y hy hl; omega
  · exact hl
  · have := h y hy x hx hl; omega
end Go.Proofs.YtdedegbendjmbaaGreatDoor.Vc
/-
  Plain mathematics of complexes: the complex of some lists, told in one way; and what a complex is. Conditions: as each states them. No program in sight.
-/
namespace Go.Proofs.YtdedegbendjmbaaGreatDoor.Vc

/-- the place of a number -/
def ix (s : List Int) (x : Int) : Int := (s.idxOf x : Nat)
theorem SA.lt {s : List Int} (h : SA s) {a b : Nat} (hab : a < b) (hb : b < s.length) : gi s (a : Int) < gi s (b : Int) := by
  rw [gi_mem (by omega), gi_mem hb]
  exact List.pairwise_iff_getElem.1 h a b (by omega) hb hab
/-- the vertices of some lists -/
def cvP (ss : List (List Int)) : List Int := cs ss.flatten
def cxF (ss : List (List Int)) : List (List Int) := (facP ss).map (List.map (ix (cvP ss)))
def CxBad (ss : List (List Int)) : Prop := (∃ l ∈ ss, 6 < l.length) ∨ 60 < (cvP ss).length ∨ 400 < (facP ss).length
instance (ss : List (List Int)) : Decidable (CxBad ss) := by unfold CxBad; infer_instance
/-- the complex of some ascending lists -/
def cxV (ss : List (List Int)) : Int := if CxBad ss then 0 else ((cvP ss).length : Nat)
def cxL (ss : List (List Int)) : List (List Int) := if CxBad ss then [] else cxF ss
def cxK (ss : List (List Int)) : Int := if CxBad ss then 3 else 0
/-! what a complex is -/
structure Cplx (V : Int) (F : List (List Int)) : Prop where
  v : 0 ≤ V ∧ V ≤ 60
  f : F.length ≤ 400
  row : ∀ l ∈ F, (1 ≤ l.length ∧ l.length ≤ 6) ∧ SA l ∧ ∀ x ∈ l, 0 ≤ x ∧ x < V
  ord : SL F
  all : ∀ x : Int, 0 ≤ x → x < V → ∃ l ∈ F, x ∈ l
  top : ∀ l ∈ F, ∀ m ∈ F, Ins l m → m = l
theorem facP_all {F : List (List Int)} (ho : SL F) (hn : ∀ l ∈ F, l ≠ []) : (facP F).length = F.length ↔ ∀ l ∈ F, ∀ m ∈ F, Ins l m → m = l := by
  have e : facP F = F.filter fun x => decide (∀ y ∈ F, Ins x y → y = x) := by
    refine (facP_of F).1.eq (ho.filter _) fun x => ?_
    rw [facP_mem, List.mem_filter, decide_eq_true_eq]
    exact ⟨fun h => ⟨h.1, h.2.2⟩, fun h => ⟨h.1, hn x h.1, h.2⟩⟩
  rw [e, List.length_filter_eq_length_iff]
  simp
end Go.Proofs.YtdedegbendjmbaaGreatDoor.Vc
/-
  Plain mathematics: turnings told by numbers, and some rows of one's own taken out. Conditions: as each states them. No program in sight.
-/
namespace Go.Proofs.YtdedegbendjmbaaGreatDoor.Vc
open Go.RowKit

theorem perm_lift {α β : Type} (f : β → α) {l l' : List α} (h : l.Perm l') : ∀ q : List β, l = q.map f → ∃ q' : List β, q'.Perm q ∧ l' = q'.map f := by
  induction h with
  | nil => exact fun q e => ⟨[], by rw [List.map_eq_nil_iff.1 e.symm], rfl⟩
  | cons x _ ih =>
    intro q e
    match q, e with
    | b :: r, e =>
      simp only [List.map_cons, List.cons.injEq] at e
      obtain ⟨q', h1, h2⟩ := ih r e.2
      exact ⟨b :: q', h1.cons b, by rw [List.map_cons, e.1, h2]⟩
  | swap x y l =>
    intro q e
    match q, e with
    | b :: c :: r, e =>
      simp only [List.map_cons, List.cons.injEq] at e
      exact ⟨c :: b :: r, List.Perm.swap _ _ _, by simp [e.1, e.2.1, e.2.2]⟩
  | trans _ _ ih1 ih2 =>
    intro q e
    obtain ⟨q1, h1, e1⟩ := ih1 q e
    obtain ⟨q2, h2, e2⟩ := ih2 q1 e1
    exact ⟨q2, h2.trans h1, e2⟩
theorem map_range {α : Type} (d : α) (l : List α) : l = (List.range l.length).map fun i => l.getD i d := by
  apply List.ext_getElem
  · simp
  · intro i h1 h2
    simp [List.getD_eq_getElem?_getD, h1]
theorem perm_idx {α : Type} (d : α) {l l' : List α} (h : l'.Perm l) : ∃ q : List Nat, q.Perm (List.range l.length) ∧ l' = q.map fun i => l.getD i d :=
  perm_lift _ h.symm _ (map_range d l)
/-- some numbers without twins are, up to order, some of all in order -/
theorem sub_range {q : List Nat} {n : Nat} (hn : q.Nodup) (hq : ∀ i ∈ q, i < n) : ∃ s : List Nat, s.Sublist (List.range n) ∧ q.Perm s := by
  refine ⟨(List.range n).filter fun i => decide (i ∈ q), List.filter_sublist, ?_⟩
  refine (List.perm_ext_iff_of_nodup hn (List.nodup_range.filter _)).2 fun i => ?_
  simp only [List.mem_filter, List.mem_range, decide_eq_true_eq]
  exact ⟨fun h => ⟨hq i h, h⟩, fun h => h.2⟩
theorem rowsCk_map (t2 : TypeId) {rs : List SlV} {xss : List (List Int)} (h : rs.length = xss.length) : rowsCk t2 rs xss = (List.range rs.length).map fun i => CkI t2 (rs.getD i slNil).a (rs.getD i slNil).n (rs.getD i slNil).c (xss.getD i []) := by
  apply List.ext_getElem?
  intro i
  by_cases hi : i < rs.length
  · rw [rowsCk_get h hi]
    simp [hi]
  · rw [List.getElem?_eq_none (by rw [rowsCk_length h]; omega), List.getElem?_eq_none (by simp; omega)]
/-- rows taken out by numbers -/
theorem St.pick {w0 w : World} {pre : List Ck} {t2 : TypeId} {rs : List SlV} {xss : List (List Int)} (h : St w0 w (pre ++ rowsCk t2 rs xss)) (hl : rs.length = xss.length) {q : List Nat} (hn : q.Nodup) (hq : ∀ i ∈ q, i < rs.length) :
    St w0 w (pre ++ rowsCk t2 (q.map fun i => rs.getD i slNil) (q.map fun i => xss.getD i [])) := by
  obtain ⟨s, hs, hp⟩ := sub_range hn hq
  have e : rowsCk t2 (q.map fun i => rs.getD i slNil) (q.map fun i => xss.getD i []) = q.map fun i => CkI t2 (rs.getD i slNil).a (rs.getD i slNil).n (rs.getD i slNil).c (xss.getD i []) := by
    rw [rowsCk_map t2 (by simp)]
    apply List.ext_getElem?
    intro i
    by_cases hi : i < q.length
    · simp [hi]
    · simp [hi]
  rw [e]
  have h1 := h
  rw [rowsCk_map t2 hl] at h1
  have h2 : (pre ++ s.map fun i => CkI t2 (rs.getD i slNil).a (rs.getD i slNil).n (rs.getD i slNil).c (xss.getD i [])).Sublist (pre ++ (List.range rs.length).map fun i => CkI t2 (rs.getD i slNil).a (rs.getD i slNil).n (rs.getD i slNil).c (xss.getD i [])) :=
    List.Sublist.append_left (hs.map _) _
  exact (h1.sub h2).perm ((List.perm_append_left_iff _).2 (hp.symm.map _))
def parA (z : List Int) (k : Nat) : List (List Int) := (List.range k).flatMap (ptsP z)
theorem parA_succ (z : List Int) (k : Nat) : parA z (k + 1) = parA z k ++ ptsP z k := by simp [parA, List.range_succ, List.flatMap_append]
theorem parA_all (z : List Int) : parA z (z.length + 1) = allP z := rfl
end Go.Proofs.YtdedegbendjmbaaGreatDoor.Vc
/-
  Faces: their numbers and lists, and the reference's walks of them. Conditions: as each states them.
-/
namespace Go.Proofs.YtdedegbendjmbaaGreatDoor.Vc
open Go.RowKit

/-! labels: each lies below the count, and each below the count occurs -/
theorem lab_in {N : Nat} {xss : List (List Int)} (hs : Sys N xss) (hi' : Inj N xss) : ∀ i, i ≤ N → (∀ x : Int, 0 ≤ x → x < N → gi (lab N xss i).1 x = -1 ∨ (0 ≤ gi (lab N xss i).1 x ∧ gi (lab N xss i).1 x < (lab N xss i).2)) ∧ ∀ v : Int, 0 ≤ v → v < (lab N xss i).2 → ∃ x : Int, 0 ≤ x ∧ x < N ∧ gi (lab N xss i).1 x = v
  | 0, _ => ⟨fun x h0 h1 => .inl (by rw [show (lab N xss 0).1 = List.replicate N (-1) from rfl, gi_rep h0 h1]), fun v h0 h1 => by simp [lab] at h1; omega⟩
  | i + 1, hi => by
    obtain ⟨h1, h2⟩ := lab_in hs hi' i (by omega)
    by_cases hp : 0 ≤ gi (lab N xss i).1 i
    · rw [lab_pos hp]; exact ⟨h1, h2⟩
    · rw [lab_neg hp]
      obtain ⟨hg, hpre, hor⟩ := orbit_spec hs (pt := (i : Int)) (by omega) (by omega)
      have hc := (lab_count N xss i).1
      have hgp : ∀ x : Int, 0 ≤ x → gi (paint (lab N xss i).1 (lab N xss i).2 (orbit N xss i)) x = if x ∈ orbit N xss i then (lab N xss i).2 else gi (lab N xss i).1 x := fun x hx => gi_paint _ _ _ (lab_length N xss i) hg.range x hx
      have him : (i : Int) ∈ orbit N xss i := hpre.subset (by simp)
      refine ⟨fun x h0 hx => ?_, fun v h0 hv => ?_⟩
      · rw [hgp x h0]
        dsimp only
        split
        · exact .inr ⟨hc, by omega⟩
        · rcases h1 x h0 hx with h | h
          · exact .inl h
          · exact .inr ⟨h.1, by omega⟩
      · dsimp only at hv ⊢
        by_cases e : v = (lab N xss i).2
        · exact ⟨i, by omega, by omega, by rw [hgp i (by omega), if_pos him, e]⟩
        · obtain ⟨x, hx0, hx1, hx⟩ := h2 v h0 (by omega)
          refine ⟨x, hx0, hx1, ?_⟩
          rw [hgp x hx0, if_neg (fun hm => ?_), hx]
          -- what is painted was free
          obtain ⟨j, hj, hjx⟩ := (lab_mem hs i (by omega) x hx0 hx1).1 (by rw [hx]; exact h0)
          have hix := (hor x).1 hm
          exact hp ((lab_mem hs i (by omega) (i : Int) (by omega) (by omega)).2 ⟨j, hj, hjx.trans (Reach.symm hs hi' (by omega) (by omega) hix)⟩)
/-- one more than the greatest -/
def grt (xs : List Int) : Int := xs.foldl (fun o x => if o ≤ x then x + 1 else o) 0
theorem grt_snoc (xs : List Int) (x : Int) : grt (xs ++ [x]) = if grt xs ≤ x then x + 1 else grt xs := by
  unfold grt
  rw [List.foldl_append]
  rfl
/-! faces -/
def facesL (xss : List (List Int)) (i : Nat) : List Int := (lab (gl xss 0).length (xss.eraseIdx i) (gl xss 0).length).1
def facesN (xss : List (List Int)) (i : Nat) : Int := (lab (gl xss 0).length (xss.eraseIdx i) (gl xss 0).length).2
theorem l01Index_c (A : Option Addr) (n c : Nat) (xs : List Int) (v : Int) (w : World) (hR : RdI w A n xs) (hn : n ≤ 9223372036854775807) :
    Ret Tryz.prog 115 [.slice A n c, .int .i64 v] w (fun r w' => (∃ i : Int, r = .int .i64 i ∧ (0 ≤ i ↔ v ∈ xs)) ∧ w' = w) := by
  have hxl := hR.1
  refine Ret.of_cd Tryz.func115 rfl Tryz.ntmps115 rfl (post1 rfl) ?_
  refine Cd.seq ?_
  refine Cd.region ?_
  refine Ops.mv_int rfl rfl rfl ?_
  refine Ops.nil ?_
  refine thenQ_n ?_
  refine Cd.seq ?_
  refine Cd.seq ?_
  refine Cd.region ?_
  refine Ops.mv_int rfl rfl rfl ?_
  refine Ops.nil ?_
  refine thenQ_n ?_
  refine Cd.block ?_
  refine Cd.loop (α := Nat) (fun k => [(0, .slice A n c), (1, .int .i64 v), (5, .int .i64 (k : Int))]) (fun k w' => w' = w ∧ k ≤ n ∧ ∀ j, j < k → gi xs (j : Nat) ≠ v) (fun k => n - k) 0 ⟨rfl, rfl, rfl, trivial⟩ ⟨rfl, Nat.zero_le _, fun j hj => by omega⟩ ?_
  rintro k e w ⟨rfl, hk, hK⟩
  refine Cd.seq ?_
  refine Cd.seq ?_
  refine Cd.region ?_
  refine Ops.mv_int rfl rfl rfl ?_
  refine Ops.mv_sl rfl rfl rfl ?_
  refine Ops.len rfl rfl ?_
  refine Ops.lss rfl rfl rfl ?_
  refine Ops.nil ?_
  refine thenQ_n ?_
  refine Cd.cond_p _ rfl (fun h3 => ?_) (fun h3 => ?_)
  · refine Cd.skip ?_
    refine thenQ_n ?_
    refine Cd.seq ?_
    refine Cd.block ?_
    refine Cd.seq ?_
    refine Cd.region ?_
    refine Ops.mv_sl rfl rfl rfl ?_
    refine Ops.mv_int rfl rfl rfl ?_
    refine Ops.idx hR.2 rfl rfl rfl (by omega) (by omega) ?_
    refine Ops.ld_int hR rfl (by omega) rfl rfl ?_
    refine Ops.mv_int rfl rfl rfl ?_
    refine Ops.eql rfl rfl rfl ?_
    refine Ops.nil ?_
    refine thenQ_n ?_
    refine Cd.cond_p _ rfl (fun h4 => ?_) (fun h4 => ?_)
    · refine Cd.seq ?_
      refine Cd.region ?_
      refine Ops.mv_int rfl rfl rfl ?_
      refine Ops.mv_int rfl rfl rfl ?_
      refine Ops.nil ?_
      refine thenQ_n ?_
      refine Cd.ret ?_
      refine blockQ_r ?_
      refine thenQ_r ?_
      refine thenQ_r ?_
      refine blockQ_r ?_
      refine thenQ_r ?_
      refine ret1_i rfl ?_
      exact ⟨⟨(k : Int), rfl, ⟨fun _ => by rw [← h4, gi_mem (by omega)]; exact List.getElem_mem _, fun _ => by omega⟩⟩, rfl⟩
    · refine Cd.skip ?_
      refine blockQ_n ?_
      refine thenQ_n ?_
      refine Cd.region ?_
      refine Ops.mv_int rfl rfl rfl ?_
      refine Ops.add rfl rfl rfl (by omega) ?_
      refine Ops.mv_int rfl rfl rfl ?_
      refine Ops.nil ?_
      refine thenQ_n ?_
      refine ⟨k + 1, by show n - (k + 1) < n - k; omega, ⟨rfl, rfl, rfl, trivial⟩, rfl, by omega, fun j hj => ?_⟩
      by_cases ej : j = k
      · subst ej; exact h4
      · exact hK j (by omega)
  · refine Cd.exit ?_
    refine thenQ_x ?_
    refine thenQ_x ?_
    refine blockQ_x ?_
    refine thenQ_n ?_
    refine Cd.seq ?_
    refine Cd.region ?_
    refine Ops.mv_int rfl rfl rfl ?_
    refine Ops.nil ?_
    refine thenQ_n ?_
    refine Cd.ret ?_
    refine ret1_i rfl ?_
    refine ⟨⟨-1, rfl, ⟨fun h => absurd h (by decide), fun h => ?_⟩⟩, rfl⟩
    obtain ⟨j, hj, hjv⟩ := List.mem_iff_getElem.1 h
    exact absurd (by rw [gi_mem hj]; exact hjv) (hK j (by omega))

theorem l01Has_c (A : Option Addr) (n c : Nat) (xs : List Int) (v : Int) (w : World) (hR : RdI w A n xs) (hn : n ≤ 9223372036854775807) :
    Ret Tryz.prog 136 [.slice A n c, .int .i64 v] w (fun r w' => r = .bool (decide (v ∈ xs)) ∧ w' = w) := by
  refine Ret.of_cd Tryz.func136 rfl Tryz.ntmps136 rfl (post1 rfl) ?_
  refine Cd.seq ?_
  refine Cd.region ?_
  refine Ops.mv_bool rfl rfl rfl ?_
  refine Ops.nil ?_
  refine thenQ_n ?_
  refine Cd.seq ?_
  refine Cd.region ?_
  refine Ops.mv_sl rfl rfl rfl ?_
  refine Ops.mv_int rfl rfl rfl ?_
  refine Ops.call (l01Index_c A n c xs v _ hR hn) rfl rfl rfl ?_
  rintro _ w ⟨⟨i, rfl, hi⟩, rfl⟩
  refine Ops.geq rfl rfl rfl ?_
  refine Ops.mv_bool rfl rfl rfl ?_
  refine Ops.nil ?_
  refine thenQ_n ?_
  refine Cd.ret ?_
  refine ret1_b rfl ?_
  exact ⟨congrArg Value.bool (decide_eq_decide.2 hi), rfl⟩

end Go.Proofs.YtdedegbendjmbaaGreatDoor.Vc
/-
  The walk of slices.Repeat at a list of some numbers. Conditions: as it states them.
-/
namespace Go.Proofs.YtdedegbendjmbaaGreatDoor.Vc
open Go.RowKit

/-- n copies of a list, one behind the other -/
def pow (xs : List Int) (n : Nat) : List Int := (List.replicate n xs).flatten
theorem pow_succ' (xs : List Int) (n : Nat) : pow xs (n + 1) = xs ++ pow xs n := by simp [pow, List.replicate_succ]
/-- what a part of the copies looks like -/
def part (T : List Int) (m : Nat) : List Int := T.take m ++ List.replicate (T.length - m) 0
end Go.Proofs.YtdedegbendjmbaaGreatDoor.Vc
/-
  The walks of holes and zigzags on both sides. Conditions: as each states them.
-/
namespace Go.Proofs.YtdedegbendjmbaaGreatDoor.Vc
open Go.RowKit

/-- the code of holes and zigzags -/
def holeK (xss : List (List Int)) (j : Int) : Int := if ¬ Grph xss then 1 else if ¬ (1 ≤ j ∧ j ≤ 16) then 2 else if ¬ xss.length = 3 then 5 else 0
def zigW (n : Nat) : List Int := [0] ++ pow [1, 2] n
def holeW (n : Nat) : List Int := zigW n ++ [1]
end Go.Proofs.YtdedegbendjmbaaGreatDoor.Vc
/-
  Faces on the program's side; the ends of edges on the reference's. Conditions: as each states them.
-/
namespace Go.Proofs.YtdedegbendjmbaaGreatDoor.Vc
open Go.RowKit

/-! rows put anew -/
theorem rowsCk_upd {t : TypeId} : ∀ {rs : List SlV} {xss : List (List Int)} {i : Nat} {s : SlV} {xs : List Int}, rs.length = xss.length → (rowsCk t rs xss).set i (CkI t s.a s.n s.c xs) = rowsCk t (rs.set i s) (xss.set i xs)
  | [], [], _, _, _, _ => rfl
  | [], _ :: _, _, _, _, h => by simp at h
  | _ :: _, [], _, _, _, h => by simp at h
  | r :: rs, x :: xss, 0, s, xs, _ => rfl
  | r :: rs, x :: xss, i + 1, s, xs, h => by
    have := rowsCk_upd (t := t) (rs := rs) (xss := xss) (i := i) (s := s) (xs := xs) (by simpa using h)
    simpa [rowsCk] using this
theorem nilRows {w0 w : World} {t : TypeId} : ∀ (n : Nat) {ks : List Ck}, St w0 w ks → St w0 w (ks ++ rowsCk t (List.replicate n slNil) (List.replicate n []))
  | 0, ks, h => by show St w0 w (ks ++ []); rwa [List.append_nil]
  | n + 1, ks, h => by
    have h1 := nilRows (t := t) n h
    have h2 := h1.nil t
    exact h2.perm (List.perm_middle.symm)
end Go.Proofs.YtdedegbendjmbaaGreatDoor.Vc
/-
  Parts of a list, walked; a row of rows copied. Conditions: as each states them.
-/
namespace Go.Proofs.YtdedegbendjmbaaGreatDoor.Vc
open Go.RowKit

theorem CloneRR_c (A : Option Addr) (n c : Nat) (rs : List SlV) (w : World) (hR : RdR w A n rs) (hn : n ≤ 1000000000) : Ret Tryz.prog 151 [.slice A n c] w (fun v w' => ∃ A' c', v = .slice A' n c' ∧ St w w' [CkR 25 A' n c' rs]) := by
  cases hA : A with
  | none =>
    subst hA
    have hn0 : n = 0 := by
      apply Classical.byContradiction
      intro h
      obtain ⟨p, hp, _⟩ := hR.2 0 (by omega)
      simp [ptrAt] at hp
    subst hn0
    have hx : rs = [] := List.eq_nil_of_length_eq_zero hR.1
    subst hx
    refine Ret.of_cd Tryz.func151 rfl Tryz.ntmps151 rfl (post1 rfl) ?_
    refine Cd.seq ?_
    refine Cd.region ?_
    refine Ops.mv_sl rfl rfl rfl ?_
    refine Ops.nil ?_
    refine thenQ_n ?_
    refine Cd.seq ?_
    refine Cd.seq ?_
    refine Cd.region ?_
    refine Ops.mv_sl rfl rfl rfl ?_
    refine Ops.eqNil rfl rfl rfl ?_
    refine Ops.nil ?_
    refine thenQ_n ?_
    refine Cd.cond_t rfl ?_
    refine Cd.seq ?_
    refine Cd.region ?_
    refine Ops.mv_sl rfl rfl rfl ?_
    refine Ops.nil ?_
    refine thenQ_n ?_
    refine Cd.ret ?_
    refine thenQ_r ?_
    refine ret1_s rfl ?_
    exact ⟨none, 0, rfl, (St.refl w).nil _⟩
  | some a =>
    subst hA
    refine Ret.of_cd Tryz.func151 rfl Tryz.ntmps151 rfl (post1 rfl) ?_
    refine Cd.seq ?_
    refine Cd.region ?_
    refine Ops.mv_sl rfl rfl rfl ?_
    refine Ops.nil ?_
    refine thenQ_n ?_
    refine Cd.seq ?_
    refine Cd.seq ?_
    refine Cd.region ?_
    refine Ops.mv_sl rfl rfl rfl ?_
    refine Ops.eqNil rfl rfl rfl ?_
    refine Ops.nil ?_
    refine thenQ_n ?_
    refine Cd.cond_f rfl ?_
    refine Cd.skip ?_
    refine thenQ_n ?_
    refine Cd.seq ?_
    refine Cd.region ?_
    refine Ops.bs0 (St.refl w) rfl ?_
    intro A1 w1 hS1
    have hS1 : St w w1 [CkR 25 A1 0 0 []] := hS1
    refine Ops.mv_sl rfl rfl rfl ?_
    refine Ops.appR 0 hS1 rfl (hS1.oldR hR) rfl rfl rfl (by omega) (by omega) rfl ?_
    intro A2 c2 w2 hS2
    rw [Nat.zero_add] at hS2 ⊢
    refine Ops.mv_sl rfl rfl rfl ?_
    refine Ops.nil ?_
    refine thenQ_n ?_
    refine Cd.ret ?_
    refine ret1_s rfl ?_
    exact ⟨A2, c2, rfl, hS2⟩

theorem ptsP_count : ∀ (l : List Int) (k : Nat), (ptsP l k).length ≤ 2 ^ l.length
  | l, 0 => by simpa [ptsP] using Nat.one_le_two_pow
  | [], k + 1 => by simp [ptsP]
  | x :: r, k + 1 => by
    have h1 := ptsP_count r k
    have h2 := ptsP_count r (k + 1)
    rw [ptsP, List.length_append, List.length_map, List.length_cons, Nat.pow_succ]
    omega
theorem ptsP_small {l : List Int} (k : Nat) (h : l.length ≤ 6) : (ptsP l k).length ≤ 64 := by
  have h1 := ptsP_count l k
  have h2 : 2 ^ l.length ≤ 2 ^ 6 := Nat.pow_le_pow_right (by decide) h
  have h3 : 2 ^ 6 = 64 := by decide
  omega

theorem partsOf_c : ∀ (k : Nat) (A : Option Addr) (n c : Nat) (xs : List Int) (w : World), RdI w A n xs → n ≤ c → n ≤ 6 → k ≤ 7 →
    Ret Tryz.prog 97 [.slice A n c, .int .i64 (k : Int)] w (fun v w' => ∃ A' c' rs', v = .slice A' (ptsP xs k).length c' ∧ rs'.length = (ptsP xs k).length ∧ St w w' (mat 25 2 A' (ptsP xs k).length c' rs' (ptsP xs k) ++ [])) := by
  intro k
  induction k with
  | zero =>
    intro A n c xs w hR hc hn hk
    refine Ret.of_cd Tryz.func97 rfl Tryz.ntmps97 rfl (post1 rfl) ?_
    refine Cd.seq ?_
    refine Cd.region ?_
    refine Ops.mv_sl rfl rfl rfl ?_
    refine Ops.nil ?_
    refine thenQ_n ?_
    refine Cd.seq ?_
    refine Cd.seq ?_
    refine Cd.region ?_
    refine Ops.mv_int rfl rfl rfl ?_
    refine Ops.eql rfl rfl rfl ?_
    refine Ops.nil ?_
    refine thenQ_n ?_
    refine Cd.cond_p _ rfl (fun h1 => ?_) (fun h1 => absurd rfl h1)
    refine Cd.seq ?_
    refine Cd.region ?_
    refine Ops.bs1R (St.refl w) rfl rfl rfl ?_
    intro A1 w1 hS1
    refine Ops.mv_sl rfl rfl rfl ?_
    refine Ops.nil ?_
    refine thenQ_n ?_
    refine Cd.ret ?_
    refine thenQ_r ?_
    refine ret1_s rfl ?_
    have e0 : ptsP xs 0 = [[]] := by cases xs <;> rfl
    rw [e0]
    exact ⟨A1, 1, [slNil], rfl, rfl, nilRows 1 hS1⟩
  | succ k ih =>
    intro A n c xs w hR hc hn hk
    have hxl : xs.length = n := hR.1
    have hsm := ptsP_small (l := xs) (k + 1) (by omega)
    refine Ret.of_cd Tryz.func97 rfl Tryz.ntmps97 rfl (post1 rfl) ?_
    refine Cd.seq ?_
    refine Cd.region ?_
    refine Ops.mv_sl rfl rfl rfl ?_
    refine Ops.nil ?_
    refine thenQ_n ?_
    refine Cd.seq ?_
    refine Cd.seq ?_
    refine Cd.region ?_
    refine Ops.mv_int rfl rfl rfl ?_
    refine Ops.eql rfl rfl rfl ?_
    refine Ops.nil ?_
    refine thenQ_n ?_
    refine Cd.cond_pf rfl (fun h1 => absurd h1 (by omega)) ?_
    refine Cd.skip ?_
    refine thenQ_n ?_
    refine Cd.seq ?_
    refine Cd.region ?_
    refine Ops.mv_sl rfl rfl rfl ?_
    refine Ops.nil ?_
    refine thenQ_n ?_
    refine Cd.seq ?_
    refine Cd.seq ?_
    refine Cd.region ?_
    refine Ops.mv_sl rfl rfl rfl ?_
    refine Ops.len rfl rfl ?_
    refine Ops.mv_int rfl rfl rfl ?_
    refine Ops.sub rfl rfl rfl (by omega) ?_
    refine Ops.add rfl rfl rfl (by omega) ?_
    refine Ops.mv_int rfl rfl rfl ?_
    refine Ops.nil ?_
    refine thenQ_n ?_
    refine Cd.block ?_
    refine Cd.loop (α := Nat × Option Addr × Nat × List SlV × List (List Int)) (fun z => [(0, .slice A n c), (1, .int .i64 ((k + 1 : Nat) : Int)), (5, .slice z.2.1 z.2.2.2.2.length z.2.2.1), (16, .int .i64 ((n : Int) - ((k + 1 : Nat) : Int) + 1)), (17, .int .i64 (z.1 : Int))])
      (fun z w' => z.1 ≤ n + 1 ∧ z.2.2.2.2 ++ ptsP (xs.drop z.1) (k + 1) = ptsP xs (k + 1) ∧ z.2.2.2.1.length = z.2.2.2.2.length ∧ St w w' (mat 25 2 z.2.1 z.2.2.2.2.length z.2.2.1 z.2.2.2.1 z.2.2.2.2 ++ [])) (fun z => n + 1 - z.1) (0, none, 0, [], []) ⟨rfl, rfl, rfl, rfl, rfl, trivial⟩ ⟨Nat.zero_le _, by show [] ++ ptsP (xs.drop 0) (k + 1) = _; rw [List.drop_zero, List.nil_append], rfl, (St.refl w).nil _⟩ ?_
    rintro ⟨i, A5, c5, rs5, L⟩ e w1 ⟨hi, hL, hrl, hS1⟩
    dsimp only at hi hL hrl hS1 ⊢
    refine Cd.seq ?_
    refine Cd.region ?_
    refine Ops.lss rfl rfl rfl ?_
    refine Ops.nil ?_
    refine thenQ_n ?_
    refine Cd.seq ?_
    refine Cd.cond_p _ rfl (fun h2 => ?_) (fun h2 => ?_)
    · have hin : i < xs.length := by omega
      have hLl : L.length ≤ 64 := by have := congrArg List.length hL; rw [List.length_append] at this; omega
      rw [ptsP_step hin, ← List.append_assoc] at hL
      have hd := (hR.later hS1.below).drop (l := i + 1) (by omega) hc
      have hdl : (xs.drop (i + 1)).length = n - (i + 1) := by rw [List.length_drop, hxl]
      refine Cd.skip ?_
      refine thenQ_n ?_
      refine Cd.seq ?_
      refine Cd.block ?_
      refine Cd.seq ?_
      refine Cd.region ?_
      refine Ops.mv_int rfl rfl rfl ?_
      refine Ops.mv_int rfl rfl rfl ?_
      refine Ops.nil ?_
      refine thenQ_n ?_
      refine Cd.seq ?_
      refine Cd.region ?_
      refine Ops.mv_sl rfl rfl rfl ?_
      refine Ops.mv_int rfl rfl rfl ?_
      refine Ops.add rfl rfl rfl (by omega) ?_
      refine Ops.cut_l (l := ((i + 1 : Nat) : Int)) rfl rfl rfl (by omega) ?_
      refine Ops.mv_int rfl rfl rfl ?_
      refine Ops.sub rfl rfl rfl (by omega) ?_
      refine Ops.call (ih (cutAt A c (i + 1)) (n - (i + 1)) (c - (i + 1)) (xs.drop (i + 1)) _ hd (by omega) (by omega) (by omega)) rfl (by show [_, Value.int .i64 (((k + 1 : Nat) : Int) - 1)] = _; congr 3; omega) rfl ?_
      rintro _ w2 ⟨A6, c6, rs6, rfl, hrl6, hT2⟩
      have hNl := ptsP_small (l := xs.drop (i + 1)) k (by omega)
      have hNs : ∀ r ∈ ptsP (xs.drop (i + 1)) k, r.length ≤ 6 := fun r hr => by
        have := (ptsP_mem.1 hr).1.length_le
        omega
      generalize hN : ptsP (xs.drop (i + 1)) k = N at *
      have hS2 : St w w2 (mat 25 2 A5 L.length c5 rs5 L ++ (mat 25 2 A6 N.length c6 rs6 N ++ [])) := by
        have := (hS1.call hT2).perm List.perm_append_comm
        simpa using this
      refine Ops.len rfl rfl ?_
      refine Ops.mv_int rfl rfl rfl ?_
      refine Ops.nil ?_
      refine thenQ_n ?_
      refine Cd.block ?_
      refine Cd.loop (α := Nat × Option Addr × Nat × List SlV) (fun z => [(0, .slice A n c), (1, .int .i64 ((k + 1 : Nat) : Int)), (5, .slice z.2.1 (L.length + z.1) z.2.2.1), (6, .int .i64 (i : Int)), (16, .int .i64 ((n : Int) - ((k + 1 : Nat) : Int) + 1)), (17, .int .i64 (i : Int)), (26, .slice A6 N.length c6), (27, .int .i64 (N.length : Int)), (28, .int .i64 (z.1 : Int))])
        (fun z w' => z.1 ≤ N.length ∧ z.2.2.2.length = L.length + z.1 ∧ St w w' (mat 25 2 z.2.1 (L.length + z.1) z.2.2.1 z.2.2.2 (L ++ (N.take z.1).map (gi xs (i : Int) :: ·)) ++ (mat 25 2 A6 N.length c6 rs6 N ++ []))) (fun z => N.length - z.1) (0, A5, c5, rs5) ⟨rfl, rfl, rfl, rfl, rfl, rfl, rfl, rfl, rfl, trivial⟩ ⟨Nat.zero_le _, by show rs5.length = L.length + 0; omega, by show St w w2 (mat _ _ A5 (L.length + 0) c5 rs5 (L ++ (N.take 0).map _) ++ _); rw [List.take_zero, List.map_nil, List.append_nil]; exact hS2⟩ ?_
      rintro ⟨j, A7, c7, rs7⟩ e w3 ⟨hj, hr7, hS3⟩
      dsimp only at hj hr7 hS3 ⊢
      have hM3 : ∀ w', St w w' (mat 25 2 A7 (L.length + j) c7 rs7 (L ++ (N.take j).map (gi xs (i : Int) :: ·)) ++ (mat 25 2 A6 N.length c6 rs6 N ++ [])) → RowsI w' A6 N.length rs6 N := fun w' h => (h.sub (List.sublist_append_right _ _)).rowsI rfl
      have hLL : (L ++ (N.take j).map (gi xs (i : Int) :: ·)).length = L.length + j := by simp; omega
      refine Cd.seq ?_
      refine Cd.region ?_
      refine Ops.lss rfl rfl rfl ?_
      refine Ops.nil ?_
      refine thenQ_n ?_
      refine Cd.seq ?_
      refine Cd.cond_p _ rfl (fun h3 => ?_) (fun h3 => ?_)
      · have hjN : j < N.length := by omega
        have hM := hM3 _ hS3
        have hrow := hM.at_ (i := (j : Int)) (by omega) (by omega)
        have hrl := hrow.1
        have hsm7 := hNs (gl N (j : Int)) (by rw [gl_mem hjN]; exact List.getElem_mem _)
        have hR3 := hR.later hS3.below
        have htk : L ++ (N.take (j + 1)).map (gi xs (i : Int) :: ·) = (L ++ (N.take j).map (gi xs (i : Int) :: ·)) ++ [gi xs (i : Int) :: gl N (j : Int)] := by rw [take_succ_gl hjN, List.map_append, List.append_assoc]; rfl
        generalize hL' : L ++ (N.take j).map (gi xs (i : Int) :: ·) = L' at *
        refine Cd.skip ?_
        refine thenQ_n ?_
        refine Cd.seq ?_
        refine Cd.block ?_
        refine Cd.seq ?_
        refine Cd.region ?_
        refine Ops.idx hM.top.2 rfl rfl rfl (by omega) (by omega) ?_
        refine Ops.ld_sl hM.top rfl (by omega) rfl rfl ?_
        refine Ops.mv_sl rfl rfl rfl ?_
        refine Ops.nil ?_
        refine thenQ_n ?_
        refine Cd.region ?_
        refine Ops.mv_sl rfl rfl rfl ?_
        refine Ops.mv_sl rfl rfl rfl ?_
        refine Ops.mv_int rfl rfl rfl ?_
        refine Ops.idx hR3.2 rfl rfl rfl (by omega) (by omega) ?_
        refine Ops.ld_int hR3 rfl (by omega) rfl rfl ?_
        refine Ops.bs1I hS3 rfl rfl rfl ?_
        intro A8 w4 hS4
        refine Ops.mv_sl rfl rfl rfl ?_
        refine Ops.appI 0 hS4 rfl ((hM3 _ hS4.tail).at_ (i := (j : Int)) (by omega) (by omega)) rfl rfl rfl (by omega) (by omega) rfl ?_
        intro A9 c9 w5 hS5
        have hS5 : St w w5 (CkI 2 A9 (1 + (rg rs6 (j : Int)).n) c9 ([gi xs (i : Int)] ++ gl N (j : Int)) :: (mat 25 2 A7 (L.length + j) c7 rs7 L' ++ (mat 25 2 A6 N.length c6 rs6 N ++ []))) := hS5
        refine Ops.bs1R hS5 rfl rfl rfl ?_
        intro A10 w6 hS6
        refine Ops.appR 2 hS6 rfl (hS6.rdR 0 rfl) rfl rfl rfl (by omega) (by omega) rfl ?_
        intro A11 c11 w7 hS7
        have hS7 : St w w7 (CkR 25 A10 1 1 [⟨A9, 1 + (rg rs6 (j : Int)).n, c9⟩] :: CkI 2 A9 (1 + (rg rs6 (j : Int)).n) c9 ([gi xs (i : Int)] ++ gl N (j : Int)) :: CkR 25 A11 (L.length + j + 1) c11 (rs7 ++ [⟨A9, 1 + (rg rs6 (j : Int)).n, c9⟩]) :: (rowsCk 2 rs7 L' ++ (mat 25 2 A6 N.length c6 rs6 N ++ []))) := hS7
        have hS8 : St w w7 (mat 25 2 A11 (L.length + (j + 1)) c11 (rs7 ++ [⟨A9, 1 + (rg rs6 (j : Int)).n, c9⟩]) (L' ++ [gi xs (i : Int) :: gl N (j : Int)]) ++ (mat 25 2 A6 N.length c6 rs6 N ++ [])) := by
          refine hS7.tail.perm ?_
          unfold mat
          rw [rowsCk_append (by omega)]
          refine (List.Perm.swap _ _ _).trans (List.Perm.cons _ ?_)
          show (_ :: (rowsCk 2 rs7 L' ++ _)).Perm ((rowsCk 2 rs7 L' ++ [_]) ++ _)
          rw [List.append_assoc]
          exact List.perm_middle.symm
        refine Ops.mv_sl rfl rfl rfl ?_
        refine Ops.nil ?_
        refine blockQ_n ?_
        refine thenQ_n ?_
        refine Cd.region ?_
        refine Ops.add rfl rfl rfl (by omega) ?_
        refine Ops.mv_int rfl rfl rfl ?_
        refine Ops.nil ?_
        refine thenQ_n ?_
        exact ⟨(j + 1, A11, c11, rs7 ++ [⟨A9, 1 + (rg rs6 (j : Int)).n, c9⟩]), by show N.length - (j + 1) < N.length - j; omega, ⟨rfl, rfl, rfl, rfl, rfl, rfl, rfl, rfl, rfl, trivial⟩, by show j + 1 ≤ N.length; omega, by show (rs7 ++ [_]).length = L.length + (j + 1); simp; omega, by rw [htk]; exact hS8⟩
      · have hje : j = N.length := by omega
        subst hje
        rw [List.take_length] at hS3 hLL
        refine Cd.exit ?_
        refine thenQ_x ?_
        refine thenQ_x ?_
        refine blockQ_x ?_
        refine blockQ_n ?_
        refine thenQ_n ?_
        refine Cd.region ?_
        refine Ops.add rfl rfl rfl (by omega) ?_
        refine Ops.mv_int rfl rfl rfl ?_
        refine Ops.nil ?_
        refine thenQ_n ?_
        refine ⟨(i + 1, A7, c7, rs7, L ++ N.map (gi xs (i : Int) :: ·)), by show n + 1 - (i + 1) < n + 1 - i; omega, ⟨rfl, rfl, by show Value.slice A7 (L.length + N.length) c7 = .slice A7 (L ++ N.map (gi xs (i : Int) :: ·)).length c7; rw [hLL], rfl, rfl, trivial⟩, by show i + 1 ≤ n + 1; omega, hL, by rw [hLL]; exact hr7, ?_⟩
        rw [hLL]
        have := hS3.sub (List.sublist_append_left _ _)
        rwa [List.append_nil]
    · have hend : ptsP (xs.drop i) (k + 1) = [] := ptsP_short (by rw [List.length_drop]; omega)
      rw [hend, List.append_nil] at hL
      subst hL
      refine Cd.exit ?_
      refine thenQ_x ?_
      refine thenQ_x ?_
      refine blockQ_x ?_
      refine thenQ_n ?_
      refine Cd.seq ?_
      refine Cd.region ?_
      refine Ops.mv_sl rfl rfl rfl ?_
      refine Ops.mv_sl rfl rfl rfl ?_
      refine Ops.nil ?_
      refine thenQ_n ?_
      refine Cd.ret ?_
      refine ret1_s rfl ?_
      exact ⟨A5, c5, rs5, rfl, hrl, hS1⟩
end Go.Proofs.YtdedegbendjmbaaGreatDoor.Vc
