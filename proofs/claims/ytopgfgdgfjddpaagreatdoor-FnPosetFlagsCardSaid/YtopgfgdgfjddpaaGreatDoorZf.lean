/-
  The texts Pr1, Pr2, Pr3, Po3, Po4, Po5, Po6, Po7, Pnt, Pr4, Map in one. Conditions: as each part states them.
-/
import Derived.Test.YtopgfgdgfjddpaaGreatDoorZe
import Derived.Test.YtopgfgdgfjddpaaGreatDoorZc
import Derived.Test.YtopgfgdgfjddpaaGreatDoorZb
import Derived.Test.YtopgfgdgfjddpaaGreatDoorZa
import Derived.MapKept
import Derived.Carry
/-
 The program's flags of a poset: its own recursive function, walked.
-/
namespace Go.Proofs.YtopgfgdgfjddpaaGreatDoor.Vc
open Go.RowKit
section
variable {P : Program} {N : Nat} {ops : Array Oper} {K : Env → World → Prop} {rest : List Oper} {e : Env} {w : World} {d : Nat} {ty : TypeId} {pos : String} {af : Array Edge}
theorem Ops.fn4 {F : FuncId} {x y z u : Operand} {v1 v2 v3 v4 : Value} (hx : ev e x = v1) (hy : ev e y = v2) (hz : ev e z = v3) (hu : ev e u = v4) (hb : Nat.blt d N = true) (hK : Ops P N ops K rest (upd e d (.func (.func F) #[] #[v1, v2, v3, v4])) w) :
  Ops P N ops K (⟨some d, .makeFunc (.func F) #[] #[x, y, z, u], ty, pos, af, none⟩ :: rest) e w :=
 .val (by simp [execOp, Instr.makeFunc, hx, hy, hz, hu]) hb hK
end
theorem cap_all {l : List (List Int)} (h : l.length ≤ 401) : cap l = l := by
 unfold cap
 exact List.take_of_length_le h
def exU (U : List (List Int)) : Nat → Int → List (List Int)
 | 0, _ => [[]]
 | k + 1, e => (gl U e).flatMap fun f => (exU U k f).map (f :: ·)
def grU (U : List (List Int)) (k : Nat) (fl xs : List Int) : List (List Int) := xs.flatMap fun e => (exU U k e).map fun y => fl ++ e :: y
theorem grU_take {U : List (List Int)} {k : Nat} {fl xs : List Int} {j : Nat} (h : j < xs.length) : grU U k fl (xs.take (j + 1)) = grU U k fl (xs.take j) ++ (exU U k (gi xs (j : Int))).map fun y => fl ++ gi xs (j : Int) :: y := by
 unfold grU
 rw [List.take_succ_eq_append_getElem h, List.flatMap_append, gi_mem h]; simp
theorem grU_next (U : List (List Int)) (k : Nat) (fl : List Int) (e : Int) : (exU U (k + 1) e).map (fun y => fl ++ e :: y) = grU U k (fl ++ [e]) (gl U e) := by
 unfold grU
 rw [exU, List.map_flatMap]
 refine congrArg (fun g => List.flatMap g (gl U e)) (funext fun f => ?_)
 rw [List.map_map]
 refine List.map_congr_left fun y _ => ?_
 show fl ++ e :: f :: y = (fl ++ [e]) ++ f :: y
 rw [List.append_assoc]; rfl
abbrev gwK (PF A : Option Addr) (c : Nat) (rs : List SlV) (F : List (List Int)) (PB : Option Addr) (n : Int) (AR : Option Addr) (nR cR : Nat) (AD : Option Addr) (m d : Nat) (PG PU Au : Option Addr) (N cU : Nat) (rsU : List SlV) (U : List (List Int)) (ks1 : List Ck) : List Ck :=
 Bx 22 1 PF [.slice A F.length c] :: (mat 32 2 A F.length c rs F ++ (poB PB n AR nR cR AD m d :: Bx 121 1 PG [.func (.func 140) #[] #[.pointer PF, .pointer PB, .pointer PG, .pointer PU]] :: Bx 22 1 PU [.slice Au N cU] :: (mat 32 2 Au N cU rsU U ++ ks1)))
theorem perm_f {α : Type} (x b c : α) (X Y : List α) : (x :: b :: c :: (X ++ Y)).Perm (b :: c :: ((X ++ [x]) ++ Y)) := by
 classical
 refine List.perm_iff_count.2 fun z => ?_
 simp only [List.count_append, List.count_cons, List.count_nil]
 omega
theorem gw_sub (PF A : Option Addr) (c : Nat) (rs : List SlV) (F : List (List Int)) (PB : Option Addr) (n : Int) (AR : Option Addr) (nR cR : Nat) (AD : Option Addr) (m d : Nat) (PG PU Au : Option Addr) (N cU : Nat) (rsU : List SlV) (U : List (List Int)) (ks1 : List Ck) : (poB PB n AR nR cR AD m d :: Bx 121 1 PG [.func (.func 140) #[] #[.pointer PF, .pointer PB, .pointer PG, .pointer PU]] :: Bx 22 1 PU [.slice Au N cU] :: (mat 32 2 Au N cU rsU U ++ ks1)).Sublist (gwK PF A c rs F PB n AR nR cR AD m d PG PU Au N cU rsU U ks1) := (List.sublist_append_right _ _).cons _
theorem gw_app (PF A : Option Addr) (c : Nat) (rs : List SlV) (F : List (List Int)) (PB : Option Addr) (n : Int) (AR : Option Addr) (nR cR : Nat) (AD : Option Addr) (m d : Nat) (PG PU Au : Option Addr) (N cU : Nat) (rsU : List SlV) (U : List (List Int)) (ks1 : List Ck) (x : Ck) : (x :: gwK PF A c rs F PB n AR nR cR AD m d PG PU Au N cU rsU U ks1).Perm (gwK PF A c rs F PB n AR nR cR AD m d PG PU Au N cU rsU U (x :: ks1)) := by
 classical
 refine List.perm_iff_count.2 fun z => ?_
 simp only [gwK, List.count_append, List.count_cons]
 omega
theorem mem_rdI {w0 w' : World} {PF A : Option Addr} {c : Nat} {rs : List SlV} {F : List (List Int)} {PB : Option Addr} {n : Int} {AR : Option Addr} {nR cR : Nat} {AD : Option Addr} {m d : Nat} {PG PU Au : Option Addr} {N cU : Nat} {rsU : List SlV} {U : List (List Int)} {ks1 : List Ck} {t : TypeId} {B : Option Addr} {q r : Nat} {xs : List Int} (h : St w0 w' (gwK PF A c rs F PB n AR nR cR AD m d PG PU Au N cU rsU U (CkI t B q r xs :: ks1))) : RdI w' B q xs := (h.perm (gw_app ..).symm).rdI 0 rfl
theorem gw_drop (PF A : Option Addr) (c : Nat) (rs : List SlV) (F : List (List Int)) (PB : Option Addr) (n : Int) (AR : Option Addr) (nR cR : Nat) (AD : Option Addr) (m d : Nat) (PG PU Au : Option Addr) (N cU : Nat) (rsU : List SlV) (U : List (List Int)) (ks1 : List Ck) (x : Ck) : (gwK PF A c rs F PB n AR nR cR AD m d PG PU Au N cU rsU U ks1).Sublist (gwK PF A c rs F PB n AR nR cR AD m d PG PU Au N cU rsU U (x :: ks1)) := (((((((List.Sublist.refl ks1).cons x).append_left _).cons_cons _).cons_cons _).cons_cons _).append_left _).cons_cons _
theorem gw_u {w0 w' : World} {PF A : Option Addr} {c : Nat} {rs : List SlV} {F : List (List Int)} {PB : Option Addr} {n : Int} {AR : Option Addr} {nR cR : Nat} {AD : Option Addr} {m d : Nat} {PG PU Au : Option Addr} {N cU : Nat} {rsU : List SlV} {U : List (List Int)} {ks1 : List Ck} (hUl : U.length = N) (h : St w0 w' (gwK PF A c rs F PB n AR nR cR AD m d PG PU Au N cU rsU U ks1)) : RowsI w' Au N rsU U :=
 St.rowsI (t1 := 32) (t2 := 2) (c := cU) (h.sub (((((List.Sublist.refl (mat 32 2 Au N cU rsU U ++ ks1)).cons _).cons _).cons _).trans (gw_sub ..))) hUl
set_option maxHeartbeats 2000000 in
theorem grow_c (w0 : World) (n : Nat) (hn5 : n ≤ 5) (PF PB AR AD PG PU Au : Option Addr) (nR cR m d N cU : Nat) (rsU : List SlV) (U : List (List Int)) (hUl : U.length = N) (hN : N ≤ 500) (hUr : ∀ e : Nat, e < N → (gl U (e : Int)).length ≤ 500 ∧ ∀ x ∈ gl U (e : Int), 0 ≤ x ∧ x < (N : Int)) :
    ∀ (k nf nx : Nat) (fl xs : List Int) (Af Ax : Option Addr) (cf cx : Nat) (ks1 : List Ck) (w : World) (A : Option Addr) (c : Nat) (rs : List SlV) (F : List (List Int)), fl.length = nf → xs.length = nx → nf + (k + 1) = n → nx ≤ 500 → (∀ x ∈ xs, 0 ≤ x ∧ x < (N : Int)) →
      (∀ w' A c rs F, St w0 w' (gwK PF A c rs F PB n AR nR cR AD m d PG PU Au N cU rsU U ks1) → RdI w' Af nf fl) →
      (∀ w' A c rs F, St w0 w' (gwK PF A c rs F PB n AR nR cR AD m d PG PU Au N cU rsU U ks1) → RdI w' Ax nx xs) →
      rs.length = F.length → F.length ≤ 401 → St w0 w (gwK PF A c rs F PB n AR nR cR AD m d PG PU Au N cU rsU U ks1) →
      Ret Tryz.prog 140 [.slice Af nf cf, .slice Ax nx cx, .pointer PF, .pointer PB, .pointer PG, .pointer PU] w (fun v w' => v = .tuple #[] ∧ ∃ A' c' rs', rs'.length = (cap (F ++ grU U k fl xs)).length ∧ St w0 w' (gwK PF A' c' rs' (cap (F ++ grU U k fl xs)) PB n AR nR cR AD m d PG PU Au N cU rsU U ks1)) := by
  intro k
  induction k using Nat.strongRecOn with
  | _ k ih =>
    intro nf nx fl xs Af Ax cf cx ks1 w A c rs F hnf hnx hfl hxs hxr hf hx hrs hF hS
    refine Ret.of_cd Tryz.func140 O Tryz.ntmps140 O (post0 O) ?_
    refine Gbo O (Ops.len O O (Gdc O ?_))
    refine Cd.loop (α := Nat × Option Addr × Nat × List SlV) (fun z => [(0, .slice Af nf cf), (2, .pointer PF), (3, .pointer PB), (4, .pointer PG), (5, .pointer PU), (11, .slice Ax nx cx), (12, .int .i64 (nx : Int)), (13, .int .i64 (z.1 : Int))])
      (fun z w' => z.1 ≤ nx ∧ z.2.2.2.length = (cap (F ++ grU U k fl (xs.take z.1))).length ∧ St w0 w' (gwK PF z.2.1 z.2.2.1 z.2.2.2 (cap (F ++ grU U k fl (xs.take z.1))) PB n AR nR cR AD m d PG PU Au N cU rsU U ks1)) (fun z => nx - z.1) (0, A, c, rs) ⟨rfl, rfl, rfl, rfl, rfl, rfl, rfl, rfl, trivial⟩ ⟨Nat.zero_le _, by
        show rs.length = (cap (F ++ [])).length
        rw [List.append_nil, cap_all hF]; exact hrs, by
        show St w0 w (gwK PF A c rs (cap (F ++ [])) _ _ _ _ _ _ _ _ _ _ _ _ _ _ _ _)
        rw [List.append_nil, cap_all hF]; exact hS⟩ ?_
    clear hS hrs
    rintro ⟨j, A, c, rs⟩ e w1 ⟨hj, hrs, hS⟩
    dsimp only at hj hrs hS ⊢
    generalize hG : F ++ grU U k fl (xs.take j) = G at *
    refine Gbc O ?_
    refine Cd.cond_p _ O (fun h1 => ?_) (fun h1 => ?_)
    · have hjx : j < xs.length := by omega
      have hR := hx _ _ _ _ _ hS
      have hxm := hxr _ (gi_in hjx)
      have hGs : F ++ grU U k fl (xs.take (j + 1)) = G ++ (exU U k (gi xs (j : Int))).map fun y => fl ++ gi xs (j : Int) :: y := by
        rw [grU_take hjx, ← List.append_assoc, hG]
      have hlast : F ++ grU U k fl xs = G ++ grU U k fl (xs.drop j) := by
        rw [← hG, List.append_assoc]
        congr 1
        unfold grU
        rw [← List.flatMap_append, List.take_append_drop]
      refine Gao O (Ops.idx hR.2 O O O (by omega) (by omega) (Ops.ld_int hR O (by omega) O O (Gdo O ?_)))
      obtain ⟨E, hE⟩ : ∃ E : Nat, gi xs (j : Int) = E := ⟨(gi xs (j : Int)).toNat, by omega⟩
      rw [hE] at hGs hxm ⊢
      refine Ops.call (Clone_c Af nf cf fl _ (hf _ _ _ _ _ hS) (by omega)) O O O ?_
      rintro _ w2 ⟨A18, c18, rfl, hst⟩
      have hS2 := hS.call hst
      clear hst hS
      refine Gdo O (Ops.bs1I hS2 O O O ?_)
      intro A20 w3 hS3
      refine Ops.appI 1 hS3 O (hS3.rdI 0 O) O O O (by omega) (by omega) O ?_
      intro A21 c21 w4 hS4
      have hS4 : St w0 w4 (CkI 2 A21 (nf + 1) c21 (fl ++ [(E : Int)]) :: gwK PF A c rs (cap G) PB n AR nR cR AD m d PG PU Au N cU rsU U ks1) := hS4.tail
      clear hS3 hS2
      have hb1 : Rd w4 PF 1 (fun _ => .slice A (cap G).length c) := Rd.one (hS4.rd 1 O)
      refine Gdo O (Ops.ldf_s (j := 0) hb1 (by exact congrArg Value.pointer (ptrAt_zero _).symm) O O O O ?_)
      refine Ops.len O O (Gdc O ?_)
      refine Cd.cond_p _ O (fun h2 => ?_) (fun h2 => ?_)
      · refine Gar O (thenQ_r (Qk_ret ?_))
        refine ret0_r ?_
        refine ⟨O, A, c, rs, ?_, ?_⟩
        · rw [hlast, cap_full _ (by omega)]; exact hrs
        · rw [hlast, cap_full _ (by omega)]; exact hS4.tail
      have hcl := cap_few (l := G) (by omega)
      have hb2 := ((hS4.tail).sub (gw_sub ..)).rd 0 O
      by_cases hk0 : k = 0
      · --dup 2
        refine Gac O ?_
        refine Cd.draw [xS (A21) (nf + 1) (c21), xI ((nf + 1 : Nat) : Int), xP (ptrAt (PB) 0), xI ((n : Int)), xB (true), xB (true)] (by kernel_rfl) (by kernel_rfl) O (exL O) ?_ ?_
        · refine ⟨Dr O, ?_, fun _ _ hb _ _ => Ops.fld (hb2.below hb) O O O O inferInstance (Az O), fun _ _ hb _ _ => Ops.ldf_i (hb2.below hb) O O O O O (Az O), fun _ _ _ _ _ => Dk O (by exact congrArg Value.bool (decide_eq_true (by omega))), Dr O, trivial⟩
          · intro e1 w1 hb hp hun
            refine Ops.call (sizeI_c _ _ _ _) O O O ?_
            rintro _ w2 ⟨rfl, hst⟩
            subst hst
            refine Ops.n (d0 (by exact O))
        intro u w5 hb5 _
        have hS5 := hS4.later hb5
        clear hS4 hb2 hb1
        have hb1 : Rd w5 PF 1 (fun _ => .slice A (cap G).length c) := Rd.one (hS5.rd 1 O)
        refine Gec O (Cd.cond_t O (Gao O (Ops.ldf_s (j := 0) hb1 (by exact congrArg Value.pointer (ptrAt_zero _).symm) O O O O (Gdo O (Ops.bs1R hS5 O O O ?_)))))
        intro A41 w6 hS6
        refine Ops.appR 3 hS6 O (hS6.rdR 0 O) O O O (by omega) (by omega) O ?_
        intro A42 c42 w7 hS7
        refine Ops.st (i := 2) (j := 0) hS7 O (by exact congrArg Value.pointer (ptrAt_zero _).symm) O O (Nat.succ_pos _) ?_
        intro w8 hS8
        have hS9 : St w0 w8 (CkI 2 A21 (nf + 1) c21 (fl ++ [(E : Int)]) :: Bx 22 1 PF [.slice A42 ((cap G).length + 1) c42] :: CkR 32 A42 ((cap G).length + 1) c42 (rs ++ [⟨A21, nf + 1, c21⟩]) :: (rowsCk 2 rs (cap G) ++ _)) := hS8.tail
        have hS9 := hS9.perm (perm_f _ _ _ _ _)
        rw [← rowsCk_snoc hrs] at hS9
        have hex : (exU U k (E : Int)).map (fun y => fl ++ (E : Int) :: y) = [fl ++ [(E : Int)]] := by rw [hk0]; rfl
        rw [hex] at hGs
        have hcs := cap_snoc (l := G) (fl ++ [(E : Int)]) (by omega)
        refine Gdo O (Ops.add O O O (by omega) (Gdn O (tQ ?_)))
        refine ⟨(j + 1, A42, c42, rs ++ [⟨A21, nf + 1, c21⟩]), by show nx - (j + 1) < nx - j; omega, ⟨O, O, O, O, O, O, O, O, trivial⟩, by show j + 1 ≤ nx; omega, ?_, ?_⟩
        · show (rs ++ [_]).length = (cap (F ++ grU U k fl (xs.take (j + 1)))).length
          rw [hGs, hcs, List.length_append, List.length_append, hrs]; rfl
        · show St w0 w8 (gwK PF A42 c42 (rs ++ [_]) (cap (F ++ grU U k fl (xs.take (j + 1)))) PB n AR nR cR AD m d PG PU Au N cU rsU U ks1)
          rw [hGs, hcs]
          show St w0 w8 (Bx _ 1 PF [.slice A42 (cap G ++ [fl ++ [(E : Int)]]).length c42] :: (CkR _ A42 (cap G ++ [fl ++ [(E : Int)]]).length c42 _ :: _))
          rw [show (cap G ++ [fl ++ [(E : Int)]]).length = (cap G).length + 1 by simp]
          exact hS9
      · obtain ⟨k', rfl⟩ : ∃ k', k = k' + 1 := ⟨k - 1, by omega⟩
        rw [grU_next] at hGs
        refine Gac O ?_
        refine Cd.draw [xS (A21) (nf + 1) (c21), xI ((nf + 1 : Nat) : Int), xP (ptrAt (PB) 0), xI ((n : Int)), xB (false), xB (false)] (by kernel_rfl) (by kernel_rfl) O (exL O) ?_ ?_
        · refine ⟨Dr O, ?_, fun _ _ hb _ _ => Ops.fld (hb2.below hb) O O O O inferInstance (Az O), fun _ _ hb _ _ => Ops.ldf_i (hb2.below hb) O O O O O (Az O), fun _ _ _ _ _ => Dk O (by exact congrArg Value.bool (decide_eq_false (by omega))), Dr O, trivial⟩
          · intro e1 w1 hb hp hun
            refine Ops.call (sizeI_c _ _ _ _) O O O ?_
            rintro _ w2 ⟨rfl, hst⟩
            subst hst
            refine Ops.n (d0 (by exact O))
        intro u w5 hb5 _
        have hS5 := (hS4.later hb5).perm (gw_app ..)
        clear hS4 hb2 hb1
        have hb3 : Rd w5 PG 1 (fun _ => .func (.func 140) #[] #[.pointer PF, .pointer PB, .pointer PG, .pointer PU]) := Rd.one ((hS5.sub (gw_sub ..)).rd 1 O)
        have hb4 : Rd w5 PU 1 (fun _ => .slice Au N cU) := Rd.one ((hS5.sub (gw_sub ..)).rd 2 O)
        have hU := gw_u hUl hS5
        have hrowU := hU.at_ (i := (E : Int)) (by omega) (by omega)
        have hU5 := hUr E (by omega)
        refine Gec O (Cd.cond_f O ?_)
        refine Cd.drawP [6] [.ex (.func (.func 140) #[] #[.pointer PF, .pointer PB, .pointer PG, .pointer PU]), yS (A21) (nf + 1) (c21), yS (Au) (N) (cU), yI ((E : Int)), yP (ptrAt (Au) ((E : Int)).toNat), yS ((rg (rsU) ((E : Int))).a) ((rg (rsU) ((E : Int))).n) ((rg (rsU) ((E : Int))).c), .pr (fun v w' => ∃ A' c' rs', rs'.length = (cap (cap G ++ grU U k' (fl ++ [(E : Int)]) (gl U (E : Int)))).length ∧ St w0 w' (gwK PF A' c' rs' (cap (cap G ++ grU U k' (fl ++ [(E : Int)]) (gl U (E : Int)))) PB n AR nR cR AD m d PG PU Au N cU rsU U ks1))] (by kernel_rfl) (by kernel_rfl) (ly (ly (ly (ly (ly (ly (List.forall_mem_cons.2 ⟨Ye.lasts_pr (fun v w w' h hb => by obtain ⟨A', c', rs', hr', hT⟩ := h; exact ⟨A', c', rs', hr', hT.later hb⟩), (fun _ h => by cases h)⟩))))))) ?_ ?_
        · refine ⟨?_, DrP O, cP fun _ _ hb _ _ _ => Ops.ldf_s (j := 0) (hb4.below hb) (by exact congrArg Value.pointer (ptrAt_zero _).symm) O O O O (AzP O O), DrP O, cP fun _ _ hb _ _ _ => Ops.idx (hU.top.later hb).2 O O O (by omega) (by omega) (AzP O O), cP fun _ _ hb _ _ _ => Ops.ld_sl (hU.top.later hb) O (by omega) O O (AzP O O), ?_, trivial⟩
          · refine cP fun e1 w1 hb hp hun hq => ?_
            refine Ops.ld (Rd.below hb3 hb) (by exact congrArg Value.pointer (ptrAt_zero _).symm) (by decide) O O O ?_
            refine Ops.n (p0_ O (by exact O))
          · refine cPT fun e1 w1 hb hp hun hq => ?_
            refine Ops.call (ih k' (Nat.lt_succ_self _) (nf + 1) (rg rsU (E : Int)).n (fl ++ [(E : Int)]) (gl U (E : Int)) A21 (rg rsU (E : Int)).a c21 (rg rsU (E : Int)).c (CkI 2 A21 (nf + 1) c21 (fl ++ [(E : Int)]) :: ks1) _ A c rs (cap G) (by rw [List.length_append, hnf]; rfl) hrowU.1 (by omega) (by have := hrowU.1; omega) hU5.2 (fun w' A c rs F h => mem_rdI h) (fun w' A c rs F h => (gw_u hUl h).at_ (i := (E : Int)) (by omega) (by omega)) hrs (cap_len G) (hS5.later hb)) O O O ?_
            rintro _ w9 ⟨rfl, A', c', rs', hr', hS9⟩
            refine Ops.n ?_
            exact AfterU.dn O ⟨A', c', rs', hr', hS9.sub (gw_drop ..)⟩
        intro u w6 _ hu _ _
        obtain ⟨A', c', rs', hr', hT⟩ := hu 6 _ rfl (by kernel_rfl)
        rw [hcl, ← hGs] at hr' hT
        refine Geo O (Ops.add O O O (by omega) (Gdn O (tQ ?_)))
        exact ⟨(j + 1, A', c', rs'), by show nx - (j + 1) < nx - j; omega, ⟨O, O, O, O, O, O, O, O, trivial⟩, by show j + 1 ≤ nx; omega, hr', hT⟩
    · have hjx : j = xs.length := by omega
      rw [hjx, List.take_length] at hG
      rw [← hG] at hrs hS
      refine Gax O (thenQ_x (Gfn O ?_))
      refine ret0_n ?_
      exact ⟨O, A, c, rs, hrs, hS⟩
/-
 The program's flags of a poset, walked.
-/
def upE (n : Nat) (R : List Int) (B : List (List Int)) (E F x : Nat) : List Int :=
 if x < E then [] else (upsP R B (x : Int)).filter fun g => decide (alvP n R B g ∧ (x = E → g < (F : Int)))
def upL (n : Nat) (R : List Int) (B : List (List Int)) (E F : Nat) : List (List Int) := (List.range R.length).map (upE n R B E F)
def alE (n : Nat) (R : List Int) (B : List (List Int)) (E F x : Nat) : Bool :=
 if x < E then false else if x = E then decide (gi R (x : Int) = (n : Int) - 1 ∨ ∃ g ∈ upsP R B (x : Int), alvP n R B g ∧ g < (F : Int)) else decide (alvP n R B (x : Int))
def alL (n : Nat) (R : List Int) (B : List (List Int)) (E F : Nat) : List Bool := (List.range R.length).map (alE n R B E F)
section
variable {n : Nat} {R : List Int} {B : List (List Int)} {E F x : Nat}
theorem upL_len : (upL n R B E F).length = R.length := by simp [upL]
theorem alL_len : (alL n R B E F).length = R.length := by simp [alL]
theorem upL_at (h : x < R.length) : gl (upL n R B E F) (x : Int) = upE n R B E F x := by
 rw [gl_mem (by rw [upL_len]; exact h)]
 simp [upL]
theorem alL_at (h : x < R.length) : gb (alL n R B E F) (x : Int) = alE n R B E F x := by
 unfold gb
 rw [Int.toNat_natCast, List.getD_eq_getElem?_getD, List.getElem?_eq_getElem (by rw [alL_len]; exact h), Option.getD_some]
 simp [alL]
theorem upL_init : upL n R B R.length F = List.replicate R.length [] := by
 refine List.eq_replicate_iff.2 ⟨upL_len, fun y hy => ?_⟩
 obtain ⟨x, hx, rfl⟩ := List.mem_map.1 hy
 unfold upE
 rw [if_pos (List.mem_range.1 hx)]
theorem alL_init : alL n R B R.length F = List.replicate R.length false := by
 refine List.eq_replicate_iff.2 ⟨alL_len, fun y hy => ?_⟩
 obtain ⟨x, hx, rfl⟩ := List.mem_map.1 hy
 unfold alE
 rw [if_pos (List.mem_range.1 hx)]
theorem ups_gt (hP : PosP n R B) {e g : Int} (h : g ∈ upsP R B e) : e < g ∧ g < R.length := by
 obtain ⟨h1, _, h3⟩ := upsP_mem.1 h
 exact ⟨((hP.at_ h1.1 h1.2).2.1 e h3).1.2, h1.2⟩
theorem upL_start (hP : PosP n R B) (hE : E < R.length) : upL n R B E (E + 1) = upL n R B (E + 1) R.length := by
 refine List.map_congr_left fun x hx => ?_
 have hx := List.mem_range.1 hx
 unfold upE
 by_cases c1 : x < E
 ·rw [if_pos c1, if_pos (by omega)]
 rw [if_neg c1]
 by_cases c2 : x = E
 ·subst c2
  rw [if_pos (by omega), List.filter_eq_nil_iff]
  intro g hg h
  have h3 := (of_decide_eq_true h).2 O
  have := ups_gt hP hg
  omega
 rw [if_neg (by omega)]
 refine List.filter_congr fun g hg => decide_eq_decide.2 ?_
 have := ups_gt hP hg
 exact ⟨fun h => ⟨h.1, fun _ => by omega⟩, fun h => ⟨h.1, fun h => absurd h c2⟩⟩
theorem upL_skip (h : ¬ (alvP n R B (F : Int) ∧ (F : Int) ∈ upsP R B (E : Int))) : upL n R B E (F + 1) = upL n R B E F := by
 refine List.map_congr_left fun x hx => ?_
 unfold upE
 by_cases c1 : x < E
 ·rw [if_pos c1, if_pos c1]
 rw [if_neg c1, if_neg c1]
 refine List.filter_congr fun g hg => decide_eq_decide.2 ⟨fun h2 => ⟨h2.1, fun e => ?_⟩, fun h2 => ⟨h2.1, fun e => by have := h2.2 e; omega⟩⟩
 have h3 := h2.2 e
 subst e
 have : g ≠ (F : Int) := fun e => h ⟨e ▸ h2.1, e ▸ hg⟩
 omega
theorem upL_put (hE : E < R.length) (h : alvP n R B (F : Int) ∧ (F : Int) ∈ upsP R B (E : Int)) : (upL n R B E F).set E (gl (upL n R B E F) (E : Int) ++ [(F : Int)]) = upL n R B E (F + 1) := by
 apply List.ext_getElem (by rw [List.length_set, upL_len, upL_len])
 intro x h1 h2
 rw [upL_len] at h2
 have e2 : ∀ d' (hx : x < (upL n R B E d').length), (upL n R B E d')[x] = upE n R B E d' x := fun d' hx => by simp [upL]
 rw [List.getElem_set, e2 (F + 1) (by rw [upL_len]; exact h2), e2 F (by rw [upL_len]; exact h2)]
 by_cases c : E = x
 ·subst c
  rw [if_pos rfl, upL_at hE]
  unfold upE
  rw [if_neg (Nat.lt_irrefl _), if_neg (Nat.lt_irrefl _)]
  have hs := upsP_SA R B (E : Int)
  refine SA.eq ?_ (List.Pairwise.filter _ hs) fun y => ?_
  ·rw [SA, List.pairwise_append]
   refine ⟨List.Pairwise.filter _ hs, List.pairwise_singleton _ _, fun a ha b hb => ?_⟩
   obtain rfl := List.mem_singleton.1 hb
   exact (of_decide_eq_true (List.mem_filter.1 ha).2).2 O
  rw [List.mem_append, List.mem_filter, List.mem_filter, List.mem_singleton]
  simp only [decide_eq_true_eq]
  constructor
  ·rintro (⟨h3, h4, h5⟩ | rfl)
   ·exact ⟨h3, h4, fun e => by have := h5 e; omega⟩
   exact ⟨h.2, h.1, fun _ => by omega⟩
  rintro ⟨h3, h4, h5⟩
  by_cases e3 : y = (F : Int)
  ·exact .inr e3
  exact .inl ⟨h3, h4, fun e => by have := h5 e; omega⟩
 rw [if_neg c]
 unfold upE
 by_cases c1 : x < E
 ·rw [if_pos c1, if_pos c1]
 rw [if_neg c1, if_neg c1]
 exact List.filter_congr fun g hg => decide_eq_decide.2 ⟨fun h2 => ⟨h2.1, fun e => absurd e.symm c⟩, fun h2 => ⟨h2.1, fun e => absurd e.symm c⟩⟩
theorem alL_top {x : Nat} (hP : PosP n R B) (hx : x < R.length) (h : (gi R (x : Int) = (n : Int) - 1 ∨ ∃ g ∈ upsP R B (x : Int), alvP n R B g ∧ g < (R.length : Int))) : alvP n R B (x : Int) := by
 rcases h with h | ⟨g, h1, h2, _⟩
 ·exact alv_top h
 have h3 := (upsP_mem.1 h1)
 have := hP.ri h3.1.1 h3.1.2
 have := hP.ri (e := (x : Int)) (by omega) (by omega)
 exact (alv_up (by omega) (by omega)).2 ⟨g, h1, h2⟩
theorem alL_top' {x : Nat} (hP : PosP n R B) (hx : x < R.length) (h : alvP n R B (x : Int)) : (gi R (x : Int) = (n : Int) - 1 ∨ ∃ g ∈ upsP R B (x : Int), alvP n R B g ∧ g < (R.length : Int)) := by
 have := hP.ri (e := (x : Int)) (by omega) (by omega)
 by_cases c : gi R (x : Int) = (n : Int) - 1
 ·exact .inl c
 obtain ⟨g, h1, h2⟩ := (alv_up (by omega) (by omega)).1 h
 exact .inr ⟨g, h1, h2, (ups_gt hP h1).2⟩
theorem alL_start (hP : PosP n R B) (hE : E < R.length) : (alL n R B (E + 1) R.length).set E (decide (gi R (E : Int) = (n : Int) - 1)) = alL n R B E (E + 1) := by
 apply List.ext_getElem (by rw [List.length_set, alL_len, alL_len])
 intro x h1 h2
 rw [alL_len] at h2
 have e2 : ∀ e' d' (hx : x < (alL n R B e' d').length), (alL n R B e' d')[x] = alE n R B e' d' x := fun e' d' hx => by simp [alL]
 rw [List.getElem_set, e2 _ _ (by rw [alL_len]; exact h2), e2 _ _ (by rw [alL_len]; exact h2)]
 unfold alE
 by_cases c : E = x
 ·subst c
  rw [if_pos rfl, if_neg (Nat.lt_irrefl _), if_pos rfl]
  refine decide_eq_decide.2 ⟨fun h => .inl h, fun h => ?_⟩
  rcases h with h | ⟨g, h3, _, h4⟩
  ·exact h
  have := ups_gt hP h3; omega
 rw [if_neg c]
 by_cases c1 : x < E
 ·rw [if_pos (by omega), if_pos c1]
 rw [if_neg (by omega), if_neg c1, if_neg (show ¬ x = E from fun e => c e.symm)]
 split
 ·refine decide_eq_decide.2 ⟨fun h => alL_top hP h2 h, fun h => alL_top' hP h2 h⟩
 rfl
theorem alL_skip (h : ¬ (alvP n R B (F : Int) ∧ (F : Int) ∈ upsP R B (E : Int))) : alL n R B E (F + 1) = alL n R B E F := by
 refine List.map_congr_left fun x hx => ?_
 unfold alE
 by_cases c1 : x < E
 ·rw [if_pos c1, if_pos c1]
 rw [if_neg c1, if_neg c1]
 by_cases c2 : x = E
 ·subst c2
  rw [if_pos rfl, if_pos rfl]
  refine decide_eq_decide.2 (or_congr Iff.rfl ⟨?_, ?_⟩)
  ·rintro ⟨g, h1, h2, h3⟩
   have : g ≠ (F : Int) := fun e => h ⟨e ▸ h2, e ▸ h1⟩
   exact ⟨g, h1, h2, by omega⟩
  rintro ⟨g, h1, h2, h3⟩
  exact ⟨g, h1, h2, by omega⟩
 rw [if_neg c2, if_neg c2]
theorem alL_put (hE : E < R.length) (h : alvP n R B (F : Int) ∧ (F : Int) ∈ upsP R B (E : Int)) : (alL n R B E F).set E true = alL n R B E (F + 1) := by
 apply List.ext_getElem (by rw [List.length_set, alL_len, alL_len])
 intro x h1 h2
 rw [alL_len] at h2
 have e2 : ∀ e' d' (hx : x < (alL n R B e' d').length), (alL n R B e' d')[x] = alE n R B e' d' x := fun e' d' hx => by simp [alL]
 rw [List.getElem_set, e2 _ _ (by rw [alL_len]; exact h2), e2 _ _ (by rw [alL_len]; exact h2)]
 unfold alE
 by_cases c : E = x
 ·subst c
  rw [if_pos rfl, if_neg (Nat.lt_irrefl _), if_pos rfl]
  exact (decide_eq_true (.inr ⟨_, h.2, h.1, by omega⟩)).symm
 rw [if_neg c]
 by_cases c1 : x < E
 ·rw [if_pos c1, if_pos c1]
 rw [if_neg c1, if_neg c1, if_neg (fun e => c e.symm), if_neg (fun e => c e.symm)]
theorem alL_gt (hP : PosP n R B) (hEF : E < F) (hF : F < R.length) : gb (alL n R B E F) (F : Int) = decide (alvP n R B (F : Int)) := by
 rw [alL_at hF]
 unfold alE
 rw [if_neg (by omega), if_neg (by omega)]
theorem alL_fin (hP : PosP n R B) (hx : x < R.length) : gb (alL n R B 0 R.length) (x : Int) = decide (alvP n R B (x : Int)) := by
 rw [alL_at hx]
 unfold alE
 rw [if_neg (by omega)]
 split
 ·exact decide_eq_decide.2 ⟨fun h => alL_top hP hx h, fun h => alL_top' hP hx h⟩
 rfl
theorem upL_fin (hP : PosP n R B) (hx : x < R.length) : gl (upL n R B 0 R.length) (x : Int) = (upsP R B (x : Int)).filter fun g => decide (alvP n R B g) := by
 rw [upL_at hx]
 unfold upE
 rw [if_neg (by omega)]
 refine List.filter_congr fun g hg => decide_eq_decide.2 ⟨fun h => h.1, fun h => ⟨h, fun _ => (ups_gt hP hg).2⟩⟩
theorem flat_cg {α β : Type} {f g : α → List β} : ∀ {l : List α}, (∀ x ∈ l, f x = g x) → l.flatMap f = l.flatMap g
 | [], _ => rfl
 | a :: r, h => by rw [List.flatMap_cons, List.flatMap_cons, h a (List.mem_cons_self ..), flat_cg fun x hx => h x (List.mem_cons_of_mem _ hx)]
theorem exU_ext (hP : PosP n R B) : ∀ (k : Nat) (e : Int), 0 ≤ e → e < R.length → (gi R e).toNat + k = n - 1 → exU (upL n R B 0 R.length) k e = extP R B k e
 | 0, _, _, _, _ => rfl
 | k + 1, e, h0, h1, h2 => by
  have hr := hP.ri h0 h1
  obtain ⟨x, rfl⟩ : ∃ x : Nat, e = x := ⟨e.toNat, by omega⟩
  rw [exU, upL_fin hP (by omega), ups_prune hr.1 (by omega)]
  refine flat_cg fun f hf => ?_
  have hf := (upsP_mem.1 (List.mem_filter.1 hf).1)
  rw [exU_ext hP k f hf.1.1 hf.1.2 (by omega)]
theorem grU_flg (hn : 1 ≤ n) (hP : PosP n R B) : grU (upL n R B 0 R.length) (n - 1) [] ((botP R).filter fun f => decide (alvP n R B f)) = flgP n R B := by
 rw [bot_prune]
 unfold grU
 refine flat_cg fun e he => ?_
 have he := botP_mem.1 (List.mem_filter.1 he).1
 rw [exU_ext hP _ e he.1.1 he.1.2 (by omega)]
 rfl
theorem bot_take {m : Nat} (hm : m < R.length) : ((rngI (m + 1)).filter fun e => decide (gi R e = 0) && decide (alvP n R B e)) = ((rngI m).filter fun e => decide (gi R e = 0) && decide (alvP n R B e)) ++ (if gi R (m : Int) = 0 ∧ alvP n R B (m : Int) then [(m : Int)] else []) := by
 unfold rngI
 rw [List.range_succ, List.map_append, List.filter_append]
 congr 1
 by_cases c : gi R (m : Int) = 0 ∧ alvP n R B (m : Int)
 ·rw [if_pos c]; simp [c.1, c.2]
 rw [if_neg c]
 rw [List.filter_eq_nil_iff]
 intro a ha h
 obtain rfl := List.mem_singleton.1 ha
 simp at h
 exact c h
theorem bot_all : ((rngI R.length).filter fun e => decide (gi R e = 0) && decide (alvP n R B e)) = (botP R).filter fun f => decide (alvP n R B f) := by
 unfold botP
 rw [List.filter_filter]
 exact List.filter_congr fun x _ => Bool.and_comm _ _
end
/-
 The program's flags of a poset, walked.
-/
def flgL (n : Nat) (R : List Int) (B : List (List Int)) : List (List Int) := if (flgP n R B).length ≤ 400 then flgP n R B else []
def flgK (n : Nat) (R : List Int) (B : List (List Int)) : Int := if (flgP n R B).length ≤ 400 then 0 else 3
abbrev flK (A1 PU Au A22 : Option Addr) (n : Nat) (A D : Option Addr) (N cA cD : Nat) (al : List Bool) (rsU : List SlV) (U : List (List Int)) : List Ck :=
 CkB 4 A22 N N al :: Bx 22 1 PU [.slice Au N N] :: poB A1 n A N cA D N cD :: (mat 32 2 Au N N rsU U ++ [])
set_option maxHeartbeats 4000000 in
theorem flagsOf_c (n : Nat) (A D : Option Addr) (cA cD : Nat) (R : List Int) (rs : List SlV) (B : List (List Int)) (w : World) (hR : RdI w A R.length R) (hB : RowsI w D B.length rs B) (hP : PosP n R B) :
  Ret Tryz.prog 81 [.agg #[.int .i64 n, .slice A R.length cA, .slice D B.length cD]] w (AnsSS (flgL n R B) (flgK n R B) w) := by
 have hn := hP.n1
 have hbg := hP.big
 have hle := hP.len
 have hrow := fun e (h : e < R.length) => hP.row e h
 have hrl : ∀ e : Nat, e < R.length → (gl B (e : Int)).length ≤ 500 := fun e h => by
  have := nodup_le_int (N := R.length) (hrow e h).1.nodup fun x hx => ((hrow e h).2 x hx).1
  omega
 have hul : ∀ E F : Nat, (upL n R B E F).length = R.length := fun E F => upL_len
 have hal : ∀ E F : Nat, (alL n R B E F).length = R.length := fun E F => alL_len
 have hstL := fun E (h : E < R.length) => upL_start (n := n) hP h
 have hstA := fun E (h : E < R.length) => alL_start (n := n) hP h
 have hin0 := upL_init (n := n) (R := R) (B := B) (F := R.length)
 have hin1 := alL_init (n := n) (R := R) (B := B) (F := R.length)
 have hgt := fun E F (h : E < F) (hF : F < R.length) => alL_gt (n := n) hP h hF
 have hpu := fun E F (hE : E < R.length) h => upL_put (n := n) (R := R) (B := B) (E := E) (F := F) hE h
 have hpa := fun E F (hE : E < R.length) h => alL_put (n := n) (R := R) (B := B) (E := E) (F := F) hE h
 have hBR : RowsI w D R.length rs B := hle ▸ hB
 have hisP := isPosetT_c n A D cA cD R rs B w hR hB hP
 have hfin := fun x (h : x < R.length) => alL_fin (n := n) hP h
 have hupf := fun x (h : x < R.length) => upL_fin (n := n) hP h
 have hgrf := grU_flg (n := n) (by omega) hP
 have hbt := fun m (h : m < R.length) => bot_take (n := n) (B := B) h
 have hba := bot_all (n := n) (R := R) (B := B)
 have hupm := fun (e f : Int) => upsP_mem (R := R) (B := B) (e := e) (f := f)
 obtain ⟨N, hN⟩ : ∃ N, R.length = N := ⟨_, rfl⟩
 rw [hN] at hR hbg hle hrow hrl hBR hstL hstA hin0 hin1 hgt hpu hpa hfin hupf hgrf hbt hba
 simp only [hN] at hul hal hupm
 rw [hN, hle] at hisP ⊢
 refine Ret.of_cd Tryz.func81 O Tryz.ntmps81 O (post2 O) (Gbo O (Ops.box3T (St.refl w) O O ?_))
 intro A1 w1 hS1
 have h1 : Rd w1 A1 3 (fun j => [Value.int .i64 (n : Int), .slice A N cA, .slice D N cD].getD j undef) := hS1.rd 0 O
 refine Gdo O (Ops.ld_agg 2 h1 O O O ?_)
 refine Ops.call (isPosetT_c n A D cA cD R rs B w1 (by rw [hN]; exact hS1.oldI hR) (by rw [hle]; exact hS1.oldRows hBR) hP) O (by rw [hN, hle]; rfl) O ?_
 rintro _ w2 ⟨rfl, hst⟩
 have hS2 := hS1.later hst.below
 have h1 := Rd.below h1 hst.below
 clear hst hS1
 first | refine Ops.not_p rfl rfl ?_ | refine Ops.not rfl rfl ?_
 refine Gdc O (Cd.cond_f O (Gao O (Ops.fld h1 O O O O inferInstance (Ops.ldf_s h1 O O O O O (Ops.call (sizeI_c _ _ _ _) O O O ?_)))))
 rintro _ w2 ⟨rfl, rfl⟩
 refine Gdo O (Ops.mkR N hS2 O O (by omega) ?_)
 intro Au w3 hS3
 have hS3 : St w w3 ([CkR 32 Au N N (List.replicate N slNil), poB A1 n A N cA D N cD]) := hS3
 refine Ops.new (z := .slice none 0 0) hS3 O O ?_
 intro PU w4 hS4
 refine Ops.st (i := 0) (j := 0) hS4 O (by exact congrArg Value.pointer (ptrAt_zero _).symm) O O (Nat.succ_pos _) ?_
 intro w5 hS5
 have hS5 : St w w5 (Bx 22 1 PU [.slice Au N N] :: [CkR 32 Au N N (List.replicate N slNil), poB A1 n A N cA D N cD]) := hS5
 refine Gdo O (Ops.mkB (v := false) N hS5 O O (by omega) ?_)
 intro A22 w6 hS6
 have hS6 := nilRows (t := 2) N hS6
 have hS7 : St w w6 (flK A1 PU Au A22 n A D N cA cD (alL n R B N N) (List.replicate N slNil) (upL n R B N N)) := by
  rw [hin0, hin1]
  refine hS6.perm ?_
  classical
  refine List.perm_iff_count.2 fun z => ?_
  simp only [flK, mat, List.count_append, List.count_cons, List.count_nil]
  omega
 clear hS6 hS5 hS4 hS3 hS2 h1
 refine Gdo O (Ops.sub O O O (by omega) (Gdc O ?_))
 refine Cd.loop (α := Nat × List SlV) (fun z => [(1, .pointer A1), (4, .int .i64 (N : Int)), (5, .pointer PU), (6, .slice A22 N N), (7, .int .i64 ((z.1 : Int) - 1))]) (fun z w' => z.1 ≤ N ∧ z.2.length = N ∧ St w w' (flK A1 PU Au A22 n A D N cA cD (alL n R B z.1 N) z.2 (upL n R B z.1 N))) (fun z => z.1) (N, List.replicate N slNil) ⟨O, O, O, O, O, trivial⟩ ⟨Nat.le_refl _, by simp, hS7⟩ ?_
 clear hS7
 rintro ⟨E', rsU⟩ e w7 ⟨hE, hrU, hS⟩
 dsimp only at hE hrU hS ⊢
 refine Gbc O ?_
 refine Cd.cond_p _ O (fun h2 => ?_) (fun h2 => ?_)
 ·obtain ⟨E, rfl⟩ : ∃ E, E' = E + 1 := ⟨E' - 1, by omega⟩
  have hEN : E < N := by omega
  rw [show ((E + 1 : Nat) : Int) - 1 = (E : Int) by omega]
  have hR7 := hS.oldI hR
  have hal7 := hal (E + 1) N
  refine Gac O ?_
  refine Cd.drawP [12] [yS (A22) (N) (N), yI ((E : Int)), yP (ptrAt (A1) 1), yS (A) (N) (cA), yI ((E : Int)), yP (ptrAt (A) ((E : Int)).toNat), yI (gi (R) ((E : Int))), yP (ptrAt (A1) 0), yI ((n : Int)), yI (((n : Int)) - ((1 : Int))), yB (decide ((gi (R) ((E : Int))) = (((n : Int)) - ((1 : Int))))), yP (ptrAt (A22) ((E : Int)).toNat), .pr (fun _ w' => St w w' (flK A1 PU Au A22 n A D N cA cD ((alL n R B (E + 1) N).set E (decide (gi R (E : Int) = (n : Int) - 1))) rsU (upL n R B (E + 1) N)))] (by kernel_rfl) (by kernel_rfl) (ly (ly (ly (ly (ly (ly (ly (ly (ly (ly (ly (ly (List.forall_mem_cons.2 ⟨Ye.lasts_pr (fun v w w' h hb => h.later hb), (fun _ h => by cases h)⟩))))))))))))) ?_ ?_
  ·refine ⟨DrP O, DrP O, cP fun _ _ hb _ _ _ => Ops.fld ((hS.rd 2 O).below hb) O O O O inferInstance (AzP O O), cP fun _ _ hb _ _ _ => Ops.ldf_s ((hS.rd 2 O).below hb) O O O O O (AzP O O), DrP O, cP fun _ _ hb _ _ _ => Ops.idx (hR7.later hb).2 O O O (by omega) (by omega) (AzP O O), cP fun _ _ hb _ _ _ => Ops.ld_int (hR7.later hb) O (by omega) O O (AzP O O), cP fun _ _ hb _ _ _ => Ops.fld ((hS.rd 2 O).below hb) O O O O inferInstance (AzP O O), cP fun _ _ hb _ _ _ => Ops.ldf_i ((hS.rd 2 O).below hb) O O O O O (AzP O O), aP fun _ _ => Ops.sub O O O (by omega) (AzP O O), DrP O, cP fun _ _ hb _ _ _ => Ops.idx ((hS.rdB 0 O).later hb).2 O O O (by omega) (by omega) (AzP O O), ?_, trivial⟩
   refine cPT fun e1 w1 hb hp hun hq => ?_
   refine Ops.st_bool 0 (hS.later hb) O O O (by omega) ?_
   intro w6 hS6
   refine Ops.n ?_
   exact AfterU.st O hS6
  intro u w8 _ hu hu2 hu3
  have hS8 := hu 12 _ O (by kernel_rfl)
  rw [hstA E hEN, ← hstL E hEN] at hS8
  clear hS hu hu2 hu3
  refine Geo O (Ops.add O O O (by omega) (Gdc O ?_))
  refine Cd.loop (α := Nat × List SlV) (fun z => [(1, .pointer A1), (4, .int .i64 (N : Int)), (5, .pointer PU), (6, .slice A22 N N), (7, .int .i64 (E : Int)), (8, .int .i64 (z.1 : Int))]) (fun z w' => (E < z.1 ∧ z.1 ≤ N) ∧ z.2.length = N ∧ St w w' (flK A1 PU Au A22 n A D N cA cD (alL n R B E z.1) z.2 (upL n R B E z.1))) (fun z => N - z.1) (E + 1, rsU) ⟨O, O, O, O, O, O, trivial⟩ ⟨⟨Nat.lt_succ_self _, by show E + 1 ≤ N; omega⟩, hrU, hS8⟩ ?_
  clear hS8 hrU rsU
  rintro ⟨F, rsU⟩ e w9 ⟨⟨hEF, hFN⟩, hrU, hS⟩
  dsimp only at hEF hFN hrU hS ⊢
  refine Gbc O ?_
  refine Cd.cond_p _ O (fun h3 => ?_) (fun h3 => ?_)
  ·have hF : F < N := by omega
   have hR9 := hS.oldI hR
   have hB9 := hS.oldRows hBR
   have hal9 := hal E F
   have hgF := hgt E F hEF hF
   have hrF := hrow F hF
   have hup := hupm (E : Int) (F : Int)
   have hri := hP.ri (e := (E : Int)) (by omega) (by omega)
   have h1 : Rd w9 A1 3 (fun j => [Value.int .i64 (n : Int), .slice A N cA, .slice D N cD].getD j undef) := hS.rd 2 O
   have hcase : gb (alL n R B E F) (F : Int) = false ∨ (gb (alL n R B E F) (F : Int) = true ∧ ¬ gi R (F : Int) = gi R (E : Int) + 1) ∨ (gb (alL n R B E F) (F : Int) = true ∧ gi R (F : Int) = gi R (E : Int) + 1) := by
    cases gb (alL n R B E F) (F : Int) <;> simp [Decidable.em, Classical.em]
    exact (Classical.em _).symm
   have hskip : ¬ (alvP n R B (F : Int) ∧ (F : Int) ∈ upsP R B (E : Int)) → St w w9 (flK A1 PU Au A22 n A D N cA cD (alL n R B E (F + 1)) rsU (upL n R B E (F + 1))) := fun h => by
    rw [alL_skip h, upL_skip h]; exact hS
   rcases hcase with hg | ⟨hg, hr⟩ | ⟨hg, hr⟩
   ·
    have hno : ¬ (alvP n R B (F : Int) ∧ (F : Int) ∈ upsP R B (E : Int)) := fun h => by
     rw [hg] at hgF
     have := decide_eq_true h.1
     rw [← hgF] at this
     cases this
    refine Gac O ?_
    refine Cd.draw [xS (A22) (N) (N), xI ((F : Int)), xP (ptrAt (A22) ((F : Int)).toNat), xB (gb (alL n R B E F) ((F : Int))), xB (false), xU, xU, xU, xU, xU, xU, xU, xU, xU, xU, xU, xU, xB (false), xB (false), xU, xU, xU, xB (false)] (by kernel_rfl) (by kernel_rfl) O (exL O) ?_ ?_
    ·exact ⟨Dr O, Dr O, fun _ _ hb _ _ => Ops.idx ((hS.rdB 0 O).later hb).2 O O O (by omega) (by omega) (Az O), fun _ _ hb _ _ => Ops.ld_bool ((hS.rdB 0 O).later hb) O (by omega) O O (Az O), fun _ _ _ _ _ => Dk O (by exact congrArg Value.bool (hg)), Dr O, Dr O, Dr O, Dr O, Dr O, Dr O, Dr O, Dr O, Dr O, Dr O, Dr O, Dr O, Dr O, fun _ _ _ _ _ => Dk O (by exact congrArg Value.bool (O)), Dr O, Dr O, Dr O, Dr O, trivial⟩
    intro u w10 hb _
    refine Gec O (Cd.cond_f O ?_)
    refine Gao O (Ops.add O O O (by omega) (Gdn O (tQ ?_)))
    exact ⟨(F + 1, rsU), by show N - (F + 1) < N - F; omega, ⟨O, O, O, O, O, O, trivial⟩, ⟨Nat.lt_succ_of_lt hEF, hF⟩, hrU, (hskip hno).later hb⟩
   ·have hno : ¬ (alvP n R B (F : Int) ∧ (F : Int) ∈ upsP R B (E : Int)) := fun h => hr (hup.1 h.2).2.1
    refine Gac O ?_
    refine Cd.draw [xS (A22) (N) (N), xI ((F : Int)), xP (ptrAt (A22) ((F : Int)).toNat), xB (gb (alL n R B E F) ((F : Int))), xB (true), xP (ptrAt (A1) 1), xS (A) (N) (cA), xI ((F : Int)), xP (ptrAt (A) ((F : Int)).toNat), xI (gi (R) ((F : Int))), xP (ptrAt (A1) 1), xS (A) (N) (cA), xI ((E : Int)), xP (ptrAt (A) ((E : Int)).toNat), xI (gi (R) ((E : Int))), xI ((gi (R) ((E : Int))) + ((1 : Int))), xB (decide ((gi (R) ((F : Int))) = ((gi (R) ((E : Int))) + ((1 : Int))))), xB (decide ((gi (R) ((F : Int))) = ((gi (R) ((E : Int))) + ((1 : Int))))), xB (false), xU, xU, xU, xB (false)] (by kernel_rfl) (by kernel_rfl) O (exL O) ?_ ?_
    ·exact ⟨Dr O, Dr O, fun _ _ hb _ _ => Ops.idx ((hS.rdB 0 O).later hb).2 O O O (by omega) (by omega) (Az O), fun _ _ hb _ _ => Ops.ld_bool ((hS.rdB 0 O).later hb) O (by omega) O O (Az O), fun _ _ _ _ _ => Dk O (by exact congrArg Value.bool (hg)), fun _ _ hb _ _ => Ops.g O O O (Ops.fld (h1.below hb) O O O O inferInstance (Az O)), fun _ _ hb _ _ => Ops.g O O O (Ops.ldf_s (h1.below hb) O O O O O (Az O)), Dr O, fun _ _ hb _ _ => Ops.g O O O (Ops.idx (hR9.later hb).2 O O O (by omega) (by omega) (Az O)), fun _ _ hb _ _ => Ops.g O O O (Ops.ld_int (hR9.later hb) O (by omega) O O (Az O)), fun _ _ hb _ _ => Ops.g O O O (Ops.fld (h1.below hb) O O O O inferInstance (Az O)), fun _ _ hb _ _ => Ops.g O O O (Ops.ldf_s (h1.below hb) O O O O O (Az O)), Dr O, fun _ _ hb _ _ => Ops.g O O O (Ops.idx (hR9.later hb).2 O O O (by omega) (by omega) (Az O)), fun _ _ hb _ _ => Ops.g O O O (Ops.ld_int (hR9.later hb) O (by omega) O O (Az O)), fun _ _ _ _ _ => Ops.g O O O (Ops.add O O O (by omega) (Az O)), Dr O, Dr O, fun _ _ _ _ _ => Dk O (by exact congrArg Value.bool (decide_eq_false hr)), Dr O, Dr O, Dr O, Dr O, trivial⟩
    intro u w10 hb _
    refine Gec O (Cd.cond_f O ?_)
    refine Gao O (Ops.add O O O (by omega) (Gdn O (tQ ?_)))
    exact ⟨(F + 1, rsU), by show N - (F + 1) < N - F; omega, ⟨O, O, O, O, O, O, trivial⟩, ⟨Nat.lt_succ_of_lt hEF, hF⟩, hrU, (hskip hno).later hb⟩
   have ha : alvP n R B (F : Int) := of_decide_eq_true (hgF ▸ hg)
   refine Gac O ?_
   refine Cd.draw [xS (A22) (N) (N), xI ((F : Int)), xP (ptrAt (A22) ((F : Int)).toNat), xB (gb (alL n R B E F) ((F : Int))), xB (true), xP (ptrAt (A1) 1), xS (A) (N) (cA), xI ((F : Int)), xP (ptrAt (A) ((F : Int)).toNat), xI (gi (R) ((F : Int))), xP (ptrAt (A1) 1), xS (A) (N) (cA), xI ((E : Int)), xP (ptrAt (A) ((E : Int)).toNat), xI (gi (R) ((E : Int))), xI ((gi (R) ((E : Int))) + ((1 : Int))), xB (decide ((gi (R) ((F : Int))) = ((gi (R) ((E : Int))) + ((1 : Int))))), xB (decide ((gi (R) ((F : Int))) = ((gi (R) ((E : Int))) + ((1 : Int))))), xB (true), xI ((E : Int)), xI ((F : Int)), xB (decide ((E : Int) ∈ gl B (F : Int))), xB (decide ((E : Int) ∈ gl B (F : Int)))] (by kernel_rfl) (by kernel_rfl) O (exL O) ?_ ?_
   ·refine ⟨Dr O, Dr O, fun _ _ hb _ _ => Ops.idx ((hS.rdB 0 O).later hb).2 O O O (by omega) (by omega) (Az O), fun _ _ hb _ _ => Ops.ld_bool ((hS.rdB 0 O).later hb) O (by omega) O O (Az O), fun _ _ _ _ _ => Dk O (by exact congrArg Value.bool (hg)), fun _ _ hb _ _ => Ops.g O O O (Ops.fld (h1.below hb) O O O O inferInstance (Az O)), fun _ _ hb _ _ => Ops.g O O O (Ops.ldf_s (h1.below hb) O O O O O (Az O)), Dr O, fun _ _ hb _ _ => Ops.g O O O (Ops.idx (hR9.later hb).2 O O O (by omega) (by omega) (Az O)), fun _ _ hb _ _ => Ops.g O O O (Ops.ld_int (hR9.later hb) O (by omega) O O (Az O)), fun _ _ hb _ _ => Ops.g O O O (Ops.fld (h1.below hb) O O O O inferInstance (Az O)), fun _ _ hb _ _ => Ops.g O O O (Ops.ldf_s (h1.below hb) O O O O O (Az O)), Dr O, fun _ _ hb _ _ => Ops.g O O O (Ops.idx (hR9.later hb).2 O O O (by omega) (by omega) (Az O)), fun _ _ hb _ _ => Ops.g O O O (Ops.ld_int (hR9.later hb) O (by omega) O O (Az O)), fun _ _ _ _ _ => Ops.g O O O (Ops.add O O O (by omega) (Az O)), Dr O, Dr O, fun _ _ _ _ _ => Dk O (by exact congrArg Value.bool (decide_eq_true hr)), Dr O, Dr O, ?_, Dr O, trivial⟩
    intro e1 w1 hb hp hun
    refine Ops.g O O O ?_
    refine Ops.call (isBelow_c A1 A D cA cD n R rs B (E : Int) (F : Int) _ (by rw [hN, hle]; exact Rd.below h1 hb) (by rw [hle]; exact hB9.later hb) (by omega) hrF.1 (by have := hrl F hF; omega)) O O O ?_
    rintro _ w2 ⟨rfl, hst⟩
    subst hst
    refine Ops.n (d0 (by exact O))
   intro u w10 hb _
   have hS10 := hS.later hb
   refine Gec O ?_
   refine Cd.cond_p _ O (fun h4 => ?_) (fun h4 => ?_)
   ·have hyes : alvP n R B (F : Int) ∧ (F : Int) ∈ upsP R B (E : Int) := ⟨ha, hup.2 ⟨by omega, hr, h4⟩⟩
    have hul9 := hul E F
    have hRM : RowsI w10 Au N rsU (upL n R B E F) := by
     have h9 := hS10.sub (show (mat 32 2 Au N N rsU (upL n R B E F)).Sublist _ from (((List.sublist_append_left _ _).cons _).cons _).cons _)
     exact h9.rowsI1 hul9
    have hrE := (hRM.at_ (i := (E : Int)) (by omega) (by omega)).1
    have hrn : (rg rsU (E : Int)).n ≤ 500 := by
     rw [← hrE, upL_at (by omega)]
     unfold upE
     split
     ·exact Nat.zero_le _
     refine Nat.le_trans (List.length_filter_le _ _) ?_
     have := nodup_le_int (N := R.length) (upsP_SA R B (E : Int)).nodup fun x hx => (upsP_mem.1 hx).1
     omega
    have hbU : Rd w10 PU 1 (fun _ => .slice Au N N) := Rd.one (hS10.rd 1 O)
    have hgQ : ∀ A9 : Option Addr, (CkI 2 A9 1 1 [(F : Int)] :: flK A1 PU Au A22 n A D N cA cD (alL n R B E F) rsU (upL n R B E F))[4 + 1 + E]? = some (CkI 2 (rg rsU (E : Int)).a (rg rsU (E : Int)).n (rg rsU (E : Int)).c (gl (upL n R B E F) (E : Int))) := fun A9 => mat_get (t1 := 32) (t2 := 2) (A := Au) (n := N) (c := N) (rs := rsU) (xss := upL n R B E F) (pre := [CkI 2 A9 1 1 [(F : Int)], CkB 4 A22 N N (alL n R B E F), Bx 22 1 PU [.slice Au N N], poB A1 n A N cA D N cD]) (ks := []) (i := E) (by omega) (by omega)
    have hap := fun (A9 : Option Addr) (s : SlV) (xs : List Int) => mat_apP (t1 := 32) (t2 := 2) (A := Au) (n := N) (c := N) (rs := rsU) (xss := upL n R B E F) (ks := []) (pre := [CkI 2 A9 1 1 [(F : Int)], CkB 4 A22 N N (alL n R B E F), Bx 22 1 PU [.slice Au N N], poB A1 n A N cA D N cD]) (i := E) s xs (by omega) (by omega)
    clear hS
    refine Gac O ?_
    refine Cd.drawP [8, 10] [yS Au N N, yI ((E : Int)), yS (Au) (N) (N), yI ((E : Int)), yP (ptrAt (Au) ((E : Int)).toNat), yS ((rg (rsU) ((E : Int))).a) ((rg (rsU) ((E : Int))).n) ((rg (rsU) ((E : Int))).c), yI ((F : Int)), .pr (fun v w' => ∃ A9, v = .slice A9 1 1 ∧ St w w' (CkI 2 A9 1 1 [(F : Int)] :: flK A1 PU Au A22 n A D N cA cD (alL n R B E F) rsU (upL n R B E F))), .pr (fun v w' => ∃ AZ cZ, v = .slice AZ ((rg rsU (E : Int)).n + 1) cZ ∧ St w w' (CkB 4 A22 N N (alL n R B E F) :: Bx 22 1 PU [.slice Au N N] :: poB A1 n A N cA D N cD :: (CkR 32 Au N N rsU :: (rowsCk 2 (rsU.set E ⟨AZ, (rg rsU (E : Int)).n + 1, cZ⟩) ((upL n R B E F).set E (gl (upL n R B E F) (E : Int) ++ [(F : Int)])) ++ [])))), yP (ptrAt Au ((E : Int)).toNat), .pr (fun _ w' => ∃ AZ cZ, St w w' (flK A1 PU Au A22 n A D N cA cD (alL n R B E F) (rsU.set E ⟨AZ, (rg rsU (E : Int)).n + 1, cZ⟩) ((upL n R B E F).set E (gl (upL n R B E F) (E : Int) ++ [(F : Int)]))))] (by kernel_rfl) (by kernel_rfl) (ly (ly (ly (ly (ly (ly (ly (List.forall_mem_cons.2 ⟨Ye.lasts_pr (fun v w w' h hb => by obtain ⟨A9, hv, hT⟩ := h; exact ⟨A9, hv, hT.later hb⟩), (List.forall_mem_cons.2 ⟨Ye.lasts_pr (fun v w w' h hb => by obtain ⟨AZ, cZ, hv, hT⟩ := h; exact ⟨AZ, cZ, hv, hT.later hb⟩), (ly (List.forall_mem_cons.2 ⟨Ye.lasts_pr (fun v w w' h hb => by obtain ⟨AZ, cZ, hT⟩ := h; exact ⟨AZ, cZ, hT.later hb⟩), (fun _ h => by cases h)⟩))⟩)⟩)))))))) ?_ ?_
    ·refine ⟨?_, DrP O, cP fun _ _ hb _ _ _ => Ops.ldf_s (j := 0) (hbU.below hb) (by exact congrArg Value.pointer (ptrAt_zero _).symm) O O O O (AzP O O), DrP O, cP fun _ _ hb _ _ _ => Ops.idx (hRM.top.later hb).2 O O O (by omega) (by omega) (AzP O O), cP fun _ _ hb _ _ _ => Ops.ld_sl (hRM.top.later hb) O (by omega) O O (AzP O O), DrP O, ?_, ?_, ?_, ?_, trivial⟩
     ·intro e1 w1 cc hlo hhi hb0 hp hun hq; show Ops _ _ _ _ _ _ _
      have hX : Rd w1 PU 1 (fun _ => .slice Au N N) := by { have hhi := le_of_hi hhi (b := 1) (by kernel_rfl); rcases (show cc = 0 ∨ cc = 1 by omega) with h | h; { exact Rd.below hbU (hb0 h) }; { subst h; obtain ⟨AZ, cZ, _, hT⟩ := hq 8 _ _ (by kernel_rfl) (by kernel_rfl) (by kernel_rfl) rfl rfl (by kernel_rfl); exact Rd.one (hT.rd 1 rfl) } }
      refine Ops.ldf_s (j := 0) hX (by exact congrArg Value.pointer (ptrAt_zero _).symm) O O O O (Ops.n (p0_ O (by exact O)))
     ·refine cP fun e1 w1 hb hp hun hq => ?_
      refine Ops.bs1I (St.refl _) O O O ?_
      intro A9 w9 hst
      refine Ops.n ?_
      exact AfterP.dn O hst.below ⟨A9, O, (hS10.later hb).call hst⟩
     ·refine cPT fun e1 w1 hb hp hun hq => ?_
      obtain ⟨A9, h78, hT⟩ := (hp 7 _ _ (by kernel_rfl) rfl rfl (by kernel_rfl))
      refine Ops.appI (4 + 1 + E) hT (hgQ A9) (hT.rdI 0 O) O (by exact h78) O (by omega) (by omega) O ?_
      intro AZ cZ wZ hZ
      have hZ := (hap A9 ⟨AZ, (rg rsU (E : Int)).n + 1, cZ⟩ (gl (upL n R B E F) (E : Int) ++ [(F : Int)])) ▸ hZ
      refine Ops.n ?_
      exact AfterU.dn O ⟨AZ, cZ, O, hZ.tail⟩
     ·intro e1 w1 cc hlo hhi hb0 hp hun hq; show Ops _ _ _ _ _ _ _
      have hX : RdR w1 Au N rsU := by { have hhi := le_of_hi hhi (b := 1) (by kernel_rfl); rcases (show cc = 0 ∨ cc = 1 by omega) with h | h; { exact hRM.top.later (hb0 h) }; { subst h; obtain ⟨AZ, cZ, _, hT⟩ := hq 8 _ _ (by kernel_rfl) (by kernel_rfl) (by kernel_rfl) rfl rfl (by kernel_rfl); exact hT.rdR 3 rfl } }
      refine Ops.idx hX.2 O O O (by omega) (by omega) (Ops.n (p0_ O (by exact O)))
     refine dPT 1 fun e1 w1 hp hun hq => ?_
     have hph := hp 8 _ _ (by kernel_rfl) O O (by kernel_rfl)
     obtain ⟨AZ, cZ, h79, hT⟩ := hph
     refine Ops.st_sl (te := 32) (n := N) (c := N) (A := Au) (xs := rsU) 3 hT O O (by exact h79) (by omega) ?_
     intro wY hY
     refine Ops.n ?_
     exact AfterU.st O ⟨AZ, cZ, hY⟩
    intro u w14 _ hu _ _
    obtain ⟨AZ, cZ, hT⟩ := hu 10 _ rfl (by kernel_rfl)
    rw [hpu E F hEN hyes] at hT
    refine Geo O (Ops.idx (hT.rdB 0 O).2 O O O (by omega) (by omega) (Ops.st_bool 0 hT O O O (by omega) ?_))
    intro w15 hS15
    rw [Int.toNat_natCast, hpa E F hEN hyes] at hS15
    refine Gdo O (Ops.add O O O (by omega) (Gdn O (tQ ?_)))
    exact ⟨(F + 1, _), by show N - (F + 1) < N - F; omega, ⟨O, O, O, O, O, O, trivial⟩, ⟨Nat.lt_succ_of_lt hEF, hF⟩, by simp [hrU], hS15⟩
   have hno : ¬ (alvP n R B (F : Int) ∧ (F : Int) ∈ upsP R B (E : Int)) := fun h => h4 (hup.1 h.2).2.2
   refine Gao O (Ops.add O O O (by omega) (Gdn O (tQ ?_)))
   exact ⟨(F + 1, rsU), by show N - (F + 1) < N - F; omega, ⟨O, O, O, O, O, O, trivial⟩, ⟨Nat.lt_succ_of_lt hEF, hF⟩, hrU, (hskip hno).later hb⟩
  have hF : F = N := by omega
  subst hF
  refine Gax O (thenQ_x (Gfo O (Ops.sub O O O (by omega) (Gdn O (tQ ?_)))))
  exact ⟨(E, rsU), by show E < E + 1; omega, ⟨O, O, O, O, O, trivial⟩, by show E ≤ F; omega, hrU, hS⟩
 obtain rfl : E' = 0 := by omega
 refine Gax O (thenQ_x (Gfo O ?_))
 refine Ops.new (z := .slice none 0 0) hS O O ?_
 intro PF w8 hS8
 refine Gdo O (Ops.new (z := .nilFunc) hS8 O O ?_)
 intro PG w9 hS9
 refine Gdo O (Ops.fn4 O O O O O (Ops.st (i := 0) (j := 0) hS9 O (by exact congrArg Value.pointer (ptrAt_zero _).symm) O O (Nat.succ_pos _) ?_))
 intro w10 hS10
 have hS10 := (hS10.nil 2)
 clear hS9 hS8 hS
 refine Gdc O ?_
 refine Cd.loop (α := Nat × Option Addr × Nat) (fun z => [(1, .pointer A1), (4, .int .i64 (N : Int)), (6, .slice A22 N N), (9, .pointer PF), (10, .pointer PG), (11, .slice z.2.1 ((rngI z.1).filter fun e => decide (gi R e = 0) && decide (alvP n R B e)).length z.2.2), (85, .int .i64 (N : Int)), (86, .int .i64 (z.1 : Int))]) (fun z w' => z.1 ≤ N ∧ St w w' (CkI 2 z.2.1 ((rngI z.1).filter fun e => decide (gi R e = 0) && decide (alvP n R B e)).length z.2.2 ((rngI z.1).filter fun e => decide (gi R e = 0) && decide (alvP n R B e)) :: Bx 121 1 PG [.func (.func 140) #[] #[.pointer PF, .pointer A1, .pointer PG, .pointer PU]] :: Bx 22 1 PF [.slice none 0 0] :: flK A1 PU Au A22 n A D N cA cD (alL n R B 0 N) rsU (upL n R B 0 N))) (fun z => N - z.1) (0, none, 0) ⟨O, O, O, O, O, O, O, O, trivial⟩ ⟨Nat.zero_le _, hS10⟩ ?_
 clear hS10
 rintro ⟨j, AF, cF⟩ e w11 ⟨hj, hS⟩
 dsimp only at hj hS ⊢
 have hfl : ((rngI j).filter fun e => decide (gi R e = 0) && decide (alvP n R B e)).length ≤ 500 := by
  refine Nat.le_trans (List.length_filter_le _ _) ?_
  rw [rngI, List.length_map, List.length_range]; omega
 refine Gbc O ?_
 refine Cd.cond_p _ O (fun h3 => ?_) (fun h3 => ?_)
 ·have hjN : j < N := by omega
  have hbj := hbt j hjN
  have hR11 := hS.oldI hR
  have h1 : Rd w11 A1 3 (fun j => [Value.int .i64 (n : Int), .slice A N cA, .slice D N cD].getD j undef) := hS.rd 5 O
  have hA11 : RdB w11 A22 N (alL n R B 0 N) := hS.rdB 3 O
  have hfj := hfin j hjN
  have hskip : ¬ (gi R (j : Int) = 0 ∧ alvP n R B (j : Int)) → ((rngI (j + 1)).filter fun e => decide (gi R e = 0) && decide (alvP n R B e)) = ((rngI j).filter fun e => decide (gi R e = 0) && decide (alvP n R B e)) := fun h => by
   rw [hbj, if_neg h, List.append_nil]
  refine Gao O (Ops.fld h1 O O O O inferInstance (Ops.ldf_s h1 O O O O O (Gdo O (Ops.idx hR11.2 O O O (by omega) (by omega) (Ops.ld_int hR11 O (by omega) O O (Gdo O ?_))))))
  refine Ops.split_p 95 O (fun h4 => ?_) (fun h4 => ?_)
  ·refine Ops.g O O O (Gdo O (Ops.g O O O (Gdo O (Ops.g O O O ?_))))
   refine Ops.idx hA11.2 O O O (by omega) (by omega) (Ops.g O O O (Ops.ld_bool hA11 O (by omega) O O (Gdc O ?_)))
   rw [hfj]
   refine Cd.cond_p _ O (fun h5 => ?_) (fun h5 => ?_)
   ·rw [if_pos ⟨h4, h5⟩] at hbj
    refine Gao O (Ops.bs1I hS O O O ?_)
    intro A9 w12 hS12
    refine Ops.appI 1 hS12 O (hS12.rdI 0 O) O O O (by omega) (by omega) O ?_
    intro AZ cZ w13 hS13
    have hS13 := hS13.tail
    refine Gdo O (Ops.add O O O (by omega) (Gdn O (tQ ?_)))
    refine ⟨(j + 1, AZ, cZ), by show N - (j + 1) < N - j; omega, ⟨O, O, O, O, O, ?_, O, O, trivial⟩, by show j + 1 ≤ N; omega, ?_⟩
    ·show Value.slice _ _ _ = _
     rw [hbj, List.length_append]; rfl
    show St w w13 (CkI _ _ (((rngI (j + 1)).filter _).length) _ ((rngI (j + 1)).filter _) :: _)
    rw [hbj, List.length_append]
    exact hS13
   refine Gao O (Ops.add O O O (by omega) (Gdn O (tQ ?_)))
   refine ⟨(j + 1, AF, cF), by show N - (j + 1) < N - j; omega, ⟨O, O, O, O, O, ?_, O, O, trivial⟩, by show j + 1 ≤ N; omega, ?_⟩
   ·show Value.slice _ _ _ = _
    rw [hskip (fun h => h5 h.2)]
   show St w w11 (CkI _ _ (((rngI (j + 1)).filter _).length) _ ((rngI (j + 1)).filter _) :: _)
   rw [hskip (fun h => h5 h.2)]
   exact hS
  refine Ops.k O O O O O (Ops.k O O O O O (Ops.k O O O O O (Ops.k O O O O O (Gdc O ?_))))
  refine Cd.cond_f O ?_
  refine Gao O (Ops.add O O O (by omega) (Gdn O (tQ ?_)))
  refine ⟨(j + 1, AF, cF), by show N - (j + 1) < N - j; omega, ⟨O, O, O, O, O, ?_, O, O, trivial⟩, by show j + 1 ≤ N; omega, ?_⟩
  ·show Value.slice _ _ _ = _
   rw [hskip (fun h => h4 h.1)]
  show St w w11 (CkI _ _ (((rngI (j + 1)).filter _).length) _ ((rngI (j + 1)).filter _) :: _)
  rw [hskip (fun h => h4 h.1)]
  exact hS
 obtain rfl : j = N := by omega
 rw [hba] at hS hfl ⊢
 generalize hfi : ((botP R).filter fun f => decide (alvP n R B f)) = fi at *
 have hfim : ∀ x ∈ fi, 0 ≤ x ∧ x < (j : Int) := fun x hx => by
  rw [← hfi] at hx
  have := (botP_mem.1 (List.mem_filter.1 hx).1).1
  omega
 have hb5 : Rd w11 PG 1 (fun _ => .func (.func 140) #[] #[.pointer PF, .pointer A1, .pointer PG, .pointer PU]) := Rd.one (hS.rd 1 O)
 have hSG : St w w11 (gwK PF none 0 [] [] A1 n A j cA D j cD PG PU Au j j rsU (upL n R B 0 j) [CkI 2 AF fi.length cF fi, CkB 4 A22 j j (alL n R B 0 j)]) := by
  have h9 := (hS.perm (show List.Perm _ (Bx 22 1 PF [.slice none 0 0] :: (poB A1 n A j cA D j cD :: Bx 121 1 PG [.func (.func 140) #[] #[.pointer PF, .pointer A1, .pointer PG, .pointer PU]] :: Bx 22 1 PU [.slice Au j j] :: (mat 32 2 Au j j rsU (upL n R B 0 j) ++ [CkI 2 AF fi.length cF fi, CkB 4 A22 j j (alL n R B 0 j)]))) from by
   classical
   refine List.perm_iff_count.2 fun z => ?_
   simp only [flK, List.count_append, List.count_cons, List.count_nil]
   omega))
  exact (h9.nil 32).perm (List.Perm.swap _ _ _)
 clear hS
 have hU5 : ∀ e : Nat, e < j → (gl (upL n R B 0 j) (e : Int)).length ≤ 500 ∧ ∀ x ∈ gl (upL n R B 0 j) (e : Int), 0 ≤ x ∧ x < (j : Int) := fun e he => by
  rw [hupf e he]
  refine ⟨Nat.le_trans (List.length_filter_le _ _) ?_, fun x hx => ?_⟩
  ·have := nodup_le_int (N := R.length) (upsP_SA R B (e : Int)).nodup fun x hx => (upsP_mem.1 hx).1
   omega
  have := (upsP_mem.1 (List.mem_filter.1 hx).1).1
  omega
 refine Gax O (thenQ_x (Gfo O ?_))
 refine Ops.ld hb5 (by exact congrArg Value.pointer (ptrAt_zero _).symm) (by decide) O O O ?_
 refine Gdo O ?_
 refine Ops.call (grow_c w n (by omega) PF A1 A D PG PU Au j cA j cD j j rsU (upL n R B 0 j) (hul 0 j) (by omega) hU5 (n - 1) 0 fi.length [] fi none AF 0 cF [CkI 2 AF fi.length cF fi, CkB 4 A22 j j (alL n R B 0 j)] _ none 0 [] [] O O (by omega) hfl hfim (fun _ _ _ _ _ _ => RdI.nil) (fun w' A c rs F h => mem_rdI h) O (Nat.zero_le _) hSG) O O O ?_
 rintro _ w12 ⟨rfl, A', c', rs', hr', hS⟩
 rw [List.nil_append, hgrf] at hr' hS
 have hb1 : Rd w12 PF 1 (fun _ => .slice A' (cap (flgP n R B)).length c') := Rd.one (hS.rd 0 O)
 refine Gdo O (Ops.ldf_s (j := 0) hb1 (by exact congrArg Value.pointer (ptrAt_zero _).symm) O O O O ?_)
 refine Ops.len O O (Gdc O ?_)
 have hcl := cap_len (flgP n R B)
 have hcf := cap_few' (l := flgP n R B)
 refine Cd.cond_p _ O (fun h4 => ?_) (fun h4 => ?_)
 ·have hno : ¬ (flgP n R B).length ≤ 400 := fun h => by have := hcf.2 h; omega
  refine Gar O (ret2_si O O ?_)
  unfold flgL flgK
  rw [if_neg hno, if_neg hno]
  exact AnsSS.none hS
 have hyes : (flgP n R B).length ≤ 400 := hcf.1 (by omega)
 rw [cap_all (by omega)] at hr' hS hb1 ⊢
 refine Gao O (Ops.ldf_s (j := 0) hb1 (by exact congrArg Value.pointer (ptrAt_zero _).symm) O O O O (Gdr O (ret2_si O O ?_)))
 unfold flgL flgK
 rw [if_pos hyes, if_pos hyes]
 exact ⟨A', c', rs', O, hr', St.matNil (pre := []) (hS.sub ((List.sublist_append_left _ _).cons _))⟩
end Go.Proofs.YtopgfgdgfjddpaaGreatDoor.Vc
/-
 Plain mathematics: labels of the parts into which points that hang together fall; flags that hang together.
-/
namespace Go.Proofs.YtopgfgdgfjddpaaGreatDoor.Vc
/-! labels: a point has the least one of its part -/
structure Per (N : Nat) (K : Nat → Nat → Prop) : Prop where
 sym : ∀ a b, K a b → K b a
 trn : ∀ a b c, K a b → K b c → K a c
 rng : ∀ a b, K a b → a < N ∧ b < N
def LblP (N : Nat) (K : Nat → Nat → Prop) (f : Nat) (L : List Int) : Prop :=
 L.length = N ∧ ∀ x : Nat, x < N → (0 ≤ gi L (x : Int) → ∃ r : Nat, gi L (x : Int) = r ∧ r < f ∧ K r x ∧ ∀ c, K c x → r ≤ c) ∧ (gi L (x : Int) < 0 → gi L (x : Int) = -1 ∧ ∀ c, c < f → ¬ K c x)
theorem LblP.zero (N : Nat) (K : Nat → Nat → Prop) : LblP N K 0 (List.replicate N (-1)) :=
 ⟨by simp, fun x hx => by
  rw [gi_rep (by omega) (by omega)]
  exact ⟨fun h => absurd h (by omega), fun _ => ⟨O, fun c hc => absurd hc (by omega)⟩⟩⟩
theorem LblP.skip {N : Nat} {K : Nat → Nat → Prop} (hK : Per N K) {f : Nat} {L : List Int} (h : LblP N K f L) (hf : f < N) (h0 : 0 ≤ gi L (f : Int) ∨ ¬ K f f) : LblP N K (f + 1) L := by
 refine ⟨h.1, fun x hx => ⟨fun h1 => ?_, fun h1 => ?_⟩⟩
 ·obtain ⟨r, h2, h3, h4⟩ := (h.2 x hx).1 h1
  exact ⟨r, h2, by omega, h4⟩
 obtain ⟨h2, h3⟩ := (h.2 x hx).2 h1
 refine ⟨h2, fun c hc hk => ?_⟩
 by_cases e : c = f
 ·subst e
  rcases h0 with h0 | h0
  ·obtain ⟨r, h4, h5, h6, _⟩ := (h.2 c hf).1 h0
   exact h3 r h5 (hK.trn _ _ _ h6 hk)
  exact h0 (hK.trn _ _ _ hk (hK.sym _ _ hk))
 exact h3 c (by omega) hk
theorem LblP.paint {N : Nat} {K : Nat → Nat → Prop} (hK : Per N K) {f : Nat} {L L' : List Int} (h : LblP N K f L) (hf : f < N) (h0 : gi L (f : Int) < 0) (hl : L'.length = N) (hp : ∀ x : Nat, x < N → (K f x → gi L' (x : Int) = f) ∧ (¬ K f x → gi L' (x : Int) = gi L (x : Int))) : LblP N K (f + 1) L' := by
 refine ⟨hl, fun x hx => ?_⟩
 have h9 := (h.2 f hf).2 h0
 by_cases hk : K f x
 ·rw [(hp x hx).1 hk]
  refine ⟨fun _ => ⟨f, O, by omega, hk, fun c hc => ?_⟩, fun h => absurd h (by omega)⟩
  refine Nat.le_of_not_lt fun hlt => h9.2 c hlt (hK.trn _ _ _ hc (hK.sym _ _ hk))
 rw [(hp x hx).2 hk]
 refine ⟨fun h1 => ?_, fun h1 => ?_⟩
 ·obtain ⟨r, h2, h3, h4⟩ := (h.2 x hx).1 h1
  exact ⟨r, h2, by omega, h4⟩
 obtain ⟨h2, h3⟩ := (h.2 x hx).2 h1
 refine ⟨h2, fun c hc hk2 => ?_⟩
 by_cases e : c = f
 ·subst e; exact hk hk2
 exact h3 c (by omega) hk2
theorem LblP.done {N : Nat} {K : Nat → Nat → Prop} (hK : Per N K) {L : List Int} (h : LblP N K N L) {a b : Nat} (ha : K a a) (hb : K b b) : gi L (a : Int) = gi L (b : Int) ↔ K a b := by
 have get : ∀ x, K x x → ∃ r : Nat, gi L (x : Int) = r ∧ K r x ∧ ∀ c, K c x → r ≤ c := fun x hx => by
  have hxN := (hK.rng _ _ hx).1
  rcases Int.lt_or_le (gi L (x : Int)) 0 with h1 | h1
  ·exact absurd hx (((h.2 x hxN).2 h1).2 x hxN)
  obtain ⟨r, h2, _, h4, h5⟩ := (h.2 x hxN).1 h1
  exact ⟨r, h2, h4, h5⟩
 obtain ⟨r, h1, h2, h3⟩ := get a ha
 obtain ⟨s, h4, h5, h6⟩ := get b hb
 rw [h1, h4]
 constructor
 ·intro e
  obtain rfl : r = s := by omega
  exact hK.trn _ _ _ (hK.sym _ _ h2) h5
 intro hk
 have h7 := h3 s (hK.trn _ _ _ h5 (hK.sym _ _ hk))
 have h8 := h6 r (hK.trn _ _ _ h2 hk)
 omega
/-! flags -/
def AdjP (n : Nat) (fl : List (List Int)) (i a b : Nat) : Prop := a < fl.length ∧ b < fl.length ∧ ∀ k : Nat, k < n → k ≠ i → gi (gl fl (a : Int)) (k : Int) = gi (gl fl (b : Int)) (k : Int)
theorem AdjP.symm {n : Nat} {fl : List (List Int)} {i a b : Nat} (h : AdjP n fl i a b) : AdjP n fl i b a := ⟨h.2.1, h.1, fun k hk hne => (h.2.2 k hk hne).symm⟩
inductive LnkP (n : Nat) (fl : List (List Int)) (S : Nat → Prop) (a : Nat) : Nat → Prop where
 | refl : a < fl.length → LnkP n fl S a a
 | step {b c i : Nat} : LnkP n fl S a b → i < n → ¬ S i → AdjP n fl i b c → LnkP n fl S a c
theorem LnkP.trans {n : Nat} {fl : List (List Int)} {S : Nat → Prop} {a b c : Nat} (h : LnkP n fl S a b) (h' : LnkP n fl S b c) : LnkP n fl S a c := by
 induction h' with
 | refl => exact h
 | step _ hi hs ha ih => exact .step ih hi hs ha
theorem LnkP.rng {n : Nat} {fl : List (List Int)} {S : Nat → Prop} {a b : Nat} (h : LnkP n fl S a b) : a < fl.length ∧ b < fl.length := by
 induction h with
 | refl h => exact ⟨h, h⟩
 | step _ _ _ ha ih => exact ⟨ih.1, ha.2.1⟩
theorem LnkP.symm {n : Nat} {fl : List (List Int)} {S : Nat → Prop} {a b : Nat} (h : LnkP n fl S a b) : LnkP n fl S b a := by
 induction h with
 | refl h => exact .refl h
 | step h hi hs ha ih => exact (LnkP.step (.refl ha.2.1) hi hs ha.symm).trans ih
theorem LnkP.per (n : Nat) (fl : List (List Int)) (S : Nat → Prop) : Per fl.length (LnkP n fl S) := ⟨fun _ _ h => h.symm, fun _ _ _ h h' => h.trans h', fun _ _ h => h.rng⟩
theorem LnkP.keep {n : Nat} {fl : List (List Int)} {S : Nat → Prop} {a b : Nat} (h : LnkP n fl S a b) : ∀ k : Nat, k < n → S k → gi (gl fl (b : Int)) (k : Int) = gi (gl fl (a : Int)) (k : Int) := by
 induction h with
 | refl h => exact fun _ _ _ => rfl
 | step h hi hs ha ih =>
  intro k hk hS
  rw [← ha.2.2 k hk (fun e => hs (e ▸ hS)), ih k hk hS]
def ConP (n : Nat) (fl : List (List Int)) : Prop := ∀ a b : Nat, a < b → b < fl.length → LnkP n fl (fun k => gi (gl fl (a : Int)) (k : Int) = gi (gl fl (b : Int)) (k : Int)) a b
/-! a search -/
structure Srch (N : Nat) (K A : Nat → Nat → Prop) (f : Nat) (L0 L : List Int) (Q : List Nat) (k : Nat) : Prop where
 len : L.length = N
 in_ : ∀ x ∈ Q, x < N ∧ gi L0 (x : Int) < 0 ∧ K f x
 lab : ∀ x : Nat, x < N → gi L (x : Int) = if x ∈ Q then (f : Int) else gi L0 (x : Int)
 root : f ∈ Q
 kle : k ≤ Q.length
 done : ∀ p, p < k → ∀ y, A (Q.getD p 0) y → 0 ≤ gi L (y : Int)
 nd : Q.Nodup
theorem Srch.meet {N : Nat} {K A : Nat → Nat → Prop} {f : Nat} {L0 L : List Int} {Q : List Nat} {k : Nat} (h : Srch N K A f L0 L Q k) {y : Nat} (hy : y < N) (hl : gi L (y : Int) < 0) (hk : K f y) : Srch N K A f L0 (L.set y (f : Int)) (Q ++ [y]) k := by
 have hyQ : y ∉ Q := fun hm => by
  have := h.lab y hy
  rw [if_pos hm] at this; omega
 have e : ∀ x : Nat, x < N → gi (L.set y (f : Int)) (x : Int) = if x = y then (f : Int) else gi L (x : Int) := fun x hx => by
  have := gi_set (S := L) (x := (y : Int)) (y := (x : Int)) (b := (f : Int)) (by omega) (by rw [h.len]; omega) (by omega)
  rw [Int.toNat_natCast] at this
  rw [this]
  by_cases e : x = y
  ·subst e; simp
  rw [if_neg e, if_neg (by omega)]
 have hl0 : gi L0 (y : Int) < 0 := by
  have := h.lab y hy
  rw [if_neg hyQ] at this; omega
 refine ⟨by rw [List.length_set]; exact h.len, fun x hx => ?_, fun x hx => ?_, List.mem_append_left _ h.root, by rw [List.length_append]; have := h.kle; omega, fun p hp z hz => ?_, List.nodup_append.2 ⟨h.nd, by simp, fun a ha b hb e => hyQ (by rw [← List.mem_singleton.1 hb, ← e]; exact ha)⟩⟩
 ·rcases List.mem_append.1 hx with hx | hx
  ·exact h.in_ x hx
  obtain rfl := List.mem_singleton.1 hx
  exact ⟨hy, hl0, hk⟩
 ·rw [e x hx]
  by_cases ex : x = y
  ·subst ex; simp
  rw [if_neg ex, h.lab x hx]
  simp [ex]
 have hk := h.kle
 rw [List.getD_eq_getElem?_getD, List.getElem?_append_left (by omega), ← List.getD_eq_getElem?_getD] at hz
 have h2 := h.done p hp z hz
 by_cases hzN : z < N
 ·rw [e z hzN]
  split <;> omega
 have : gi L (z : Int) = gi (L.set y (f : Int)) (z : Int) := by
  simp [gi, List.getD_eq_getElem?_getD, List.getElem?_eq_none (show L.length ≤ z by rw [h.len]; omega), List.getElem?_eq_none (show (L.set y (f : Int)).length ≤ z by rw [List.length_set, h.len]; omega)]
 omega
theorem Srch.next {N : Nat} {K A : Nat → Nat → Prop} {f : Nat} {L0 L : List Int} {Q : List Nat} {k : Nat} (h : Srch N K A f L0 L Q k) (hk : k < Q.length) (hd : ∀ y, A (Q.getD k 0) y → 0 ≤ gi L (y : Int)) : Srch N K A f L0 L Q (k + 1) :=
 ⟨h.len, h.in_, h.lab, h.root, hk, fun p hp y hy => by
  by_cases e : p = k
  ·subst e; exact hd y hy
  exact h.done p (by omega) y hy, h.nd⟩
theorem Srch.qlen {N : Nat} {K A : Nat → Nat → Prop} {f : Nat} {L0 L : List Int} {Q : List Nat} {k : Nat} (h : Srch N K A f L0 L Q k) : Q.length ≤ N := nodup_le N Q h.nd fun x hx => (h.in_ x hx).1
theorem Srch.start {N : Nat} {K A : Nat → Nat → Prop} {f : Nat} {L0 : List Int} (hl : L0.length = N) (hf : f < N) (h0 : gi L0 (f : Int) < 0) (hk : K f f) : Srch N K A f L0 (L0.set f (f : Int)) [f] 0 := by
 refine ⟨by simp [hl], fun x hx => ?_, fun x hx => ?_, by simp, Nat.zero_le _, fun p hp => absurd hp (by omega), by simp⟩
 ·obtain rfl := List.mem_singleton.1 hx
  exact ⟨hf, h0, hk⟩
 have := gi_set (S := L0) (x := (f : Int)) (y := (x : Int)) (b := (f : Int)) (by omega) (by rw [hl]; omega) (by omega)
 rw [Int.toNat_natCast] at this
 rw [this]
 by_cases e : x = f
 ·subst e; simp
 rw [if_neg (by omega), if_neg (by simpa using e)]
theorem Srch.end_ {N : Nat} {K A : Nat → Nat → Prop} (hK : Per N K) {f : Nat} {L0 L : List Int} {Q : List Nat} (h : Srch N K A f L0 L Q Q.length) (hL : LblP N K f L0) (hf : f < N) (h0 : gi L0 (f : Int) < 0) (hA : ∀ S : Nat → Prop, S f → (∀ x y, S x → K f x → A x y → S y) → ∀ x, K f x → S x) (hAK : ∀ x y, A x y → K x y) : LblP N K (f + 1) L := by
 have hQ : ∀ x, K f x → x ∈ Q := hA (fun x => x ∈ Q) h.root fun x y hx hkx ha => by
  obtain ⟨p, hp, e⟩ := List.mem_iff_getElem.1 hx
  have e2 : Q.getD p 0 = x := by rw [List.getD_eq_getElem?_getD, List.getElem?_eq_getElem hp]; exact e
  have h1 := h.done p hp y (by rw [e2]; exact ha)
  have hk := hAK x y ha
  have hyN := (hK.rng _ _ hk).2
  refine Classical.byContradiction fun hn => ?_
  have h2 := h.lab y hyN
  rw [if_neg hn] at h2
  obtain ⟨r, _, h3, h4, _⟩ := (hL.2 y hyN).1 (by omega)
  exact ((hL.2 f hf).2 h0).2 r h3 (hK.trn _ _ _ (hK.trn _ _ _ h4 (hK.sym _ _ hk)) (hK.sym _ _ hkx))
 refine hL.paint hK hf h0 h.len fun x hx => ⟨fun hk => ?_, fun hk => ?_⟩
 ·rw [h.lab x hx, if_pos (hQ x hk)]
 rw [h.lab x hx, if_neg fun hm => hk (h.in_ x hm).2.2]
/-
 Plain mathematics of posets: products of bounded graded posets have diamonds.
-/
section
variable {m1 m2 : Nat} {n1 n2 : Int} {rk1 rk2 : Int → Int} {und1 und2 : Int → Int → Prop}
def ExcP (m1 m2 : Nat) (kind : Int) (c : Int × Int) : Prop := (kind = 1 ∧ (c.1 = 0 ∨ c.2 = 0)) ∨ (kind = 2 ∧ (c.1 = (m1 : Int) - 1 ∨ c.2 = (m2 : Int) - 1))
instance (m1 m2 : Nat) (kind : Int) (c : Int × Int) : Decidable (ExcP m1 m2 kind c) := by unfold ExcP; infer_instance
end
/-
 Plain mathematics of posets: products, as rows of pairs; they are posets and have diamonds.
-/
/-! all faces of a poset -/
def UndP (N : Nat) (B : List (List Int)) (a b : Int) : Prop := a = b ∨ a = 0 ∨ b = (N : Int) + 1 ∨ (0 < a ∧ a < (N : Int) + 1 ∧ 0 < b ∧ b < (N : Int) + 1 ∧ a - 1 ∈ gl B (b - 1))
instance (N : Nat) (B : List (List Int)) (a b : Int) : Decidable (UndP N B a b) := by unfold UndP; infer_instance
/-! diamonds -/
def LoP (R : List Int) (i e : Int) : Prop := (e = -1 ∧ i = 0) ∨ ((0 ≤ e ∧ e < R.length) ∧ 0 < i ∧ gi R e = i - 1)
def HiP (n : Int) (R : List Int) (i f : Int) : Prop := (f = -1 ∧ i = n - 1) ∨ ((0 ≤ f ∧ f < R.length) ∧ i < n - 1 ∧ gi R f = i + 1)
def MidP (R : List Int) (B : List (List Int)) (i e f : Int) : List Int := (rngI R.length).filter fun d => decide (gi R d = i ∧ (e < 0 ∨ e ∈ gl B d) ∧ (f < 0 ∨ d ∈ gl B f))
def DiaP (n : Int) (R : List Int) (B : List (List Int)) : Prop := ∀ i e f : Int, 0 ≤ i → i < n → LoP R i e → HiP n R i f → (0 ≤ e → 0 ≤ f → e ∈ gl B f) → (MidP R B i e f).length = 2
theorem MidP_mem {R : List Int} {B : List (List Int)} {i e f d : Int} : d ∈ MidP R B i e f ↔ (0 ≤ d ∧ d < R.length) ∧ gi R d = i ∧ (e < 0 ∨ e ∈ gl B d) ∧ (f < 0 ∨ d ∈ gl B f) := by
 unfold MidP
 rw [List.mem_filter, rngI_mem, decide_eq_true_eq]
theorem two_of {l : List Int} (hn : l.Nodup) (h : l.length = 2) : ∃ x y, x ≠ y ∧ ∀ c, c ∈ l ↔ (c = x ∨ c = y) := by
 match l, h with
 | [x, y], _ => exact ⟨x, y, by simpa using hn, fun c => by simp⟩
theorem MidP_nodup (R : List Int) (B : List (List Int)) (i e f : Int) : (MidP R B i e f).Nodup := ((rngI_SA _).nodup).filter _
/-! the rows of a product -/
section
variable (m1 m2 : Nat) (rk1 rk2 : Int → Int) (kind : Int)
end
section
variable {m1 m2 : Nat} {rk1 rk2 : Int → Int} {kind : Int}
end
section
variable {m1 m2 : Nat} {n1 n2 : Int} {rk1 rk2 : Int → Int} {und1 und2 : Int → Int → Prop} [DecidableRel und1] [DecidableRel und2] {kind : Int}
end
/-
 Plain mathematics of posets: in a poset with diamonds each flag has one neighbour for each rank; the maniplex of the flags.
-/
theorem flg_at {n : Nat} {R : List Int} {B : List (List Int)} (hn : 1 ≤ n) {a : Nat} (ha : a < (flgP n R B).length) : (gl (flgP n R B) (a : Int)).length = n ∧ (∀ i : Nat, i < n → (0 ≤ gi (gl (flgP n R B) (a : Int)) (i : Int) ∧ gi (gl (flgP n R B) (a : Int)) (i : Int) < R.length) ∧ gi R (gi (gl (flgP n R B) (a : Int)) (i : Int)) = i) ∧ ∀ i : Nat, i + 1 < n → gi (gl (flgP n R B) (a : Int)) (i : Int) ∈ gl B (gi (gl (flgP n R B) (a : Int)) ((i + 1 : Nat) : Int)) := (flgP_mem hn).1 (by rw [gl_mem ha]; exact List.getElem_mem _)
theorem list_gi {n : Nat} {x y : List Int} (hx : x.length = n) (hy : y.length = n) (h : ∀ i : Nat, i < n → gi x (i : Int) = gi y (i : Int)) : x = y :=
 List.ext_getElem (by omega) fun i h1 h2 => by
  have := h i (by omega)
  rwa [gi_mem h1, gi_mem h2] at this
theorem flg_inj {n : Nat} {R : List Int} {B : List (List Int)} {a b : Nat} (ha : a < (flgP n R B).length) (hb : b < (flgP n R B).length) (h : gl (flgP n R B) (a : Int) = gl (flgP n R B) (b : Int)) : a = b := by
 rw [gl_mem ha, gl_mem hb] at h
 exact (List.getElem_inj (flgP_SL n R B).nodup).1 h
theorem flg_nb {n : Nat} {R : List Int} {B : List (List Int)} (hP : PosP n R B) (hD : DiaP n R B) {a i : Nat} (ha : a < (flgP n R B).length) (hi : i < n) : ∃ b : Nat, b ≠ a ∧ ∀ c : Nat, (AdjP n (flgP n R B) i a c ∧ c ≠ a) ↔ c = b := by
 have hn : 1 ≤ n := by have := hP.n1; omega
 obtain ⟨hl, hr, hc⟩ := flg_at hn ha
 generalize hx : gl (flgP n R B) (a : Int) = x at hl hr hc
 have hlo : LoP R (i : Int) (if i = 0 then -1 else gi x ((i - 1 : Nat) : Int)) := by
  by_cases e : i = 0
  ·rw [if_pos e]; exact .inl ⟨rfl, by omega⟩
  rw [if_neg e]
  have := hr (i - 1) (by omega)
  exact .inr ⟨this.1, by omega, by rw [this.2]; omega⟩
 have hhi : HiP (n : Int) R (i : Int) (if i = n - 1 then -1 else gi x ((i + 1 : Nat) : Int)) := by
  by_cases e : i = n - 1
  ·rw [if_pos e]; exact .inl ⟨rfl, by omega⟩
  rw [if_neg e]
  have := hr (i + 1) (by omega)
  exact .inr ⟨this.1, by omega, by rw [this.2]; omega⟩
 have hlh : 0 ≤ (if i = 0 then -1 else gi x ((i - 1 : Nat) : Int)) → 0 ≤ (if i = n - 1 then -1 else gi x ((i + 1 : Nat) : Int)) → (if i = 0 then -1 else gi x ((i - 1 : Nat) : Int)) ∈ gl B (if i = n - 1 then -1 else gi x ((i + 1 : Nat) : Int)) := fun h1 h2 => by
  by_cases e : i = 0
  ·rw [if_pos e] at h1; omega
  by_cases e2 : i = n - 1
  ·rw [if_pos e2] at h2; omega
  rw [if_neg e, if_neg e2]
  have hm1 := hc (i - 1) (by omega)
  have hm2 := hc i (by omega)
  rw [show i - 1 + 1 = i by omega] at hm1
  have hr2 := hr (i + 1) (by omega)
  exact (hP.at_ hr2.1.1 hr2.1.2).2.2 _ hm2 _ hm1
 have h2 := hD (i : Int) _ _ (by omega) (by omega) hlo hhi hlh
 have hset : ∀ d : Int, d ∈ MidP R B (i : Int) (if i = 0 then -1 else gi x ((i - 1 : Nat) : Int)) (if i = n - 1 then -1 else gi x ((i + 1 : Nat) : Int)) ↔ x.set i d ∈ flgP n R B := fun d => by
  rw [MidP_mem, flgP_mem hn]
  have gs : ∀ k : Nat, gi (x.set i d) (k : Int) = if k = i then d else gi x (k : Int) := fun k => by
   have := gi_set (S := x) (x := (i : Int)) (y := (k : Int)) (b := d) (by omega) (by omega) (by omega)
   rw [Int.toNat_natCast] at this
   rw [this]
   by_cases e : k = i
   ·subst e; simp
   rw [if_neg e, if_neg (by omega)]
  constructor
  ·rintro ⟨hd, rd, u, v⟩
   refine ⟨by rw [List.length_set]; exact hl, fun k hk => ?_, fun k hk => ?_⟩
   ·rw [gs k]
    by_cases e : k = i
    ·rw [if_pos e, e]; exact ⟨hd, rd⟩
    rw [if_neg e]; exact hr k hk
   rw [gs k, gs (k + 1)]
   by_cases e : k = i
   ·rw [if_pos e, if_neg (by omega)]
    rw [if_neg (by omega)] at v
    have := hr (i + 1) (by omega)
    rw [e]
    exact v.resolve_left (by omega)
   rw [if_neg e]
   by_cases e2 : k + 1 = i
   ·rw [if_pos e2]
    rw [if_neg (by omega), show i - 1 = k by omega] at u
    have := hr k (by omega)
    exact u.resolve_left (by omega)
   rw [if_neg e2]; exact hc k hk
  rintro ⟨_, h3, h4⟩
  have h5 := h3 i hi
  rw [gs i, if_pos rfl] at h5
  refine ⟨h5.1, h5.2, ?_, ?_⟩
  ·by_cases e : i = 0
   ·left; rw [if_pos e]; omega
   right
   rw [if_neg e]
   have h6 := h4 (i - 1) (by omega)
   rw [gs (i - 1), show i - 1 + 1 = i by omega, gs i, if_neg (show ¬ i - 1 = i by omega), if_pos rfl] at h6
   exact h6
  by_cases e : i = n - 1
  ·left; rw [if_pos e]; omega
  right
  rw [if_neg e]
  have h6 := h4 i (by omega)
  rw [gs i, gs (i + 1), if_pos rfl, if_neg (by omega)] at h6
  exact h6
 obtain ⟨p, q, hpq, hm⟩ := two_of (MidP_nodup _ _ _ _ _) h2
 have hself : gi x (i : Int) = p ∨ gi x (i : Int) = q := (hm _).1 ((hset _).2 (by
  have e : x.set i (gi x (i : Int)) = x := by
   rw [gi_mem (by omega)]
   exact List.set_getElem_self _
  rw [e, ← hx, gl_mem ha]; exact List.getElem_mem _))
 obtain ⟨d, hd, hdi⟩ : ∃ d, d ≠ gi x (i : Int) ∧ ∀ c, (c = p ∨ c = q) ↔ (c = gi x (i : Int) ∨ c = d) := by
  rcases hself with h | h
  ·exact ⟨q, fun e => hpq (by rw [← h, e]), fun c => by rw [h]⟩
  exact ⟨p, fun e => hpq (by rw [← h, e]), fun c => by rw [h]; exact or_comm⟩
 have hdm : x.set i d ∈ flgP n R B := (hset d).1 ((hm d).2 ((hdi d).2 (.inr O)))
 obtain ⟨b, hb, eb⟩ := List.mem_iff_getElem.1 hdm
 have ebl : gl (flgP n R B) (b : Int) = x.set i d := by rw [gl_mem hb]; exact eb
 have gsd : ∀ (d : Int) (k : Nat), gi (x.set i d) (k : Int) = if k = i then d else gi x (k : Int) := fun d k => by
  have := gi_set (S := x) (x := (i : Int)) (y := (k : Int)) (b := d) (by omega) (by omega) (by omega)
  rw [Int.toNat_natCast] at this
  rw [this]
  by_cases e : k = i
  ·subst e; simp
  rw [if_neg e, if_neg (by omega)]
 have hba : b ≠ a := fun e => by
  subst e
  rw [hx] at ebl
  have := gsd d i
  rw [← ebl, if_pos rfl] at this
  exact hd this.symm
 refine ⟨b, hba, fun c => ⟨fun ⟨⟨_, hcl, hag⟩, hca⟩ => ?_, ?_⟩⟩
 ·
  rw [hx] at hag
  obtain ⟨hl2, hr2, hc2⟩ := flg_at hn hcl
  have ec : gl (flgP n R B) (c : Int) = x.set i (gi (gl (flgP n R B) (c : Int)) (i : Int)) := list_gi hl2 (by rw [List.length_set]; exact hl) fun k hk => by
   rw [gsd]
   by_cases e : k = i
   ·rw [if_pos e, e]
   rw [if_neg e]; exact (hag k hk e).symm
  have hcm : x.set i (gi (gl (flgP n R B) (c : Int)) (i : Int)) ∈ flgP n R B := by rw [← ec, gl_mem hcl]; exact List.getElem_mem _
  rcases (hdi _).1 ((hm _).1 ((hset _).2 hcm)) with h | h
  ·exfalso
   refine hca (flg_inj hcl ha ?_)
   rw [ec, h, hx, gi_mem (by omega)]
   exact List.set_getElem_self _
  rw [h] at ec
  exact flg_inj hcl hb (ec.trans ebl.symm)
 rintro rfl
 exact ⟨⟨ha, hb, fun k hk hne => by rw [ebl, hx, gsd, if_neg hne]⟩, hba⟩
/-! the maniplex of flags -/
open Classical in
noncomputable def nbsP (n : Nat) (fl : List (List Int)) (i : Nat) (a : Nat) : List Int := ((List.range fl.length).filter fun b => decide (AdjP n fl i a b ∧ b ≠ a)).map fun b : Nat => (b : Int)
noncomputable def mvP (n : Nat) (fl : List (List Int)) (i : Nat) : List Int := (List.range fl.length).flatMap (nbsP n fl i)
noncomputable def mnP (n : Nat) (fl : List (List Int)) : List (List Int) := (List.range n).map (mvP n fl)
def NbP (n : Nat) (fl : List (List Int)) : Prop := ∀ a i : Nat, a < fl.length → i < n → ∃ b : Nat, b ≠ a ∧ ∀ c : Nat, (AdjP n fl i a c ∧ c ≠ a) ↔ c = b
open Classical in
theorem nbs_one {n : Nat} {fl : List (List Int)} {i a b : Nat} (h : ∀ c : Nat, (AdjP n fl i a c ∧ c ≠ a) ↔ c = b) : nbsP n fl i a = [(b : Int)] := by
 have hb := ((h b).2 O).1.2.1
 have key : ∀ p : Nat → Bool, (∀ c, p c = true ↔ c = b) → ((List.range fl.length).filter p) = [b] := fun p hp => by
  refine List.Perm.eq_singleton ((List.perm_ext_iff_of_nodup (List.nodup_range.filter _) (by simp)).2 fun c => ?_)
  rw [List.mem_filter, List.mem_range, hp c, List.mem_singleton]
  exact ⟨fun h => h.2, fun h => ⟨by rw [h]; exact hb, h⟩⟩
 unfold nbsP
 exact congrArg (List.map fun b : Nat => (b : Int)) (key _ fun c => decide_eq_true_iff.trans (h c))
open Classical in
noncomputable def ptP (n : Nat) (fl : List (List Int)) (i a : Nat) : Nat := if h : ∃ b : Nat, b ≠ a ∧ ∀ c : Nat, (AdjP n fl i a c ∧ c ≠ a) ↔ c = b then h.choose else 0
theorem NbP.pt {n : Nat} {fl : List (List Int)} (h : NbP n fl) {a i : Nat} (ha : a < fl.length) (hi : i < n) : ptP n fl i a ≠ a ∧ ∀ c : Nat, (AdjP n fl i a c ∧ c ≠ a) ↔ c = ptP n fl i a := by
 have he := h a i ha hi
 unfold ptP
 rw [dif_pos he]
 exact he.choose_spec
theorem NbP.lt {n : Nat} {fl : List (List Int)} (h : NbP n fl) {a i : Nat} (ha : a < fl.length) (hi : i < n) : ptP n fl i a < fl.length := (((h.pt ha hi).2 _).2 rfl).1.2.1
theorem NbP.pp {n : Nat} {fl : List (List Int)} (h : NbP n fl) {a i : Nat} (ha : a < fl.length) (hi : i < n) : ptP n fl i (ptP n fl i a) = a := by
 have h1 := ((h.pt ha hi).2 _).2 O
 exact (((h.pt (h.lt ha hi) hi).2 a).1 ⟨h1.1.symm, fun e => (h.pt ha hi).1 e.symm⟩).symm
theorem mv_pt {n : Nat} {fl : List (List Int)} (h : NbP n fl) {i : Nat} (hi : i < n) : mvP n fl i = (List.range fl.length).map fun a => (ptP n fl i a : Int) := by
 unfold mvP
 have e : ∀ l : List Nat, (∀ a ∈ l, a < fl.length) → l.flatMap (nbsP n fl i) = l.map fun a => (ptP n fl i a : Int) := by
  intro l
  induction l with
  | nil => intro _; rfl
  | cons a r ih =>
   intro hl
   rw [List.flatMap_cons, List.map_cons, ih fun b hb => hl b (List.mem_cons_of_mem _ hb), nbs_one (h.pt (hl a (by simp)) hi).2]; rfl
 exact e _ fun a ha => List.mem_range.1 ha
theorem flg_NbP {n : Nat} {R : List Int} {B : List (List Int)} (hP : PosP n R B) (hD : DiaP n R B) : NbP n (flgP n R B) := fun _ _ ha hi => flg_nb hP hD ha hi
/-
 Plain mathematics of posets: what makes a polytope; the program's way to part flags.
-/
def PurP (n : Nat) (R : List Int) (B : List (List Int)) : Prop := ∀ e : Int, 0 ≤ e → e < R.length → ∃ x ∈ flgP n R B, e ∈ x
def PlyP (n : Nat) (R : List Int) (B : List (List Int)) : Prop := flgP n R B ≠ [] ∧ PurP n R B ∧ DiaP n R B ∧ ConP n (flgP n R B)
/-! what two flags have in common -/
def cmnP (a b : List Int) : List Int := (List.range a.length).map fun k : Nat => if gi a (k : Int) = gi b (k : Int) then gi a (k : Int) else -1
theorem cmnP_len (a b : List Int) : (cmnP a b).length = a.length := by simp [cmnP]
theorem cmnP_at {a b : List Int} {k : Nat} (h : k < a.length) : gi (cmnP a b) (k : Int) = if gi a (k : Int) = gi b (k : Int) then gi a (k : Int) else -1 := by
 rw [gi_mem (by rw [cmnP_len]; exact h)]
 simp [cmnP]
def HasP (n : Nat) (c x : List Int) : Prop := ∀ k : Nat, k < n → gi c (k : Int) ≠ -1 → gi c (k : Int) = gi x (k : Int)
instance (n : Nat) (c x : List Int) : Decidable (HasP n c x) := by unfold HasP; infer_instance
def LkH (n : Nat) (fl : List (List Int)) (c : List Int) (a b : Nat) : Prop := HasP n c (gl fl (a : Int)) ∧ LnkP n fl (fun k => gi c (k : Int) ≠ -1) a b
theorem HasP.of {n : Nat} {fl : List (List Int)} {c : List Int} {a b : Nat} (h : HasP n c (gl fl (a : Int))) (h' : LnkP n fl (fun k => gi c (k : Int) ≠ -1) a b) : HasP n c (gl fl (b : Int)) := fun k hk hne => by
 rw [h'.keep k hk hne]; exact h k hk hne
theorem LkH.per (n : Nat) (fl : List (List Int)) (c : List Int) : Per fl.length (LkH n fl c) :=
 ⟨fun _ _ h => ⟨h.1.of h.2, h.2.symm⟩, fun _ _ _ h h' => ⟨h.1, h.2.trans h'.2⟩, fun _ _ h => h.2.rng⟩
theorem cmn_link {n : Nat} {fl : List (List Int)} (hl : ∀ x ∈ fl, x.length = n ∧ ∀ e ∈ x, 0 ≤ e) {a b : Nat} (ha : a < fl.length) (hb : b < fl.length) :
  LkH n fl (cmnP (gl fl (a : Int)) (gl fl (b : Int))) a a ∧ LkH n fl (cmnP (gl fl (a : Int)) (gl fl (b : Int))) b b ∧ (LkH n fl (cmnP (gl fl (a : Int)) (gl fl (b : Int))) a b ↔ LnkP n fl (fun k => gi (gl fl (a : Int)) (k : Int) = gi (gl fl (b : Int)) (k : Int)) a b) := by
 have hxa := hl _ (by rw [gl_mem ha]; exact List.getElem_mem _ : gl fl (a : Int) ∈ fl)
 have hne : ∀ k : Nat, k < n → (gi (cmnP (gl fl (a : Int)) (gl fl (b : Int))) (k : Int) ≠ -1 ↔ gi (gl fl (a : Int)) (k : Int) = gi (gl fl (b : Int)) (k : Int)) := fun k hk => by
  rw [cmnP_at (by omega)]
  have := hxa.2 _ (gi_in (show k < (gl fl (a : Int)).length by omega))
  split
  ·exact ⟨fun _ => by assumption, fun _ => by omega⟩
  ·rename_i h; exact ⟨fun h' => absurd rfl h', fun h' => absurd h' h⟩
 have h1 : HasP n (cmnP (gl fl (a : Int)) (gl fl (b : Int))) (gl fl (a : Int)) := fun k hk h => by
  have := (hne k hk).1 h
  rw [cmnP_at (by omega), if_pos this]
 have h2 : HasP n (cmnP (gl fl (a : Int)) (gl fl (b : Int))) (gl fl (b : Int)) := fun k hk h => by
  have := (hne k hk).1 h
  rw [cmnP_at (by omega), if_pos this, this]
 have cv : ∀ {S S' : Nat → Prop}, (∀ k, k < n → (S k ↔ S' k)) → ∀ {u v}, LnkP n fl S u v → LnkP n fl S' u v := fun {S S'} hS {u v} h => by
  induction h with
  | refl h => exact .refl h
  | step _ hi hs had ih => exact .step ih hi (fun h => hs ((hS _ hi).2 h)) had
 exact ⟨⟨h1, .refl ha⟩, ⟨h2, .refl hb⟩, fun h => cv hne h.2, fun h => ⟨h1, cv (fun k hk => (hne k hk).symm) h⟩⟩
def AdH (n : Nat) (fl : List (List Int)) (c : List Int) (x y : Nat) : Prop := HasP n c (gl fl (x : Int)) ∧ HasP n c (gl fl (y : Int)) ∧ ∃ i, i < n ∧ AdjP n fl i x y
theorem flg_same {n : Nat} {fl : List (List Int)} (hn : fl.Nodup) (hl : ∀ x ∈ fl, x.length = n) {x y : Nat} (hx : x < fl.length) (hy : y < fl.length) (h : ∀ k : Nat, k < n → gi (gl fl (x : Int)) (k : Int) = gi (gl fl (y : Int)) (k : Int)) : x = y := by
 have e : gl fl (x : Int) = gl fl (y : Int) := list_gi (hl _ (by rw [gl_mem hx]; exact List.getElem_mem _)) (hl _ (by rw [gl_mem hy]; exact List.getElem_mem _)) h
 rw [gl_mem hx, gl_mem hy] at e
 exact (List.getElem_inj hn).1 e
theorem AdH.link {n : Nat} {fl : List (List Int)} (hn : fl.Nodup) (hl : ∀ x ∈ fl, x.length = n) {c : List Int} {x y : Nat} (h : AdH n fl c x y) : LkH n fl c x y := by
 obtain ⟨h1, h2, i, hi, ha⟩ := h
 refine ⟨h1, ?_⟩
 by_cases hc : gi c (i : Int) ≠ -1
 ·have : x = y := flg_same hn hl ha.1 ha.2.1 fun k hk => by
   by_cases e : k = i
   ·subst e; rw [← h1 k hk hc, h2 k hk hc]
   exact ha.2.2 k hk e
  subst this
  exact .refl ha.1
 exact .step (.refl ha.1) hi hc ha
theorem LkH.ind {n : Nat} {fl : List (List Int)} {c : List Int} {f : Nat} (S : Nat → Prop) (hf : S f) (hs : ∀ x y, S x → LkH n fl c f x → AdH n fl c x y → S y) : ∀ x, LkH n fl c f x → S x := fun x h => by
 obtain ⟨h1, h2⟩ := h
 induction h2 with
 | refl _ => exact hf
 | step h hi hS ha ih => exact hs _ _ ih ⟨h1, h⟩ ⟨h1.of h, h1.of (.step h hi hS ha), _, hi, ha⟩
def AdS (n : Nat) (fl : List (List Int)) (S : Nat → Prop) (x y : Nat) : Prop := ∃ i, i < n ∧ ¬ S i ∧ AdjP n fl i x y ∧ y ≠ x
theorem LnkP.ind {n : Nat} {fl : List (List Int)} {S : Nat → Prop} {f : Nat} (T : Nat → Prop) (hf : T f) (hs : ∀ x y, T x → LnkP n fl S f x → AdS n fl S x y → T y) : ∀ x, LnkP n fl S f x → T x := fun x h => by
 induction h with
 | refl _ => exact hf
 | step h hi hS ha ih =>
  rename_i b c i
  by_cases e : c = b
  ·rw [e]; exact ih
  ·exact hs _ _ ih h ⟨_, hi, hS, ha, e⟩
theorem AdS.link {n : Nat} {fl : List (List Int)} {S : Nat → Prop} {x y : Nat} (h : AdS n fl S x y) : LnkP n fl S x y := by
 obtain ⟨i, hi, hS, ha, _⟩ := h
 exact .step (.refl ha.1) hi hS ha
end Go.Proofs.YtopgfgdgfjddpaaGreatDoor.Vc
/-
 Marks at the elements of lists; the library's search among bools.
-/
namespace Go.Proofs.YtopgfgdgfjddpaaGreatDoor.Vc
open Go.RowKit
/-! marks at the elements of a list -/
def pnt (H : List Bool) (vs : List Int) : List Bool := vs.foldl (fun H v => H.set v.toNat true) H
theorem pnt_snoc (H : List Bool) (vs : List Int) (v : Int) : pnt H (vs ++ [v]) = (pnt H vs).set v.toNat true := by simp [pnt, List.foldl_append]
theorem pnt_len (H : List Bool) : ∀ vs, (pnt H vs).length = H.length := by
 intro vs
 unfold pnt
 induction vs generalizing H with
 | nil => rfl
 | cons a r ih => rw [List.foldl_cons, ih, List.length_set]
theorem pnt_gb (H : List Bool) (vs : List Int) (hv : ∀ v ∈ vs, 0 ≤ v ∧ v < H.length) (x : Int) (h0 : 0 ≤ x) : gb (pnt H vs) x = (gb H x || decide (x ∈ vs)) := by
 unfold pnt
 induction vs generalizing H with
 | nil => simp
 | cons a r ih =>
  have ha := hv a (by simp)
  rw [List.foldl_cons, ih _ (fun v h => by rw [List.length_set]; exact hv v (by simp [h])), gb_set ha.1 ha.2 h0]
  by_cases e : a = x
  ·subst e; simp
  ·have e' : ¬ x = a := fun h => e h.symm
   simp [e, e']
theorem gb_rep (n : Nat) (x : Int) : gb (List.replicate n false) x = false := by
 unfold gb
 rw [List.getD_eq_getElem?_getD, List.getElem?_replicate]
 split <;> rfl
theorem pnt_all {m : Nat} {F : List (List Int)} (h : ∀ l ∈ F, ∀ x ∈ l, 0 ≤ x ∧ x < (m : Int)) (x : Int) (h0 : 0 ≤ x) : gb (pnt (List.replicate m false) F.flatten) x = decide (∃ l ∈ F, x ∈ l) := by
 rw [pnt_gb _ _ (fun v hv => by
  obtain ⟨l, hl, hx⟩ := List.mem_flatten.1 hv
  rw [List.length_replicate]; exact h l hl v hx) x h0, gb_rep, Bool.false_or]
 exact decide_eq_decide.2 (by rw [List.mem_flatten])
def mk0 (m : Nat) : List Bool := List.replicate m false
theorem pnt0_len (m : Nat) (vs : List Int) : (pnt (mk0 m) vs).length = m := by rw [pnt_len]; simp [mk0]
theorem no_false {m : Nat} {F : List (List Int)} (h : ∀ l ∈ F, ∀ x ∈ l, 0 ≤ x ∧ x < (m : Int)) : ¬ (false ∈ pnt (mk0 m) F.flatten) ↔ ∀ x : Int, 0 ≤ x → x < (m : Int) → ∃ l ∈ F, x ∈ l := by
 have hl := pnt0_len m F.flatten
 have hg := fun (x : Int) (h0 : 0 ≤ x) => pnt_all h x h0
 constructor
 ·intro hn x h0 h1
  apply Classical.byContradiction
  intro hc
  have h2 : gb (pnt (mk0 m) F.flatten) x = false := (hg x h0).trans (decide_eq_false hc)
  apply hn
  have h3 : x.toNat < (pnt (mk0 m) F.flatten).length := by omega
  rw [← h2, gb, List.getD_eq_getElem?_getD, List.getElem?_eq_getElem h3]
  exact List.getElem_mem _
 intro ha hm
 obtain ⟨k, hk, e⟩ := List.mem_iff_getElem.1 hm
 have h2 := hg (k : Int) (by omega)
 rw [decide_eq_true (ha (k : Int) (by omega) (by omega))] at h2
 have h3 : gb (pnt (mk0 m) F.flatten) (k : Int) = (pnt (mk0 m) F.flatten)[k] := by simp [gb, List.getD_eq_getElem?_getD, hk]
 have h4 : gb (pnt (mk0 m) F.flatten) (k : Int) = true := h2
 rw [h3, e] at h4
 cases h4
theorem IndexB_c (A : Option Addr) (n c : Nat) (xs : List Bool) (v : Bool) (w : World) (hR : RdB w A n xs) (hn : n ≤ 9223372036854775807) :
  Ret Tryz.prog 210 [.slice A n c, .bool v] w (fun r w' => (∃ i : Int, r = .int .i64 i ∧ (0 ≤ i ↔ v ∈ xs)) ∧ w' = w) := by
 have hxl := hR.1
 refine Ret.of_cd Tryz.func210 O Tryz.ntmps210 O (post1 O) ?_
 refine Gbo O (Ops.len O O (Gdc O ?_))
 refine Cd.loop (α := Nat) (fun k => [(0, .slice A n c), (1, .bool v), (7, .int .i64 (n : Int)), (8, .int .i64 (k : Int))]) (fun k w' => w' = w ∧ k ≤ n ∧ ∀ j : Nat, j < k → gb xs (j : Int) ≠ v) (fun k => n - k) 0 ⟨O, O, O, O, trivial⟩ ⟨O, Nat.zero_le _, fun j hj => by omega⟩ ?_
 rintro k e w ⟨rfl, hk, hK⟩
 refine Gbc O ?_
 refine Cd.cond_p _ O (fun h3 => ?_) (fun h3 => ?_)
 ·have hg : gb xs (k : Int) = xs[k]'(by omega) := by simp [gb, List.getD_eq_getElem?_getD, show k < xs.length by omega]
  refine Gao O (Ops.idx hR.2 O O O (by omega) (by omega) (Ops.ld_bool hR O (by omega) O O (Ops.eqlB O O O (Gdc O ?_))))
  refine Cd.cond O (fun h4 => ?_) (fun h4 => ?_)
  ·refine Gar O (thenQ_r (Qk_ret ?_))
   refine ret1_i O ?_
   have h4 : v = gb xs (k : Int) := by simpa using h4
   exact ⟨⟨(k : Int), O, ⟨fun _ => by rw [h4, hg]; exact List.getElem_mem _, fun _ => by omega⟩⟩, O⟩
  refine Gao O (Ops.add O O O (by omega) (Gdn O (tQ ?_)))
  have h4 : ¬ v = gb xs (k : Int) := by simpa using h4
  refine ⟨k + 1, by show n - (k + 1) < n - k; omega, ⟨O, O, O, O, trivial⟩, O, by omega, fun j hj => ?_⟩
  by_cases ej : j = k
  ·subst ej; exact fun h => h4 h.symm
  exact hK j (by omega)
 refine Gax O (thenQ_x (Gfr O ?_))
 refine ret1_i O ?_
 refine ⟨⟨-1, O, ⟨fun h => absurd h (by decide), fun h => ?_⟩⟩, O⟩
 obtain ⟨j, hj, hjv⟩ := List.mem_iff_getElem.1 h
 exact absurd (by simpa [gb, List.getD_eq_getElem?_getD, hj] using hjv) (hK j (by omega))
theorem ContainsB_c (A : Option Addr) (n c : Nat) (xs : List Bool) (v : Bool) (w : World) (hR : RdB w A n xs) (hn : n ≤ 9223372036854775807) :
  Ret Tryz.prog 150 [.slice A n c, .bool v] w (fun r w' => r = .bool (decide (v ∈ xs)) ∧ w' = w) := by
 refine Ret.of_cd Tryz.func150 O Tryz.ntmps150 O (post1 O) (Gbo O (Ops.call (IndexB_c A n c xs v _ hR hn) O O O ?_))
 rintro _ w ⟨⟨i, rfl, hi⟩, rfl⟩
 refine Gdr O (ret1_b O ?_)
 exact ⟨congrArg Value.bool (decide_eq_decide.2 hi), O⟩
theorem Rd.some_of {w : World} {A : Option Addr} {n : Nat} {f : Nat → Value} (h : Rd w A n f) (hn : 0 < n) : A.isNone = false := by
 obtain ⟨p, hp, _⟩ := h 0 hn
 cases A with
 | none => simp [ptrAt] at hp
 | some q => rfl
/-
 The program's tests of posets: pure, diamonds; what flags have in common.
-/
def AnsI (L : List Int) (w : World) (v : Value) (w' : World) : Prop := ∃ A' c', v = .slice A' L.length c' ∧ St w w' [CkI 2 A' L.length c' L]
theorem take_snoc {xs : List Int} {j : Nat} (h : j < xs.length) : xs.take (j + 1) = xs.take j ++ [gi xs (j : Int)] := by
 rw [List.take_succ_eq_append_getElem h, gi_mem h]
theorem isPure_c (n : Int) (A D : Option Addr) (cA N m cD : Nat) (Af : Option Addr) (nf cf : Nat) (rs : List SlV) (fl : List (List Int)) (w : World) (hF : RowsI w Af nf rs fl) (hN : N ≤ 500) (hr : ∀ l ∈ fl, l.length ≤ 1000 ∧ ∀ x ∈ l, 0 ≤ x ∧ x < (N : Int)) (hnf : nf ≤ 100000) :
  Ret Tryz.prog 87 [.agg #[.int .i64 n, .slice A N cA, .slice D m cD], .slice Af nf cf] w (fun v w' => ∃ b : Bool, v = .bool b ∧ (b = true ↔ ∀ x : Int, 0 ≤ x → x < (N : Int) → ∃ l ∈ fl, x ∈ l) ∧ St w w' []) := by
 have hfl := hF.len
 refine Ret.of_cd Tryz.func87 O Tryz.ntmps87 O (post1 O) (Gbo O (Ops.box3T (St.refl w) O O ?_))
 intro A1 w1 hS1
 have h1 : Rd w1 A1 3 (fun j => [Value.int .i64 n, .slice A N cA, .slice D m cD].getD j undef) := hS1.rd 0 O
 refine Gdo O (Ops.fld h1 O O O O inferInstance (Ops.ldf_s h1 O O O O O (Ops.len O O (Ops.mkB (v := false) N hS1 O O (by omega) ?_))))
 intro A5 w2 hS2
 have hS2 : St w w2 [CkB 4 A5 N N (pnt (mk0 N) (fl.take 0).flatten), poB A1 n A N cA D m cD] := hS2
 refine Gdo O (Ops.len O O (Gdc O ?_))
 refine Cd.loop (α := Nat) (fun i => [(2, .pointer A1), (5, .slice A5 N N), (14, .slice Af nf cf), (15, .int .i64 (nf : Int)), (16, .int .i64 (i : Int))]) (fun i w' => i ≤ nf ∧ St w w' [CkB 4 A5 N N (pnt (mk0 N) (fl.take i).flatten), poB A1 n A N cA D m cD]) (fun i => nf - i) 0 ⟨O, O, O, O, O, trivial⟩ ⟨Nat.zero_le _, hS2⟩ ?_
 clear hS2 hS1 h1
 rintro i e w3 ⟨hi, hS⟩
 refine Gbc O ?_
 refine Cd.cond_p _ O (fun h2 => ?_) (fun h2 => ?_)
 ·have hiF : i < fl.length := by omega
  have hM := hS.oldRows hF
  have hro := hM.at_ (i := (i : Int)) (by omega) (by omega)
  have hrn := hro.1
  have hmem : gl fl (i : Int) ∈ fl := by rw [gl_mem hiF]; exact List.getElem_mem _
  have hri := hr _ hmem
  refine Gao O (Ops.idx hM.top.2 O O O (by omega) (by omega) (Ops.ld_sl hM.top O (by omega) O O ?_))
  refine Gdo O (Ops.len O O (Gdc O ?_))
  refine Cd.loop (α := Nat) (fun j => [(2, .pointer A1), (5, .slice A5 N N), (14, .slice Af nf cf), (15, .int .i64 (nf : Int)), (16, .int .i64 (i : Int)), (20, .slice (rg rs (i : Int)).a (rg rs (i : Int)).n (rg rs (i : Int)).c), (21, .int .i64 ((rg rs (i : Int)).n : Int)), (22, .int .i64 (j : Int))]) (fun j w' => j ≤ (rg rs (i : Int)).n ∧ St w w' [CkB 4 A5 N N (pnt (mk0 N) ((fl.take i).flatten ++ (gl fl (i : Int)).take j)), poB A1 n A N cA D m cD]) (fun j => (rg rs (i : Int)).n - j) 0 ⟨O, O, O, O, O, O, O, O, trivial⟩ ⟨Nat.zero_le _, by rw [List.take_zero, List.append_nil]; exact hS⟩ ?_
  clear hro hM hS
  rintro j e w4 ⟨hj, hS⟩
  refine Gbc O ?_
  refine Cd.cond_p _ O (fun h3 => ?_) (fun h3 => ?_)
  ·have hjl : j < (gl fl (i : Int)).length := by omega
   have hro := (hS.oldRows hF).at_ (i := (i : Int)) (by omega) (by omega)
   have hx := hri.2 _ (gi_in hjl)
   have hpl := pnt0_len N ((fl.take i).flatten ++ (gl fl (i : Int)).take j)
   refine Gao O (Ops.idx hro.2 O O O (by omega) (by omega) (Ops.ld_int hro O (by omega) O O (Gdo O (Ops.idx (hS.rdB 0 O).2 O O O (by omega) (by omega) (Ops.st_bool 0 hS O O O (by omega) ?_)))))
   intro w5 hS5
   have hS5 : St w w5 [CkB 4 A5 N N (pnt (mk0 N) ((fl.take i).flatten ++ (gl fl (i : Int)).take (j + 1))), poB A1 n A N cA D m cD] := by
    rw [take_snoc hjl, ← List.append_assoc, pnt_snoc]; exact hS5
   refine Gdo O (Ops.add O O O (by omega) (Gdn O (tQ ?_)))
   exact ⟨j + 1, by show (rg rs (i : Int)).n - (j + 1) < (rg rs (i : Int)).n - j; omega, ⟨O, O, O, O, O, O, O, O, trivial⟩, by omega, hS5⟩
  rw [show (gl fl (i : Int)).take j = gl fl (i : Int) from List.take_of_length_le (by omega)] at hS
  refine Gax O (thenQ_x (Gfo O (Ops.add O O O (by omega) (Gdn O (tQ ?_)))))
  refine ⟨i + 1, by show nf - (i + 1) < nf - i; omega, ⟨O, O, O, O, O, trivial⟩, by omega, ?_⟩
  rw [List.take_succ_eq_append_getElem hiF, List.flatten_append, ← gl_mem hiF]
  simpa using hS
 have hin : i = fl.length := by omega
 rw [hin, List.take_length] at hS
 have hnof := no_false (m := N) (F := fl) (fun l hl => (hr l hl).2)
 refine Gax O (thenQ_x (Gfo O ?_))
 refine Ops.call (ContainsB_c A5 N N _ false _ (hS.rdB 0 O) (by omega)) O O O ?_
 rintro _ _ ⟨rfl, rfl⟩
 first | refine Ops.not_p rfl rfl ?_ | refine Ops.not rfl rfl ?_
 refine Gdr O (ret1_b O ?_)
 refine ⟨_, O, ?_, hS.none⟩
 rw [← hnof]
 simp
def cmnT (a b : List Int) (i : Nat) : List Int := (List.range a.length).map fun k : Nat => if i ≤ k ∨ gi a (k : Int) = gi b (k : Int) then gi a (k : Int) else -1
theorem cmnT_len (a b : List Int) (i : Nat) : (cmnT a b i).length = a.length := by simp [cmnT]
theorem cmnT_at {a b : List Int} {i k : Nat} (h : k < a.length) : gi (cmnT a b i) (k : Int) = if i ≤ k ∨ gi a (k : Int) = gi b (k : Int) then gi a (k : Int) else -1 := by
 rw [gi_mem (by rw [cmnT_len]; exact h)]
 simp [cmnT]
theorem cmnT_0 (a b : List Int) : cmnT a b 0 = a := by
 apply List.ext_getElem (cmnT_len ..)
 intro k h1 h2
 rw [← gi_mem h1, ← gi_mem h2, cmnT_at h2, if_pos (.inl (Nat.zero_le _))]
theorem cmnT_all (a b : List Int) : cmnT a b a.length = cmnP a b := by
 apply List.ext_getElem (by rw [cmnT_len, cmnP_len])
 intro k h1 h2
 have h3 : k < a.length := by rw [cmnT_len] at h1; exact h1
 rw [← gi_mem h1, ← gi_mem h2, cmnT_at h3, cmnP_at h3]
 by_cases c : gi a (k : Int) = gi b (k : Int)
 ·rw [if_pos (.inr c), if_pos c]
 rw [if_neg (by omega), if_neg c]
theorem cmnT_next {a b : List Int} {i : Nat} : cmnT a b (i + 1) = if gi a (i : Int) = gi b (i : Int) then cmnT a b i else (cmnT a b i).set i (-1) := by
  by_cases c : gi a (i : Int) = gi b (i : Int)
  · rw [if_pos c]
    apply List.ext_getElem (by simp [cmnT_len])
    intro k h1 h4
    have h3 : k < a.length := by rw [cmnT_len] at h1; exact h1
    rw [← gi_mem h1, cmnT_at h3, ← gi_mem h4, cmnT_at h3]
    by_cases e : k = i
    · subst e; rw [if_pos (.inr c), if_pos (.inr c)]
    by_cases e2 : i + 1 ≤ k ∨ gi a (k : Int) = gi b (k : Int)
    · rw [if_pos e2, if_pos (by omega)]
    rw [if_neg e2, if_neg (by omega)]
  rw [if_neg c]
  apply List.ext_getElem (by simp [cmnT_len])
  intro k h1 h2
  have h3 : k < a.length := by rw [cmnT_len] at h1; exact h1
  have h4 : k < (cmnT a b i).length := by rw [cmnT_len]; exact h3
  rw [← gi_mem h1, cmnT_at h3, List.getElem_set]
  split
  · rename_i h
    rw [if_neg (fun e => by subst e; rcases h with h | h; · omega
                            exact c h), ← gi_mem h4, cmnT_at h3, if_pos (by omega)]
  rename_i h
  by_cases e : i = k
  · rw [if_pos e]
  rw [if_neg e, ← gi_mem h4, cmnT_at h3, if_neg (fun h' => h (by omega))]
theorem commonOf_c (A A2 : Option Addr) (n c m c2 : Nat) (a b : List Int) (w : World) (hA : RdI w A n a) (hB : RdI w A2 m b) (hm : n = m) (hn : n ≤ 1000) :
  Ret Tryz.prog 153 [.slice A n c, .slice A2 m c2] w (AnsI (cmnP a b) w) := by
 subst hm
 have ha := hA.1
 have hb := hB.1
 refine Ret.of_cd Tryz.func153 O Tryz.ntmps153 O (post1 O) (Gbo O (Ops.call (Clone_c A n c a w hA (by omega)) O O O ?_))
 rintro _ w1 ⟨A5, c5, rfl, hS⟩
 have hS : St w w1 [CkI 2 A5 n c5 (cmnT a b 0)] := by rw [cmnT_0]; exact hS
 refine Gdo O (Ops.len O O (Gdc O ?_))
 refine Cd.loop (α := Nat) (fun i => [(5, .slice A5 n c5), (10, .slice A2 n c2), (11, .int .i64 (n : Int)), (12, .int .i64 (i : Int))]) (fun i w' => i ≤ n ∧ St w w' [CkI 2 A5 n c5 (cmnT a b i)]) (fun i => n - i) 0 ⟨O, O, O, O, trivial⟩ ⟨Nat.zero_le _, hS⟩ ?_
 clear hS
 rintro i e w2 ⟨hi, hS⟩
 have hl := cmnT_len a b i
 refine Gbc O ?_
 refine Cd.cond_p _ O (fun h2 => ?_) (fun h2 => ?_)
 ·have hin : i < a.length := by omega
  have hnx := cmnT_next (a := a) (b := b) (i := i)
  have hat := cmnT_at (b := b) (i := i) hin
  rw [if_pos (.inl (Nat.le_refl _))] at hat
  have hB2 := hS.oldI hB
  have h5 := hS.rdI 0 O
  refine Gao O (Ops.idx hB2.2 O O O (by omega) (by omega) (Ops.ld_int hB2 O (by omega) O O (Gdo O (Ops.idx h5.2 O O O (by omega) (by omega) (Ops.ld_int h5 O (by omega) O O (Gdc O ?_))))))
  rw [hat]
  refine Cd.cond_p _ O (fun h3 => ?_) (fun h3 => ?_)
  ·rw [if_neg h3] at hnx
   refine Gao O (Ops.idx h5.2 O O O (by omega) (by omega) (Ops.st_int 0 hS O O O (by omega) ?_))
   intro w3 hS3
   refine Gdo O (Ops.add O O O (by omega) (Gdn O (tQ ?_)))
   exact ⟨i + 1, by show n - (i + 1) < n - i; omega, ⟨O, O, O, O, trivial⟩, by omega, by rw [hnx]; exact hS3⟩
  rw [if_pos (Classical.not_not.1 h3)] at hnx
  refine Gao O (Ops.add O O O (by omega) (Gdn O (tQ ?_)))
  exact ⟨i + 1, by show n - (i + 1) < n - i; omega, ⟨O, O, O, O, trivial⟩, by omega, by rw [hnx]; exact hS⟩
 have hin : i = a.length := by omega
 rw [hin, cmnT_all] at hS
 have hl2 := cmnP_len a b
 refine Gax O (thenQ_x (Gfr O ?_))
 refine ret1_s O ?_
 exact ⟨A5, c5, by rw [hl2, ha], by rw [hl2, ha]; exact hS⟩
def plcP (xs : List Int) (x : Int) : List Int := (rngI xs.length).filter fun e => decide (gi xs e = x)
theorem plc_next {xs : List Int} {x : Int} {m : Nat} : ((rngI (m + 1)).filter fun e => decide (gi xs e = x)) = if x = gi xs (m : Int) then ((rngI m).filter fun e => decide (gi xs e = x)) ++ [(m : Int)] else ((rngI m).filter fun e => decide (gi xs e = x)) := by
 have : rngI (m + 1) = rngI m ++ [(m : Int)] := by
  unfold rngI
  rw [List.range_succ, List.map_append]; rfl
 rw [this, List.filter_append]
 by_cases c : gi xs (m : Int) = x
 ·rw [if_pos c.symm]; simp [c]
 rw [if_neg (fun h => c h.symm)]; simp [c]
theorem placesOf_c (A : Option Addr) (n c : Nat) (xs : List Int) (x : Int) (w : World) (hA : RdI w A n xs) (hn : n ≤ 100000) :
  Ret Tryz.prog 211 [.slice A n c, .int .i64 x] w (AnsI (plcP xs x) w) := by
 have ha := hA.1
 refine Ret.of_cd Tryz.func211 O Tryz.ntmps211 O (post1 O) ?_
 refine Gbo O (Ops.len O O (Gdc O ?_))
 refine Cd.loop (α := Nat × Option Addr × Nat) (fun z => [(1, .int .i64 x), (5, .slice z.2.1 ((rngI z.1).filter fun e => decide (gi xs e = x)).length z.2.2), (8, .slice A n c), (9, .int .i64 (n : Int)), (10, .int .i64 (z.1 : Int))]) (fun z w' => z.1 ≤ n ∧ St w w' [CkI 2 z.2.1 ((rngI z.1).filter fun e => decide (gi xs e = x)).length z.2.2 ((rngI z.1).filter fun e => decide (gi xs e = x))]) (fun z => n - z.1) (0, none, 0) ⟨O, O, O, O, O, trivial⟩ ⟨Nat.zero_le _, (St.refl w).nil _⟩ ?_
 rintro ⟨i, A5, c5⟩ e w1 ⟨hi, hS⟩
 dsimp only at hi hS ⊢
 have hfl : ((rngI i).filter fun e => decide (gi xs e = x)).length ≤ 100000 := by
  refine Nat.le_trans (List.length_filter_le _ _) ?_
  rw [rngI, List.length_map, List.length_range]; omega
 have hnx := plc_next (xs := xs) (x := x) (m := i)
 refine Gbc O ?_
 refine Cd.cond_p _ O (fun h2 => ?_) (fun h2 => ?_)
 ·have hA1 := hS.oldI hA
  refine Gao O (Ops.idx hA1.2 O O O (by omega) (by omega) (Ops.ld_int hA1 O (by omega) O O (Gdc O ?_)))
  refine Cd.cond_p _ O (fun h3 => ?_) (fun h3 => ?_)
  ·rw [if_pos h3] at hnx
   refine Gao O (Ops.bs1I hS O O O ?_)
   intro A9 w2 hS2
   refine Ops.appI 1 hS2 O (hS2.rdI 0 O) O O O (by omega) (by omega) O ?_
   intro AZ cZ w3 hS3
   have hS3 := hS3.tail
   refine Gdo O (Ops.add O O O (by omega) (Gdn O (tQ ?_)))
   refine ⟨(i + 1, AZ, cZ), by show n - (i + 1) < n - i; omega, ⟨O, ?_, O, O, O, trivial⟩, by show i + 1 ≤ n; omega, ?_⟩
   ·show Value.slice _ _ _ = _
    rw [hnx, List.length_append]; rfl
   show St w w3 [CkI _ _ (((rngI (i + 1)).filter _).length) _ ((rngI (i + 1)).filter _)]
   rw [hnx, List.length_append]
   exact hS3
  rw [if_neg h3] at hnx
  refine Gao O (Ops.add O O O (by omega) (Gdn O (tQ ?_)))
  refine ⟨(i + 1, A5, c5), by show n - (i + 1) < n - i; omega, ⟨O, ?_, O, O, O, trivial⟩, by show i + 1 ≤ n; omega, ?_⟩
  ·show Value.slice _ _ _ = _
   rw [hnx]
  show St w w1 [CkI _ _ (((rngI (i + 1)).filter _).length) _ ((rngI (i + 1)).filter _)]
  rw [hnx]
  exact hS
 have hin : i = xs.length := by omega
 rw [hin] at hS ⊢
 refine Gax O (thenQ_x (Gfr O ?_))
 refine ret1_s O ?_
 exact ⟨A5, c5, O, hS⟩
def rkL (n : Int) (R : List Int) (i : Int) : List Int := if 0 ≤ i ∧ i ≤ n - 1 then plcP R i else [-1]
theorem ofRank_c (P A D : Option Addr) (n : Int) (N cA m cD : Nat) (R : List Int) (i : Int) (w : World) (hP : Rd w P 3 (fun j => [Value.int .i64 n, .slice A N cA, .slice D m cD].getD j undef)) (hR : RdI w A N R) (hN : N ≤ 1000) (hn : 0 ≤ n ∧ n ≤ 100) :
  Ret Tryz.prog 151 [.pointer P, .int .i64 i] w (AnsI (rkL n R i) w) := by
 refine Ret.of_cd Tryz.func151 O Tryz.ntmps151 O (post1 O) (Gbo O ?_)
 refine Ops.nilp hP (by decide) O O ?_
 refine Ops.fld hP O O O O inferInstance (Ops.ldf_i (j := 0) hP (by exact congrArg Value.pointer O) O O O O (Ops.sub O O O (by omega) (Ops.call (within_c _ _ _ _) O O O ?_)))
 rintro _ _ ⟨rfl, rfl⟩
 first | refine Ops.not_p rfl rfl ?_ | refine Ops.not rfl rfl ?_
 refine Gdc O ?_
 refine Cd.cond_p _ O (fun h2 => ?_) (fun h2 => ?_)
 ·refine Gao O (Ops.bs1I (i := -1) (St.refl _) O O O ?_)
  intro A9 w2 hS2
  refine Gdr O (ret1_s O ?_)
  unfold AnsI rkL
  rw [if_neg h2]
  exact ⟨A9, 1, O, hS2⟩
 refine Gao O ?_
 refine Ops.nilp hP (by decide) O O ?_
 refine Ops.fld hP O O O O inferInstance (Ops.ldf_s hP O O O O O (Gdo O (Ops.call (placesOf_c A N cA R i _ hR (by omega)) O O O ?_)))
 rintro _ w2 ⟨A9, c9, rfl, hS2⟩
 refine Gdr O (ret1_s O ?_)
 unfold AnsI rkL
 rw [if_pos (Classical.not_not.1 h2)]
 exact ⟨A9, c9, O, hS2⟩
end Go.Proofs.YtopgfgdgfjddpaaGreatDoor.Vc
/-
 Maps of one's own: made, looked up, written.
-/
namespace Go.Proofs.YtopgfgdgfjddpaaGreatDoor.Vc
open Go.RowKit Go.MapKept
structure KeyT {κ : Type} (d : TypeDesc) (kv : κ → Value) : Prop where
 isKey : ∀ a, IsKey d (kv a)
 inj : ∀ a b, kv a = kv b → a = b
theorem keyS : KeyT .string Value.string := ⟨fun _ => trivial, fun a b h => by injection h⟩
section
variable {κ ν : Type} [DecidableEq κ]
def getA : List (κ × ν) → κ → Option ν
  | [], _ => none
  | (y, v) :: r, x => if y = x then some v else getA r x
def putA : List (κ × ν) → κ → ν → List (κ × ν)
  | [], x, v => [(x, v)]
  | (y, u) :: r, x, v => if y = x then (x, v) :: r else (y, u) :: putA r x v
def fndA : List (κ × ν) → κ → Option (Nat × ν)
  | [], _ => none
  | (y, v) :: r, x => if y = x then some (0, v) else (fndA r x).map fun p => (p.1 + 1, p.2)
theorem fndA_get : ∀ (L : List (κ × ν)) (x : κ), getA L x = (fndA L x).map (·.2)
  | [], _ => rfl
  | (y, v) :: r, x => by
    simp only [getA, fndA]
    split
    · rfl
    · rw [fndA_get r x, Option.map_map]; rfl
theorem fndA_some : ∀ {L : List (κ × ν)} {x : κ} {j : Nat} {v : ν}, fndA L x = some (j, v) → L[j]? = some (x, v) ∧ ∀ u, putA L x u = L.set j (x, u)
  | (y, w) :: r, x, j, v, h => by
    simp only [fndA] at h
    split at h
    · rename_i e
      simp only [Option.some.injEq, Prod.mk.injEq] at h
      obtain ⟨rfl, rfl⟩ := h
      subst e
      exact ⟨O, fun u => by simp [putA]⟩
    · rename_i e
      cases hf : fndA r x with
      | none => simp [hf] at h
      | some p =>
        simp only [hf, Option.map_some, Option.some.injEq, Prod.mk.injEq] at h
        obtain ⟨rfl, rfl⟩ := h
        obtain ⟨h1, h2⟩ := fndA_some (L := r) (x := x) (j := p.1) (v := p.2) hf
        exact ⟨by simpa using h1, fun u => by simp only [putA, if_neg e, h2 u, List.set_cons_succ]⟩
theorem fndA_none : ∀ {L : List (κ × ν)} {x : κ}, fndA L x = none → ∀ u, putA L x u = L ++ [(x, u)]
  | [], x, _, u => rfl
  | (y, w) :: r, x, h, u => by
    simp only [fndA] at h
    split at h
    · cases h
    · rename_i e
      rw [Option.map_eq_none_iff] at h
      simp only [putA, if_neg e, fndA_none h u, List.cons_append]
theorem getA_put (L : List (κ × ν)) (x y : κ) (u : ν) : getA (putA L x u) y = if x = y then some u else getA L y := by
 induction L with
 | nil => simp only [putA, getA]
 | cons p r ih =>
  obtain ⟨z, w⟩ := p
  simp only [putA]
  by_cases e : z = x
  ·subst e
   rw [if_pos rfl]
   simp only [getA]
   split <;> simp_all
  ·rw [if_neg e]
   simp only [getA, ih]
   by_cases e2 : z = y
   ·subst e2
    rw [if_pos rfl, if_neg (fun h => e h.symm), if_pos rfl]
   ·rw [if_neg e2, if_neg e2]
def prV (kv : κ → Value) (vv : ν → Value) (L : List (κ × ν)) : List (Value × Value) := L.map fun p => (kv p.1, vv p.2)
theorem findNow_A {d : TypeDesc} {kv : κ → Value} {vv : ν → Value} (K : KeyT d kv) (x : κ) : ∀ (l : List MapEntry) (L : List (κ × ν)) (i : Nat), l.map (fun e => (e.key, e.val)) = prV kv vv L → Instr.findNow d (kv x) l i = some ((fndA L x).map fun p => (i + p.1, vv p.2))
 | [], [], _, _ => rfl
 | [], _ :: _, _, h => by simp [prV] at h
 | _ :: _, [], _, h => by simp [prV] at h
 | e :: l, (y, v) :: L, i, h => by
  simp only [prV, List.map_cons, List.cons.injEq, Prod.mk.injEq] at h
  obtain ⟨⟨h1, h2⟩, h3⟩ := h
  obtain ⟨r, hr, hiff⟩ := sameNow_of_keys (K.isKey x) (K.isKey y)
  simp only [Instr.findNow, fndA]
  rw [h1, hr]
  cases r with
  | true =>
   have e1 := K.inj _ _ (hiff.1 O)
   subst e1
   simp [h2]
  | false =>
   have hne : ¬ y = x := fun q => by
    have := hiff.2 (by rw [q])
    cases this
   rw [if_neg hne]
   simp only
   rw [findNow_A K x l L (i + 1) h3, Option.map_map]
   congr 2
   funext p
   simp only [Function.comp]
   rw [Nat.add_assoc, Nat.add_comm 1]
end
def CkM (t : TypeId) (g : Nat) (kvs : List (Value × Value)) : Ck := ⟨some ⟨g, 0, none⟩, 0, 0, t, .tuple #[] :: flatM kvs⟩
def RdM (w : World) (g : Nat) (kvs : List (Value × Value)) : Prop := ∃ es cl, w.heap[g]? = some (.map es cl) ∧ es.toList.map (fun e => (e.key, e.val)) = kvs
section
variable {w0 w w' : World} {ks : List Ck} {t : TypeId} {g : Nat} {kvs : List (Value × Value)}
theorem St.ownM (h : St w0 w ks) (i : Nat) (hk : ks[i]? = some (CkM t g kvs)) : w0.heap.size ≤ g ∧ RdM w g kvs := by
 rcases (h.get hk).cases with ⟨_, _, _, g', es, cl, hA, hg, hh, hv⟩ | ⟨hm, _⟩
 ·have hA : some (⟨g, 0, Option.none⟩ : Addr) = some ⟨g', 0, Option.none⟩ := hA
  simp only [Option.some.injEq, Addr.mk.injEq, and_true] at hA
  subst hA
  have hv : (.tuple #[] :: flatM kvs : List Value) = .tuple #[] :: flatM (es.toList.map fun e => (e.key, e.val)) := hv
  simp only [List.cons.injEq, true_and] at hv
  exact ⟨hg, es, cl, hh, (flatM_inj hv).symm⟩
 cases hm
theorem St.rdM (h : St w0 w ks) (i : Nat) (hk : ks[i]? = some (CkM t g kvs)) : RdM w g kvs := (h.ownM i hk).2
theorem St.allocM (h : St w0 w ks) (t : TypeId) : St w0 (w.alloc (.map #[] 0)) (CkM t w.heap.size [] :: ks) := by
 have hb : Below w.heap.size w (w.alloc (.map #[] 0)) := (Below.refl _ _).alloc (Nat.le_refl _) _
 have h1 := h.later hb
 refine ⟨h1.below, fun k hk => ?_, ?_⟩
 ·rcases List.mem_cons.1 hk with rfl | hk
  ·exact .ofM O ⟨O, O, _, #[], 0, O, h.below.size, heap_alloc_new w _, O⟩
  exact h1.own k hk
 simp only [List.filterMap_cons, CkM, Ck.blk, Option.map_some, List.nodup_cons]
 refine ⟨fun hin => ?_, h.apart⟩
 obtain ⟨k', hk', hkb⟩ := List.mem_filterMap.1 hin
 have := ((h.own k' hk').lt hkb).2
 omega
theorem St.turnM {i : Nat} {kvs' : List (Value × Value)} {es' : Array MapEntry} {cl' : Nat} (h : St w0 w ks) (hk : ks[i]? = some (CkM t g kvs)) (hv : es'.toList.map (fun e => (e.key, e.val)) = kvs') : St w0 { w with heap := w.heap.setIfInBounds g (.map es' cl') } (ks.set i (CkM t g kvs')) := by
 obtain ⟨hg, es, cl, hh, _⟩ := h.ownM i hk
 refine h.turn (k := CkM t g kvs) (k' := CkM t g kvs') (g := g) hk O O ⟨⟨O, O, O, by simp, fun x _ hx => ?_⟩, Nat.le_refl _⟩ ?_
 ·exact (heap_set hh).2 x fun e => hx (by rw [e])
 refine .ofM O ⟨O, O, g, es', cl', O, hg, (heap_set hh).1, ?_⟩
 rw [hv]; rfl
end
section
variable {P : Program} {N : Nat} {ops : Array Oper} {K : Env → World → Prop} {rest : List Oper} {e : Env} {w0 w w' : World} {ks : List Ck} {d : Nat} {ty : TypeId} {pos : String} {af : Array Edge}
variable {κ ν : Type} [DecidableEq κ] {kd : TypeDesc} {kv : κ → Value} {vv : ν → Value}
theorem Ops.mkmap {t : TypeId} (hS : St w0 w ks) (hb : Nat.blt d N = true) (hK : ∀ g w', St w0 w' (CkM t g [] :: ks) → Ops P N ops K rest (upd e d (.map (some g))) w') :
  Ops P N ops K (⟨some d, .makeMap t none, ty, pos, af, none⟩ :: rest) e w :=
 .val (w' := w.alloc (.map #[] 0)) (by simp [execOp, run_makeMap]) hb (hK _ _ (hS.allocM t))
theorem run_look {t kt et : TypeId} {z : Value} {s b : Nat} [hU : Und P t (.map kt et)] [hk : Und P kt kd] [Inf P et z s b] (KT : KeyT kd kv) {g : Nat} {L : List (κ × ν)} {x : κ} (hR : RdM w g (prV kv vv L)) (ok : Bool) :
    (Instr.lookup t (.map (some g)) (kv x) ok).run P w = .ok (if ok then .tuple #[((getA L x).map vv).getD z, .bool (getA L x).isSome] else ((getA L x).map vv).getD z) w := by
  obtain ⟨es, cl, hh, hm⟩ := hR
  obtain ⟨inf, hi, hz0, _, _⟩ := Inf.get P et
  have hf := findNow_A (vv := vv) KT x es.toList L 0 hm
  rw [fndA_get]
  unfold Instr.lookup
  simp only [Sem.run_bind, run_underlying hU.out, Result.andThen, MapKept.run_getObj_map hh, MapKept.run_checkKey hk.out (KT.isKey x)]
  cases hfn : fndA L x with
  | none =>
    rw [hfn] at hf
    have hfk := MapKept.run_findKey (P := P) (w := w) hk.out hf
    cases ok <;> simp [hfk, zeroValue, typeInfo, hi, hz0]
  | some p =>
    rw [hfn] at hf
    have hfk := MapKept.run_findKey (P := P) (w := w) hk.out hf
    cases ok <;> simp [hfk]
theorem Ops.look {t kt et : TypeId} {z v : Value} {s b : Nat} [Und P t (.map kt et)] [Und P kt kd] [Inf P et z s b] (KT : KeyT kd kv) {g : Nat} {L : List (κ × ν)} {m ix : Operand} {x : κ} (hR : RdM w g (prV kv vv L)) (hx : ev e m = .map (some g)) (hy : ev e ix = kv x) (hv : ((getA L x).map vv).getD z = v) (hb : Nat.blt d N = true) (hK : Ops P N ops K rest (upd e d v) w) : Ops P N ops K (⟨some d, .lookup t m ix false, ty, pos, af, none⟩ :: rest) e w := by
 subst hv
 refine .val (w' := w) ?_ hb hK
 have := run_look (P := P) (t := t) (x := x) KT hR false
 simp [execOp, hx, hy, this]
theorem Ops.lookIok {t kt et : TypeId} {b : Nat} [Und P t (.map kt et)] [Und P kt kd] [Inf P et (.int .i64 0) 1 b] (KT : KeyT kd kv) {g : Nat} {L : List (κ × Int)} {m ix : Operand} (x : κ) (hR : RdM w g (prV kv (Value.int .i64) L)) (hx : ev e m = .map (some g)) (hy : ev e ix = kv x) (hb : Nat.blt d N = true) (hK : Ops P N ops K rest (upd e d (.tuple #[.int .i64 ((getA L x).getD 0), .bool (getA L x).isSome])) w) : Ops P N ops K (⟨some d, .lookup t m ix true, ty, pos, af, none⟩ :: rest) e w := by
 refine .val (w' := w) ?_ hb hK
 have := run_look (P := P) (t := t) (x := x) KT hR true
 have e1 : ((getA L x).map (Value.int .i64)).getD (.int .i64 0) = .int .i64 ((getA L x).getD 0) := by cases getA L x <;> rfl
 rw [e1] at this
 simp [execOp, hx, hy, this]
theorem run_upd {t kt et T : TypeId} [hU : Und P t (.map kt et)] [hk : Und P kt kd] (KT : KeyT kd kv) {g : Nat} {L : List (κ × ν)} (i : Nat) (x : κ) (u : ν) (hS : St w0 w ks) (hi : ks[i]? = some (CkM T g (prV kv vv L))) :
  ∃ w', (Instr.mapUpdate t (.map (some g)) (kv x) (vv u)).run P w = .ok () w' ∧ St w0 w' (ks.set i (CkM T g (prV kv vv (putA L x u)))) := by
 obtain ⟨_, es, cl, hh, hm⟩ := hS.ownM i hi
 have hf := findNow_A (vv := vv) KT x es.toList L 0 hm
 have hfk := MapKept.run_findKey (P := P) (w := w) hk.out hf
 cases hfn : fndA L x with
 | none =>
  refine ⟨{ w with heap := w.heap.setIfInBounds g (.map (es.push ⟨kv x, vv u, cl⟩) (cl + 1)) }, ?_, hS.turnM hi ?_⟩
  ·simp [Instr.mapUpdate, run_underlying hU.out, MapKept.run_getObj_map hh, MapKept.run_checkKey hk.out (KT.isKey x), hfk, hfn, MapKept.run_setObj_map _ hh, Result.andThen]
  ·rw [fndA_none hfn]
   simp only [Array.toList_push, List.map_append, hm, prV]
   rfl
 | some p =>
  obtain ⟨j, v⟩ := p
  obtain ⟨h1, h2⟩ := fndA_some hfn
  have hjl : j < L.length := (List.getElem?_eq_some_iff.1 h1).1
  have hel : es.toList.length = L.length := by have := congrArg List.length hm; simpa [prV] using this
  have hes : es.size = L.length := by simpa using hel
  have hje : j < es.size := by omega
  have hkey : es[j].key = kv x := by
   have := congrArg (fun l => l[j]?) hm
   simp [prV, h1, hje] at this
   exact this.1
  have hst := MapKept.run_keyThatStays (P := P) (w := w) (KT.isKey x)
  refine ⟨{ w with heap := w.heap.setIfInBounds g (.map (es.modify j fun e => { e with key := kv x, val := vv u }) cl) }, ?_, hS.turnM hi ?_⟩
  ·simp [Instr.mapUpdate, run_underlying hU.out, MapKept.run_getObj_map hh, MapKept.run_checkKey hk.out (KT.isKey x), hfk, hfn, MapKept.run_setObj_map _ hh, Result.andThen, hje, hkey, hst]
  ·rw [h2 u]
   apply List.ext_getElem?
   intro q
   have hq := congrArg (fun l => l[q]?) hm
   simp only [prV, List.getElem?_map, Array.getElem?_toList] at hq
   simp only [prV, List.getElem?_map, List.getElem?_set, Array.getElem?_toList, Array.getElem?_modify]
   by_cases e1 : j = q
   ·subst e1
    simp [hje, hjl]
   ·rw [if_neg e1, if_neg e1]
    exact hq
def updOf : Op → Option (TypeId × Operand × Operand × Operand)
 | .mapUpdate t m k x => some (t, m, k, x)
 | .insert t m k x => some (t, m, k, x)
 | _ => none
theorem Ops.upm {op : Op} {t kt et T : TypeId} {m k x : Operand} [hU : Und P t (.map kt et)] [Und P kt kd] (hop : updOf op = some (t, m, k, x)) (KT : KeyT kd kv) {g : Nat} {L : List (κ × ν)} (i : Nat) {a : κ} {u : ν} (hS : St w0 w ks) (hi : ks[i]? = some (CkM T g (prV kv vv L))) (hm : ev e m = .map (some g)) (hk : ev e k = kv a) (hx : ev e x = vv u) (hK : ∀ w', St w0 w' (ks.set i (CkM T g (prV kv vv (putA L a u)))) → Ops P N ops K rest e w') : Ops P N ops K (⟨none, op, ty, pos, af, none⟩ :: rest) e w := by
 obtain ⟨w', hrun, hS'⟩ := run_upd (P := P) (t := t) KT i a u hS hi
 refine .unit (w' := w') ?_ (hK _ hS')
 cases op <;> simp [updOf] at hop <;> obtain ⟨rfl, rfl, rfl, rfl⟩ := hop <;> simp [execOp, hm, hk, hx, hrun]
end
end Go.Proofs.YtopgfgdgfjddpaaGreatDoor.Vc
