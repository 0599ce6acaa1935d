/-
  The texts Co31, Cw1, Cw2, Dr0, Open, Opm, Opy, Cw3, Co18, Co20, Co24, Co25, Co32, Cw6, Cw7, Cpc, Rk1, Co33 in one. Conditions: as each part states them.
-/
import Derived.Test.YtiblelgfkakmiaaGreatDoorZf
import Derived.Test.YtiblelgfkakmiaaGreatDoorZb
import Derived.Test.YtiblelgfkakmiaaGreatDoorZa
import Derived.Test.YtiblelgfkakmiaaGreatDoorInst
import Derived.Deep.Matrix
import Derived.Carry
import Derived.Below
import Derived.ChangeSame
import Derived.ProofKit
import Derived.OpenShut
import Derived.Handed
import Derived.Lib.SmallJoins
import Derived.Test.YtiblelgfkakmiaaGreatDoorZd
import Derived.Test.YtiblelgfkakmiaaGreatDoorZe
import Derived.Test.YtiblelgfkakmiaaGreatDoorZc
import Derived.Lib.AppendZeros
/-
 Joins of complexes, walked in the reference; and joins on both sides.
-/
namespace Go.Proofs.YtiblelgfkakmiaaGreatDoor.Vc
open Go.RowKit
theorem mat_two {t1 t2 : TypeId} {A B : Option Addr} {n c m d : Nat} {rs ts : List SlV} {F G : List (List Int)} : (mat t1 t2 B m d ts G ++ (mat t1 t2 A n c rs F ++ [])).Perm (CkR t1 A n c rs :: CkR t1 B m d ts :: (rowsCk t2 rs F ++ rowsCk t2 ts G)) := by
 rw [List.append_nil]
 refine List.perm_append_comm.trans ?_
 exact List.Perm.cons _ List.perm_middle
theorem two_eq {a b c d : Value} (h : a = c) (h' : b = d) : [a, b] = [c, d] := by rw [h, h']
theorem rowLen {w : World} {A : Option Addr} {n : Nat} {rs : List SlV} {F : List (List Int)} (hR : RowsI w A n rs F) {b : Nat} (h : ∀ f ∈ F, f.length ≤ b) : ∀ i, i < n → (rs.getD i slNil).n ≤ b := fun i hi => by
 have h1 := (hR.row i hi).1
 have h2 : F.getD i [] ∈ F := by
  have := hR.len
  rw [List.getD_eq_getElem?_getD, List.getElem?_eq_getElem (show i < F.length by omega)]; exact List.getElem_mem _
 have := h _ h2
 omega
set_option maxHeartbeats 1000000 in
theorem l17Join_c (V : Int) (A : Option Addr) (n c : Nat) (rs : List SlV) (F : List (List Int)) (W : Int) (B : Option Addr) (m d : Nat) (ts : List SlV) (G : List (List Int)) (w : World) (hR : RowsI w A n rs F) (hQ : RowsI w B m ts G) (hF : Cplx V F) (hG : Cplx W G) :
    Ret Tryz.prog 45 [.agg #[.int .i64 V, .slice A n c], .agg #[.int .i64 W, .slice B m d]] w (AnsC (jnV V F G) (jnLs V F G) (jnK V F G) w) := by
  have hFl := hR.len
  have hGl := hQ.len
  have hn4 := hF.f
  have hm4 := hG.f
  have hV := hF.v
  have hra := rowLen hR (b := 1000000000) fun f hf => by have := (hF.row f hf).1; omega
  have hrb := rowLen hQ (b := 1000000000) fun f hf => by have := (hG.row f hf).1; omega
  refine Ret.of_cd Tryz.func45 rfl Tryz.ntmps45 rfl (postc2 rfl rfl) (Cd.seq (Cd.region (Ops.box2 (St.refl w) rfl rfl ?_)))
  intro A2 w1 hS1
  refine Ops.box2 hS1 rfl rfl ?_
  intro A3 w2 hS2
  refine Ops.new2 hS2 rfl ?_
  intro A4 w3 hS3
  have hS3 : St w w3 [cxZ A4, cxB A3 W B m d, cxB A2 V A n c] := hS3
  clear hS1 hS2
  refine Ops.mi rfl rfl rfl (Ops.n (tQ (Cd.seq (Cd.seq (Cd.region (Ops.fld (hS3.rd 2 rfl) rfl rfl rfl rfl inferInstance (Ops.ldf_s (hS3.rd 2 rfl) rfl rfl rfl rfl rfl (Ops.len rfl rfl (Ops.eql rfl rfl rfl ?_)))))))))
  refine Ops.mb rfl rfl rfl ?_
  refine Ops.split_p 15 rfl (fun h1 => ?_) (fun h1 => ?_)
  · have hF0 : F = [] := List.eq_nil_of_length_eq_zero (by omega)
    have hbig : ¬ JnBig F G := fun h => h.1 hF0
    obtain ⟨hL1, hL2, hL3⟩ := hF.jn hG hbig
    have hjs : jnS V F G = F ++ G := by unfold jnS; rw [if_pos (.inl hF0)]
    rw [hjs] at hL1 hL2 hL3
    unfold jnV jnLs jnK
    rw [if_neg hbig, if_neg hbig, if_neg hbig, hjs]
    refine Ops.k rfl rfl rfl rfl rfl (Ops.k rfl rfl rfl rfl rfl (Ops.k rfl rfl rfl rfl rfl (Ops.k rfl rfl rfl rfl rfl (Ops.pick_t rfl rfl rfl (Ops.n (tQ (Cd.cond_t rfl (Cd.seq ?_))))))))
    refine Cd.drawP [6, 10] [.ex (.pointer (ptrAt (A2) 1)), .ex (.slice (A) (n) (c)), .pr (fun v w' => ∃ A1 c1 rs1, v = .slice A1 n c1 ∧ rs1.length = n ∧ St w3 w' (mat 28 2 A1 n c1 rs1 F ++ [])), .ex (.pointer (ptrAt (A3) 1)), .ex (.slice (B) (m) (d)), .p2 2 (fun a v w' => ∃ A1 c1 rs1 A5 c5 rs5, a = .slice A1 n c1 ∧ v = .slice A5 m c5 ∧ rs1.length = n ∧ rs5.length = m ∧ St w3 w' (mat 28 2 A5 m c5 rs5 G ++ (mat 28 2 A1 n c1 rs1 F ++ []))), .pr (fun v w' => ∃ A7 c7 rs7, v = .slice A7 (n + m) c7 ∧ rs7.length = n + m ∧ St w3 w' (mat 28 2 A7 (n + m) c7 rs7 (F ++ G) ++ [])), .pr (fun v w' => ∃ A8 c8 rs8, v = .tuple #[.agg #[.int .i64 (cxV (F ++ G)), .slice A8 (cxL (F ++ G)).length c8], .int .i64 (cxK (F ++ G))] ∧ rs8.length = (cxL (F ++ G)).length ∧ St w3 w' (mat 28 2 A8 (cxL (F ++ G)).length c8 rs8 (cxL (F ++ G)) ++ [])), .pr (fun v w' => ∃ A8 c8 rs8, v = .agg #[.int .i64 (cxV (F ++ G)), .slice A8 (cxL (F ++ G)).length c8] ∧ rs8.length = (cxL (F ++ G)).length ∧ St w3 w' (mat 28 2 A8 (cxL (F ++ G)).length c8 rs8 (cxL (F ++ G)) ++ [])), .ex (.int .i64 (cxK (F ++ G))), .pr (fun _ w' => ∃ A8 c8 rs8, rs8.length = (cxL (F ++ G)).length ∧ St w w' ([cxB A4 (cxV (F ++ G)) A8 (cxL (F ++ G)).length c8, cxB A3 W B m d, cxB A2 V A n c] ++ (mat 28 2 A8 (cxL (F ++ G)).length c8 rs8 (cxL (F ++ G)) ++ []))), .ex (.int .i64 (cxK (F ++ G)))] (by kernel_rfl) (by kernel_rfl) (ly (ly (List.forall_mem_cons.2 ⟨Ye.lasts_pr (fun v w w' h hb => by obtain ⟨A1, c1, rs1, hv, hl, hT⟩ := h; exact ⟨A1, c1, rs1, hv, hl, hT.later hb⟩), (ly (ly (List.forall_mem_cons.2 ⟨Ye.lasts_p2 (fun a v w w' h hb => by obtain ⟨A1, c1, rs1, A5, c5, rs5, h1, h2, h3, h4, hT⟩ := h; exact ⟨A1, c1, rs1, A5, c5, rs5, h1, h2, h3, h4, hT.later hb⟩), (List.forall_mem_cons.2 ⟨Ye.lasts_pr (fun v w w' h hb => by obtain ⟨A1, c1, rs1, hv, hl, hT⟩ := h; exact ⟨A1, c1, rs1, hv, hl, hT.later hb⟩), (List.forall_mem_cons.2 ⟨Ye.lasts_pr (fun v w w' h hb => by obtain ⟨A1, c1, rs1, hv, hl, hT⟩ := h; exact ⟨A1, c1, rs1, hv, hl, hT.later hb⟩), (List.forall_mem_cons.2 ⟨Ye.lasts_pr (fun v w w' h hb => by obtain ⟨A1, c1, rs1, hv, hl, hT⟩ := h; exact ⟨A1, c1, rs1, hv, hl, hT.later hb⟩), (ly (List.forall_mem_cons.2 ⟨Ye.lasts_pr (fun v w w' h hb => by obtain ⟨A1, c1, rs1, hl, hT⟩ := h; exact ⟨A1, c1, rs1, hl, hT.later hb⟩), (ly (fun _ h => by cases h))⟩))⟩)⟩)⟩)⟩)))⟩))) ⟨?_, ?_, ?_, ?_, ?_, ?_, ?_, ?_, ?_, ?_, ?_, ?_, trivial⟩ ?_
    · intro e1 w1 cc hlo hhi hb0 hp hun hq
      show Ops _ _ _ _ _ _ _
      obtain rfl := cc_of hlo hhi (b := 0) (by kernel_rfl) (by kernel_rfl)
      have hb := hb0 rfl
      refine Ops.fld ((hS3.rd 2 rfl).below hb) rfl rfl rfl rfl inferInstance (Ops.n (p0_ rfl (by exact rfl)))
    · intro e1 w1 cc hlo hhi hb0 hp hun hq
      show Ops _ _ _ _ _ _ _
      obtain rfl := cc_of hlo hhi (b := 0) (by kernel_rfl) (by kernel_rfl)
      have hb := hb0 rfl
      refine Ops.ldf_s ((hS3.rd 2 rfl).below hb) rfl rfl rfl rfl rfl (Ops.n (p0_ rfl (by exact rfl)))
    · intro e1 w1 cc hlo hhi hb0 hp hun hq
      show Ops _ _ _ _ _ _ _
      obtain rfl := cc_of hlo hhi (b := 0) (by kernel_rfl) (by kernel_rfl)
      have hb := hb0 rfl
      refine Ops.call (l01Own2_c A n c rs F _ ((hS3.later hb).oldRows hR) (by omega) hra) rfl rfl rfl ?_
      rintro _ w9 ⟨A1, c1, rs1, rfl, hrl, hst⟩
      refine Ops.n ?_
      exact AfterP.dn rfl hst.below ⟨A1, c1, rs1, rfl, hrl, ((St.refl w3).later hb).call hst⟩
    · intro e1 w1 cc hlo hhi hb0 hp hun hq
      show Ops _ _ _ _ _ _ _
      obtain rfl := cc_of hlo hhi (b := 0) (by kernel_rfl) (by kernel_rfl)
      have hb := hb0 rfl
      refine Ops.fld ((hS3.rd 1 rfl).below hb) rfl rfl rfl rfl inferInstance (Ops.n (p0_ rfl (by exact rfl)))
    · intro e1 w1 cc hlo hhi hb0 hp hun hq
      show Ops _ _ _ _ _ _ _
      obtain rfl := cc_of hlo hhi (b := 0) (by kernel_rfl) (by kernel_rfl)
      have hb := hb0 rfl
      refine Ops.ldf_s ((hS3.rd 1 rfl).below hb) rfl rfl rfl rfl rfl (Ops.n (p0_ rfl (by exact rfl)))
    · intro e1 w1 cc hlo hhi hb0 hp hun hq
      show Ops _ _ _ _ _ _ _
      obtain rfl := cc_of hlo hhi (b := 0) (by kernel_rfl) (by kernel_rfl)
      have hb := hb0 rfl
      obtain ⟨A1, c1, rs1, h23, hl1, hT⟩ := (hp 2 _ _ (by kernel_rfl) rfl rfl (by kernel_rfl))
      refine Ops.call (l01Own2_c B m d ts G _ ((hS3.later hb).oldRows hQ) (by omega) hrb) rfl rfl rfl ?_
      rintro _ w9 ⟨A5, c5, rs5, rfl, hrl5, hst⟩
      refine Ops.n ?_
      exact AfterP.dn rfl hst.below ⟨A1, c1, rs1, A5, c5, rs5, h23, rfl, hl1, hrl5, hT.call hst⟩
    · intro e1 w1 cc hlo hhi hb0 hp hun hq
      show Ops _ _ _ _ _ _ _
      obtain rfl := cc_of hlo hhi (b := 0) (by kernel_rfl) (by kernel_rfl)
      have hb := hb0 rfl
      obtain ⟨A1, c1, rs1, A5, c5, rs5, h23, h26, hl1, hl5, hT⟩ := (hp 5 _ _ (by kernel_rfl) rfl rfl (by kernel_rfl))
      refine Ops.call (l17Append_c 0 1 (hT.perm mat_two) (by decide) rfl rfl (by omega) (by omega)) rfl (by exact two_eq h23 h26) rfl ?_
      rintro _ w9 ⟨A7, c7, rfl, hst⟩
      refine Ops.n ?_
      exact AfterU.dn rfl ⟨A7, c7, rs1 ++ rs5, rfl, by rw [List.length_append, hl1, hl5], by unfold mat; rw [rowsCk_append (by omega), List.append_nil]; exact St.sub hst (List.Sublist.cons_cons _ (List.sublist_cons_self _ _))⟩
    · intro e1 w1 cc hlo hhi hb0 hp hun hq
      show Ops _ _ _ _ _ _ _
      obtain rfl := cc_of hlo hhi (b := 1) (by kernel_rfl) (by kernel_rfl)
      have hph := hp 6 _ _ (by kernel_rfl) rfl rfl (by kernel_rfl)
      obtain ⟨A7, c7, rs7, h27, hl7, hT⟩ := (hp 6 _ _ (by kernel_rfl) rfl rfl (by kernel_rfl))
      refine Ops.call (l17Make_c A7 _ c7 rs7 (F ++ G) _ (St.rowsI hT (by rw [List.length_append, hFl, hGl])) (by omega) (by omega) (fun l hl => (hL2 l hl).1)) rfl (by exact congrArg (fun v => [v]) h27) rfl ?_
      rintro _ w9 ⟨A8, c8, rs8, rfl, hrl8, hst⟩
      refine Ops.n ?_
      exact AfterP.dn rfl hst.below ⟨A8, c8, rs8, rfl, hrl8, (hT.call hst).sub (List.sublist_append_left _ _)⟩
    · intro e1 w1 cc hlo hhi hb0 hp hun hq
      show Ops _ _ _ _ _ _ _
      obtain rfl := cc_of hlo hhi (b := 1) (by kernel_rfl) (by kernel_rfl)
      have hph := hp 6 _ _ (by kernel_rfl) rfl rfl (by kernel_rfl)
      obtain ⟨A8, c8, rs8, h28, hl8, hT⟩ := (hp 7 _ _ (by kernel_rfl) rfl rfl (by kernel_rfl))
      refine Ops.extract (by exact h28) rfl rfl (Ops.n ?_)
      exact AfterP.dn rfl (Below.refl _ _) ⟨A8, c8, rs8, rfl, hl8, hT⟩
    · intro e1 w1 cc hlo hhi hb0 hp hun hq
      show Ops _ _ _ _ _ _ _
      obtain rfl := cc_of hlo hhi (b := 1) (by kernel_rfl) (by kernel_rfl)
      have hph := hp 6 _ _ (by kernel_rfl) rfl rfl (by kernel_rfl)
      obtain ⟨A8, c8, rs8, h28, hl8, hT⟩ := (hp 7 _ _ (by kernel_rfl) rfl rfl (by kernel_rfl))
      refine Ops.extract (by exact h28) rfl rfl (Ops.n (p0_ rfl (by exact rfl)))
    · intro e1 w1 cc hlo hhi hb0 hp hun hq
      show Ops _ _ _ _ _ _ _
      obtain rfl := cc_of hlo hhi (b := 1) (by kernel_rfl) (by kernel_rfl)
      have hph := hp 6 _ _ (by kernel_rfl) rfl rfl (by kernel_rfl)
      obtain ⟨A8, c8, rs8, h29, hl8, hT⟩ := (hp 8 _ _ (by kernel_rfl) rfl rfl (by kernel_rfl))
      have hX := hS3.call2 hT
      refine Ops.st_agg 2 0 hX rfl rfl (by exact h29) rfl rfl rfl rfl ?_
      intro w9 hS9
      refine Ops.n ?_
      exact AfterU.st rfl ⟨A8, c8, rs8, hl8, hS9⟩
    · intro e1 w1 cc hlo hhi hb0 hp hun hq
      show Ops _ _ _ _ _ _ _
      refine Ops.mi rfl rfl rfl (Ops.n (p0_ rfl (by exact rfl)))
    intro u w5 _ hu _ _
    obtain ⟨A8, c8, rs8, hl8, hS9⟩ := hu 10 _ rfl (by kernel_rfl)
    refine tQ (Cd.ret (thenQ_r ?_))
    skip
    refine retc2_r rfl (hS9.rd 0 rfl) rfl ?_
    exact ⟨A8, c8, rs8, rfl, hl8, hS9.tail.tail.tail⟩
  have hF0 : F ≠ [] := fun e => h1 (by rw [e] at hFl; simp at hFl; omega)
  refine Ops.g rfl rfl rfl (Ops.fld (hS3.rd 1 rfl) rfl rfl rfl rfl inferInstance (Ops.g rfl rfl rfl (Ops.ldf_s (hS3.rd 1 rfl) rfl rfl rfl rfl rfl (Ops.g rfl rfl rfl (Ops.len rfl rfl (Ops.g rfl rfl rfl (Ops.eql rfl rfl rfl (Ops.pick_f rfl rfl rfl (Ops.n ?_)))))))))
  refine tQ ?_
  refine Cd.cond_p _ rfl (fun h2 => ?_) (fun h2 => ?_)
  · have hG0 : G = [] := List.eq_nil_of_length_eq_zero (by omega)
    have hbig : ¬ JnBig F G := fun h => h.2.1 hG0
    obtain ⟨hL1, hL2, hL3⟩ := hF.jn hG hbig
    have hjs : jnS V F G = F ++ G := by unfold jnS; rw [if_pos (.inr hG0)]
    rw [hjs] at hL1 hL2 hL3
    unfold jnV jnLs jnK
    rw [if_neg hbig, if_neg hbig, if_neg hbig, hjs]
    refine Cd.seq ?_
    refine Cd.drawP [6, 10] [.ex (.pointer (ptrAt (A2) 1)), .ex (.slice (A) (n) (c)), .pr (fun v w' => ∃ A1 c1 rs1, v = .slice A1 n c1 ∧ rs1.length = n ∧ St w3 w' (mat 28 2 A1 n c1 rs1 F ++ [])), .ex (.pointer (ptrAt (A3) 1)), .ex (.slice (B) (m) (d)), .p2 2 (fun a v w' => ∃ A1 c1 rs1 A5 c5 rs5, a = .slice A1 n c1 ∧ v = .slice A5 m c5 ∧ rs1.length = n ∧ rs5.length = m ∧ St w3 w' (mat 28 2 A5 m c5 rs5 G ++ (mat 28 2 A1 n c1 rs1 F ++ []))), .pr (fun v w' => ∃ A7 c7 rs7, v = .slice A7 (n + m) c7 ∧ rs7.length = n + m ∧ St w3 w' (mat 28 2 A7 (n + m) c7 rs7 (F ++ G) ++ [])), .pr (fun v w' => ∃ A8 c8 rs8, v = .tuple #[.agg #[.int .i64 (cxV (F ++ G)), .slice A8 (cxL (F ++ G)).length c8], .int .i64 (cxK (F ++ G))] ∧ rs8.length = (cxL (F ++ G)).length ∧ St w3 w' (mat 28 2 A8 (cxL (F ++ G)).length c8 rs8 (cxL (F ++ G)) ++ [])), .pr (fun v w' => ∃ A8 c8 rs8, v = .agg #[.int .i64 (cxV (F ++ G)), .slice A8 (cxL (F ++ G)).length c8] ∧ rs8.length = (cxL (F ++ G)).length ∧ St w3 w' (mat 28 2 A8 (cxL (F ++ G)).length c8 rs8 (cxL (F ++ G)) ++ [])), .ex (.int .i64 (cxK (F ++ G))), .pr (fun _ w' => ∃ A8 c8 rs8, rs8.length = (cxL (F ++ G)).length ∧ St w w' ([cxB A4 (cxV (F ++ G)) A8 (cxL (F ++ G)).length c8, cxB A3 W B m d, cxB A2 V A n c] ++ (mat 28 2 A8 (cxL (F ++ G)).length c8 rs8 (cxL (F ++ G)) ++ []))), .ex (.int .i64 (cxK (F ++ G)))] (by kernel_rfl) (by kernel_rfl) (ly (ly (List.forall_mem_cons.2 ⟨Ye.lasts_pr (fun v w w' h hb => by obtain ⟨A1, c1, rs1, hv, hl, hT⟩ := h; exact ⟨A1, c1, rs1, hv, hl, hT.later hb⟩), (ly (ly (List.forall_mem_cons.2 ⟨Ye.lasts_p2 (fun a v w w' h hb => by obtain ⟨A1, c1, rs1, A5, c5, rs5, h1, h2, h3, h4, hT⟩ := h; exact ⟨A1, c1, rs1, A5, c5, rs5, h1, h2, h3, h4, hT.later hb⟩), (List.forall_mem_cons.2 ⟨Ye.lasts_pr (fun v w w' h hb => by obtain ⟨A1, c1, rs1, hv, hl, hT⟩ := h; exact ⟨A1, c1, rs1, hv, hl, hT.later hb⟩), (List.forall_mem_cons.2 ⟨Ye.lasts_pr (fun v w w' h hb => by obtain ⟨A1, c1, rs1, hv, hl, hT⟩ := h; exact ⟨A1, c1, rs1, hv, hl, hT.later hb⟩), (List.forall_mem_cons.2 ⟨Ye.lasts_pr (fun v w w' h hb => by obtain ⟨A1, c1, rs1, hv, hl, hT⟩ := h; exact ⟨A1, c1, rs1, hv, hl, hT.later hb⟩), (ly (List.forall_mem_cons.2 ⟨Ye.lasts_pr (fun v w w' h hb => by obtain ⟨A1, c1, rs1, hl, hT⟩ := h; exact ⟨A1, c1, rs1, hl, hT.later hb⟩), (ly (fun _ h => by cases h))⟩))⟩)⟩)⟩)⟩)))⟩))) ⟨?_, ?_, ?_, ?_, ?_, ?_, ?_, ?_, ?_, ?_, ?_, ?_, trivial⟩ ?_
    · intro e1 w1 cc hlo hhi hb0 hp hun hq
      show Ops _ _ _ _ _ _ _
      obtain rfl := cc_of hlo hhi (b := 0) (by kernel_rfl) (by kernel_rfl)
      have hb := hb0 rfl
      refine Ops.fld ((hS3.rd 2 rfl).below hb) rfl rfl rfl rfl inferInstance (Ops.n (p0_ rfl (by exact rfl)))
    · intro e1 w1 cc hlo hhi hb0 hp hun hq
      show Ops _ _ _ _ _ _ _
      obtain rfl := cc_of hlo hhi (b := 0) (by kernel_rfl) (by kernel_rfl)
      have hb := hb0 rfl
      refine Ops.ldf_s ((hS3.rd 2 rfl).below hb) rfl rfl rfl rfl rfl (Ops.n (p0_ rfl (by exact rfl)))
    · intro e1 w1 cc hlo hhi hb0 hp hun hq
      show Ops _ _ _ _ _ _ _
      obtain rfl := cc_of hlo hhi (b := 0) (by kernel_rfl) (by kernel_rfl)
      have hb := hb0 rfl
      refine Ops.call (l01Own2_c A n c rs F _ ((hS3.later hb).oldRows hR) (by omega) hra) rfl rfl rfl ?_
      rintro _ w9 ⟨A1, c1, rs1, rfl, hrl, hst⟩
      refine Ops.n ?_
      exact AfterP.dn rfl hst.below ⟨A1, c1, rs1, rfl, hrl, ((St.refl w3).later hb).call hst⟩
    · intro e1 w1 cc hlo hhi hb0 hp hun hq
      show Ops _ _ _ _ _ _ _
      obtain rfl := cc_of hlo hhi (b := 0) (by kernel_rfl) (by kernel_rfl)
      have hb := hb0 rfl
      refine Ops.fld ((hS3.rd 1 rfl).below hb) rfl rfl rfl rfl inferInstance (Ops.n (p0_ rfl (by exact rfl)))
    · intro e1 w1 cc hlo hhi hb0 hp hun hq
      show Ops _ _ _ _ _ _ _
      obtain rfl := cc_of hlo hhi (b := 0) (by kernel_rfl) (by kernel_rfl)
      have hb := hb0 rfl
      refine Ops.ldf_s ((hS3.rd 1 rfl).below hb) rfl rfl rfl rfl rfl (Ops.n (p0_ rfl (by exact rfl)))
    · intro e1 w1 cc hlo hhi hb0 hp hun hq
      show Ops _ _ _ _ _ _ _
      obtain rfl := cc_of hlo hhi (b := 0) (by kernel_rfl) (by kernel_rfl)
      have hb := hb0 rfl
      obtain ⟨A1, c1, rs1, h23, hl1, hT⟩ := (hp 2 _ _ (by kernel_rfl) rfl rfl (by kernel_rfl))
      refine Ops.call (l01Own2_c B m d ts G _ ((hS3.later hb).oldRows hQ) (by omega) hrb) rfl rfl rfl ?_
      rintro _ w9 ⟨A5, c5, rs5, rfl, hrl5, hst⟩
      refine Ops.n ?_
      exact AfterP.dn rfl hst.below ⟨A1, c1, rs1, A5, c5, rs5, h23, rfl, hl1, hrl5, hT.call hst⟩
    · intro e1 w1 cc hlo hhi hb0 hp hun hq
      show Ops _ _ _ _ _ _ _
      obtain rfl := cc_of hlo hhi (b := 0) (by kernel_rfl) (by kernel_rfl)
      have hb := hb0 rfl
      obtain ⟨A1, c1, rs1, A5, c5, rs5, h23, h26, hl1, hl5, hT⟩ := (hp 5 _ _ (by kernel_rfl) rfl rfl (by kernel_rfl))
      refine Ops.call (l17Append_c 0 1 (hT.perm mat_two) (by decide) rfl rfl (by omega) (by omega)) rfl (by exact two_eq h23 h26) rfl ?_
      rintro _ w9 ⟨A7, c7, rfl, hst⟩
      refine Ops.n ?_
      exact AfterU.dn rfl ⟨A7, c7, rs1 ++ rs5, rfl, by rw [List.length_append, hl1, hl5], by unfold mat; rw [rowsCk_append (by omega), List.append_nil]; exact St.sub hst (List.Sublist.cons_cons _ (List.sublist_cons_self _ _))⟩
    · intro e1 w1 cc hlo hhi hb0 hp hun hq
      show Ops _ _ _ _ _ _ _
      obtain rfl := cc_of hlo hhi (b := 1) (by kernel_rfl) (by kernel_rfl)
      have hph := hp 6 _ _ (by kernel_rfl) rfl rfl (by kernel_rfl)
      obtain ⟨A7, c7, rs7, h27, hl7, hT⟩ := (hp 6 _ _ (by kernel_rfl) rfl rfl (by kernel_rfl))
      refine Ops.call (l17Make_c A7 _ c7 rs7 (F ++ G) _ (St.rowsI hT (by rw [List.length_append, hFl, hGl])) (by omega) (by omega) (fun l hl => (hL2 l hl).1)) rfl (by exact congrArg (fun v => [v]) h27) rfl ?_
      rintro _ w9 ⟨A8, c8, rs8, rfl, hrl8, hst⟩
      refine Ops.n ?_
      exact AfterP.dn rfl hst.below ⟨A8, c8, rs8, rfl, hrl8, (hT.call hst).sub (List.sublist_append_left _ _)⟩
    · intro e1 w1 cc hlo hhi hb0 hp hun hq
      show Ops _ _ _ _ _ _ _
      obtain rfl := cc_of hlo hhi (b := 1) (by kernel_rfl) (by kernel_rfl)
      have hph := hp 6 _ _ (by kernel_rfl) rfl rfl (by kernel_rfl)
      obtain ⟨A8, c8, rs8, h28, hl8, hT⟩ := (hp 7 _ _ (by kernel_rfl) rfl rfl (by kernel_rfl))
      refine Ops.extract (by exact h28) rfl rfl (Ops.n ?_)
      exact AfterP.dn rfl (Below.refl _ _) ⟨A8, c8, rs8, rfl, hl8, hT⟩
    · intro e1 w1 cc hlo hhi hb0 hp hun hq
      show Ops _ _ _ _ _ _ _
      obtain rfl := cc_of hlo hhi (b := 1) (by kernel_rfl) (by kernel_rfl)
      have hph := hp 6 _ _ (by kernel_rfl) rfl rfl (by kernel_rfl)
      obtain ⟨A8, c8, rs8, h28, hl8, hT⟩ := (hp 7 _ _ (by kernel_rfl) rfl rfl (by kernel_rfl))
      refine Ops.extract (by exact h28) rfl rfl (Ops.n (p0_ rfl (by exact rfl)))
    · intro e1 w1 cc hlo hhi hb0 hp hun hq
      show Ops _ _ _ _ _ _ _
      obtain rfl := cc_of hlo hhi (b := 1) (by kernel_rfl) (by kernel_rfl)
      have hph := hp 6 _ _ (by kernel_rfl) rfl rfl (by kernel_rfl)
      obtain ⟨A8, c8, rs8, h29, hl8, hT⟩ := (hp 8 _ _ (by kernel_rfl) rfl rfl (by kernel_rfl))
      have hX := hS3.call2 hT
      refine Ops.st_agg 2 0 hX rfl rfl (by exact h29) rfl rfl rfl rfl ?_
      intro w9 hS9
      refine Ops.n ?_
      exact AfterU.st rfl ⟨A8, c8, rs8, hl8, hS9⟩
    · intro e1 w1 cc hlo hhi hb0 hp hun hq
      show Ops _ _ _ _ _ _ _
      refine Ops.mi rfl rfl rfl (Ops.n (p0_ rfl (by exact rfl)))
    intro u w5 _ hu _ _
    obtain ⟨A8, c8, rs8, hl8, hS9⟩ := hu 10 _ rfl (by kernel_rfl)
    refine tQ (Cd.ret (thenQ_r ?_))
    skip
    refine retc2_r rfl (hS9.rd 0 rfl) rfl ?_
    exact ⟨A8, c8, rs8, rfl, hl8, hS9.tail.tail.tail⟩
  have hG0 : G ≠ [] := fun e => h2 (by rw [e] at hGl; simp at hGl; omega)
  have hnm : (n : Int) * m = ((n * m : Nat) : Int) := (Int.natCast_mul _ _).symm
  have hnm2 : n * m ≤ 400 * 400 := Nat.mul_le_mul (by omega) (by omega)
  refine Cd.skip (tQ (Cd.seq (Cd.seq (Cd.region (Ops.fld (hS3.rd 2 rfl) rfl rfl rfl rfl inferInstance (Ops.ldf_s (hS3.rd 2 rfl) rfl rfl rfl rfl rfl (Ops.len rfl rfl (Ops.fld (hS3.rd 1 rfl) rfl rfl rfl rfl inferInstance (Ops.ldf_s (hS3.rd 1 rfl) rfl rfl rfl rfl rfl ?_)))))))))
  refine Ops.len rfl rfl (Ops.mul rfl rfl rfl (by omega) ?_)
  rw [hnm]
  refine Ops.gtr rfl rfl rfl (Ops.n (tQ ?_))
  refine Cd.cond_p _ rfl (fun h3 => ?_) (fun h3 => ?_)
  · have hbig : JnBig F G := ⟨hF0, hG0, by rw [hFl, hGl]; omega⟩
    unfold jnV jnLs jnK
    rw [if_pos hbig, if_pos hbig, if_pos hbig]
    refine Cd.seq (Cd.region (Ops.bldZ2 (by exact inferInstance) (by exact inferInstance) rfl rfl rfl (Ops.st_agg 2 0 hS3 rfl rfl rfl rfl rfl rfl rfl ?_)))
    intro w9 hS9
    refine Ops.mi rfl rfl rfl (Ops.n (tQ (Cd.ret (thenQ_r ?_))))
    skip
    refine retc2_r rfl (hS9.rd 0 rfl) rfl ?_
    exact AnsC.none hS9
  have hbig : ¬ JnBig F G := fun h => h3 (by have := h.2.2; rw [hFl, hGl] at this; omega)
  obtain ⟨hL1, hL2, hL3⟩ := hF.jn hG hbig
  have hjs : jnS V F G = jnL V F G := by unfold jnS; rw [if_neg (by simp [hF0, hG0])]
  rw [hjs] at hL1 hL2 hL3
  unfold jnV jnLs jnK
  rw [if_neg hbig, if_neg hbig, if_neg hbig, hjs]
  have hFG : F.length * G.length ≤ 400 := jn_small hF0 hG0 hbig
  refine Cd.skip (tQ (Cd.seq (Cd.region (Ops.bs0 hS3 rfl ?_))))
  intro A6 w4 hS4
  have hS5 : St w w4 ([cxZ A4, cxB A3 W B m d, cxB A2 V A n c, CkR 28 A6 (jnG V F G 0 0).length 0 []] ++ rowsCk 2 [] (jnG V F G 0 0)) := by
    rw [jnG_zero]
    exact hS4.perm (List.perm_append_comm (l₁ := [_]) (l₂ := [_, _, _]))
  have hlen00 : (jnG V F G 0 0).length = 0 := by rw [jnG_zero]; rfl
  refine Ops.ms rfl rfl rfl (Ops.n (tQ (Cd.seq (Cd.seq (Cd.region (Ops.mi rfl rfl rfl (Ops.n (tQ (Cd.block ?_)))))))))
  refine Cd.loop (α := Nat × (Option Addr × Nat) × List SlV) (fun z => [(2, .pointer A2), (3, .pointer A3), (4, .pointer A4), (6, .slice z.2.1.1 (jnG V F G z.1 0).length z.2.1.2), (7, .int .i64 (z.1 : Int))])
    (fun z w' => z.1 ≤ n ∧ z.2.2.length = (jnG V F G z.1 0).length ∧ St w w' ([cxZ A4, cxB A3 W B m d, cxB A2 V A n c, CkR 28 z.2.1.1 (jnG V F G z.1 0).length z.2.1.2 z.2.2] ++ rowsCk 2 z.2.2 (jnG V F G z.1 0))) (fun z => n - z.1) (0, (A6, 0), []) ⟨rfl, rfl, rfl, by show Value.slice A6 0 0 = .slice A6 (jnG V F G 0 0).length 0; rw [hlen00], rfl, trivial⟩ ⟨Nat.zero_le _, by show 0 = _; rw [hlen00], hS5⟩ ?_
  clear hS5 hS4 hS3
  rintro ⟨i, ⟨A6, c6⟩, rs6⟩ e w4 ⟨hi, hrl6, hS4⟩
  dsimp only at hi hrl6 hS4 ⊢
  refine Cd.seq (Cd.seq (Cd.region (Ops.mi rfl rfl rfl (Ops.fld (hS4.rd 2 rfl) rfl rfl rfl rfl inferInstance (Ops.ldf_s (hS4.rd 2 rfl) rfl rfl rfl rfl rfl (Ops.len rfl rfl (Ops.lss rfl rfl rfl (Ops.n (tQ ?_)))))))))
  refine Cd.cond_p _ rfl (fun h4 => ?_) (fun h4 => ?_)
  · have hiF : i < F.length := by omega
    have hrowA := hR.at_ (i := (i : Int)) (by omega) (by omega)
    have hrlA := hrowA.1
    have hfA := (hF.at_ hiF).1
    refine Cd.skip (tQ (Cd.seq (Cd.block (Cd.seq (Cd.region (Ops.mi rfl rfl rfl (Ops.n (tQ (Cd.block ?_)))))))))
    refine Cd.loop (α := Nat × (Option Addr × Nat) × List SlV) (fun z => [(2, .pointer A2), (3, .pointer A3), (4, .pointer A4), (6, .slice z.2.1.1 (jnG V F G i z.1).length z.2.1.2), (7, .int .i64 (i : Int)), (8, .int .i64 (z.1 : Int))])
      (fun z w' => z.1 ≤ m ∧ z.2.2.length = (jnG V F G i z.1).length ∧ St w w' ([cxZ A4, cxB A3 W B m d, cxB A2 V A n c, CkR 28 z.2.1.1 (jnG V F G i z.1).length z.2.1.2 z.2.2] ++ rowsCk 2 z.2.2 (jnG V F G i z.1))) (fun z => m - z.1) (0, (A6, c6), rs6) ⟨rfl, rfl, rfl, rfl, rfl, rfl, trivial⟩ ⟨Nat.zero_le _, hrl6, hS4⟩ ?_
    clear hS4 hrl6
    rintro ⟨k, ⟨A6, c6⟩, rs6⟩ e w4 ⟨hk, hrl6, hS4⟩
    dsimp only at hk hrl6 hS4 ⊢
    have hll := jnG_len (V := V) hiF (show k ≤ G.length by omega)
    refine Cd.seq (Cd.seq (Cd.region (Ops.mi rfl rfl rfl (Ops.fld (hS4.rd 1 rfl) rfl rfl rfl rfl inferInstance (Ops.ldf_s (hS4.rd 1 rfl) rfl rfl rfl rfl rfl (Ops.len rfl rfl (Ops.lss rfl rfl rfl (Ops.n (tQ ?_)))))))))
    refine Cd.cond_p _ rfl (fun h5 => ?_) (fun h5 => ?_)
    · have hkG : k < G.length := by omega
      have hM := hS4.oldRows hR
      have hrowB := hQ.at_ (i := (k : Int)) (by omega) (by omega)
      have hrlB := hrowB.1
      have hfB := hG.at_ hkG
      have hGv := hG.v
      refine Cd.skip (tQ (Cd.seq (Cd.block (Cd.seq (Cd.region (Ops.fld (hS4.rd 2 rfl) rfl rfl rfl rfl inferInstance (Ops.ldf_s (hS4.rd 2 rfl) rfl rfl rfl rfl rfl (Ops.mi rfl rfl rfl (Ops.idx hM.top.2 rfl rfl rfl (by omega) (by omega) ?_)))))))))
      refine Ops.ld_sl hM.top rfl (by omega) rfl rfl (Ops.call (l01Own_c _ _ _ (gl F (i : Int)) _ (hS4.oldI hrowA) (by omega)) rfl rfl rfl ?_)
      rintro _ w5 ⟨A11, c11, rfl, hT5⟩
      have hS5 : St w w5 (CkI 2 A11 ((rg rs (i : Int)).n + 0) c11 (gl F (i : Int) ++ ((gl G (k : Int)).take 0).map (V + ·)) :: ([cxZ A4, cxB A3 W B m d, cxB A2 V A n c, CkR 28 A6 (jnG V F G i k).length c6 rs6] ++ rowsCk 2 rs6 (jnG V F G i k))) := by
        rw [List.take_zero, List.map_nil, List.append_nil]
        exact hS4.call hT5
      refine Ops.ms rfl rfl rfl (Ops.n (tQ (Cd.seq (Cd.seq (Cd.region (Ops.mi rfl rfl rfl (Ops.n (tQ (Cd.block ?_)))))))))
      refine Cd.loop (α := Nat × Option Addr × Nat) (fun z => [(2, .pointer A2), (3, .pointer A3), (4, .pointer A4), (6, .slice A6 (jnG V F G i k).length c6), (7, .int .i64 (i : Int)), (8, .int .i64 (k : Int)), (9, .slice z.2.1 ((rg rs (i : Int)).n + z.1) z.2.2), (10, .int .i64 (z.1 : Int))])
        (fun z w' => z.1 ≤ (rg ts (k : Int)).n ∧ St w w' (CkI 2 z.2.1 ((rg rs (i : Int)).n + z.1) z.2.2 (gl F (i : Int) ++ ((gl G (k : Int)).take z.1).map (V + ·)) :: ([cxZ A4, cxB A3 W B m d, cxB A2 V A n c, CkR 28 A6 (jnG V F G i k).length c6 rs6] ++ rowsCk 2 rs6 (jnG V F G i k)))) (fun z => (rg ts (k : Int)).n - z.1) (0, A11, c11) ⟨rfl, rfl, rfl, rfl, rfl, rfl, rfl, rfl, trivial⟩ ⟨Nat.zero_le _, hS5⟩ ?_
      clear hS5 hT5 hS4 hM
      rintro ⟨j, A11, c11⟩ e w6 ⟨hj, hS6⟩
      dsimp only at hj hS6 ⊢
      have hM := hS6.oldRows hQ
      refine Cd.seq (Cd.seq (Cd.region (Ops.mi rfl rfl rfl (Ops.fld (hS6.rd 2 rfl) rfl rfl rfl rfl inferInstance (Ops.ldf_s (hS6.rd 2 rfl) rfl rfl rfl rfl rfl (Ops.mi rfl rfl rfl (Ops.idx hM.top.2 rfl rfl rfl (by omega) (by omega) (Ops.ld_sl hM.top rfl (by omega) rfl rfl (Ops.len rfl rfl ?_)))))))))
      refine Ops.lss rfl rfl rfl (Ops.n (tQ ?_))
      refine Cd.cond_p _ rfl (fun h6 => ?_) (fun h6 => ?_)
      · have hB6 := hS6.oldI hrowB
        have hgv := hfB.2.2 (gi (gl G (k : Int)) (j : Int)) (by rw [gi_mem (show j < (gl G (k : Int)).length by omega)]; exact List.getElem_mem _)
        refine Cd.skip (tQ (Cd.seq (Cd.block ?_)))
        refine Cd.drawN [13] [.ex (.slice (A11) ((rg rs (i : Int)).n + j) (c11)), .ex (.pointer (ptrAt (A2) 0)), .ex (.int .i64 (V)), .ex (.pointer (ptrAt (A3) 1)), .ex (.slice (B) (m) (d)), .ex (.int .i64 ((k : Int))), .ex (.pointer (ptrAt (B) ((k : Int)).toNat)), .ex (.slice ((rg (ts) ((k : Int))).a) ((rg (ts) ((k : Int))).n) ((rg (ts) ((k : Int))).c)), .ex (.int .i64 ((j : Int))), .ex (.pointer (ptrAt ((rg (ts) ((k : Int))).a) ((j : Int)).toNat)), .ex (.int .i64 (gi (gl G (k : Int)) ((j : Int)))), .ex (.int .i64 ((V) + (gi (gl G (k : Int)) ((j : Int))))), .pr (fun v w' => ∃ A12, v = .slice A12 1 1 ∧ RdI w' A12 1 [V + gi (gl G (k : Int)) (j : Int)]), .pr (fun v w' => ∃ A13 c13, v = .slice A13 ((rg rs (i : Int)).n + j + 1) c13 ∧ St w w' (CkI 2 A13 ((rg rs (i : Int)).n + j + 1) c13 ((gl F (i : Int) ++ ((gl G (k : Int)).take j).map (V + ·)) ++ [V + gi (gl G (k : Int)) (j : Int)]) :: ([cxZ A4, cxB A3 W B m d, cxB A2 V A n c, CkR 28 A6 (jnG V F G i k).length c6 rs6] ++ rowsCk 2 rs6 (jnG V F G i k)))), .pr (fun v w' => ∃ A13 c13, v = .slice A13 ((rg rs (i : Int)).n + j + 1) c13 ∧ St w w' (CkI 2 A13 ((rg rs (i : Int)).n + j + 1) c13 ((gl F (i : Int) ++ ((gl G (k : Int)).take j).map (V + ·)) ++ [V + gi (gl G (k : Int)) (j : Int)]) :: ([cxZ A4, cxB A3 W B m d, cxB A2 V A n c, CkR 28 A6 (jnG V F G i k).length c6 rs6] ++ rowsCk 2 rs6 (jnG V F G i k))))] (by kernel_rfl) (by kernel_rfl) (lx (lx (lx (lx (lx (lx (lx (lx (lx (lx (lx (lx (List.forall_mem_cons.2 ⟨Yd.lasts_pr (fun v w w' h hb => by obtain ⟨A9, hv, hT⟩ := h; exact ⟨A9, hv, hT.later hb⟩), (List.forall_mem_cons.2 ⟨Yd.lasts_pr (fun v w w' h hb => by obtain ⟨A5, c5, hv, hT⟩ := h; exact ⟨A5, c5, hv, hT.later hb⟩), (List.forall_mem_cons.2 ⟨Yd.lasts_pr (fun v w w' h hb => by obtain ⟨A5, c5, hv, hT⟩ := h; exact ⟨A5, c5, hv, hT.later hb⟩), (fun _ h => by cases h)⟩)⟩)⟩))))))))))))) ⟨?_, ?_, ?_, ?_, ?_, ?_, ?_, ?_, ?_, ?_, ?_, ?_, ?_, ?_, ?_, trivial⟩ ?_
        · intro e1 w1 cc hlo hhi hb0 hp hun hq
          show Ops _ _ _ _ _ _ _
          refine Ops.ms rfl (by exact hun 14 _ rfl (by kernel_rfl)) rfl (Ops.n (n0 rfl (by exact rfl)))
        · intro e1 w1 cc hlo hhi hb0 hp hun hq
          show Ops _ _ _ _ _ _ _
          obtain rfl := cc_of hlo hhi (b := 0) (by kernel_rfl) (by kernel_rfl)
          have hb := hb0 rfl
          refine Ops.fld ((hS6.rd 3 rfl).below hb) rfl rfl rfl rfl inferInstance (Ops.n (n0 rfl (by exact rfl)))
        · intro e1 w1 cc hlo hhi hb0 hp hun hq
          show Ops _ _ _ _ _ _ _
          obtain rfl := cc_of hlo hhi (b := 0) (by kernel_rfl) (by kernel_rfl)
          have hb := hb0 rfl
          refine Ops.ldf_i ((hS6.rd 3 rfl).below hb) rfl rfl rfl rfl rfl (Ops.n (n0 rfl (by exact rfl)))
        · intro e1 w1 cc hlo hhi hb0 hp hun hq
          show Ops _ _ _ _ _ _ _
          obtain rfl := cc_of hlo hhi (b := 0) (by kernel_rfl) (by kernel_rfl)
          have hb := hb0 rfl
          refine Ops.fld ((hS6.rd 2 rfl).below hb) rfl rfl rfl rfl inferInstance (Ops.n (n0 rfl (by exact rfl)))
        · intro e1 w1 cc hlo hhi hb0 hp hun hq
          show Ops _ _ _ _ _ _ _
          obtain rfl := cc_of hlo hhi (b := 0) (by kernel_rfl) (by kernel_rfl)
          have hb := hb0 rfl
          refine Ops.ldf_s ((hS6.rd 2 rfl).below hb) rfl rfl rfl rfl rfl (Ops.n (n0 rfl (by exact rfl)))
        · intro e1 w1 cc hlo hhi hb0 hp hun hq
          show Ops _ _ _ _ _ _ _
          refine Ops.mi rfl rfl rfl (Ops.n (n0 rfl (by exact rfl)))
        · intro e1 w1 cc hlo hhi hb0 hp hun hq
          show Ops _ _ _ _ _ _ _
          obtain rfl := cc_of hlo hhi (b := 0) (by kernel_rfl) (by kernel_rfl)
          have hb := hb0 rfl
          refine Ops.idx (hM.top.later hb).2 rfl rfl rfl (by omega) (by omega) (Ops.n (n0 rfl (by exact rfl)))
        · intro e1 w1 cc hlo hhi hb0 hp hun hq
          show Ops _ _ _ _ _ _ _
          obtain rfl := cc_of hlo hhi (b := 0) (by kernel_rfl) (by kernel_rfl)
          have hb := hb0 rfl
          refine Ops.ld_sl (hM.top.later hb) rfl (by omega) rfl rfl (Ops.n (n0 rfl (by exact rfl)))
        · intro e1 w1 cc hlo hhi hb0 hp hun hq
          show Ops _ _ _ _ _ _ _
          refine Ops.mi rfl rfl rfl (Ops.n (n0 rfl (by exact rfl)))
        · intro e1 w1 cc hlo hhi hb0 hp hun hq
          show Ops _ _ _ _ _ _ _
          obtain rfl := cc_of hlo hhi (b := 0) (by kernel_rfl) (by kernel_rfl)
          have hb := hb0 rfl
          refine Ops.idx (hB6.later hb).2 rfl rfl rfl (by omega) (by omega) (Ops.n (n0 rfl (by exact rfl)))
        · intro e1 w1 cc hlo hhi hb0 hp hun hq
          show Ops _ _ _ _ _ _ _
          obtain rfl := cc_of hlo hhi (b := 0) (by kernel_rfl) (by kernel_rfl)
          have hb := hb0 rfl
          refine Ops.ld_int (hB6.later hb) rfl (by omega) rfl rfl (Ops.n (n0 rfl (by exact rfl)))
        · intro e1 w1 cc hlo hhi hb0 hp hun hq
          show Ops _ _ _ _ _ _ _
          refine Ops.add rfl rfl rfl (by omega) (Ops.n (n0 rfl (by exact rfl)))
        · intro e1 w1 cc hlo hhi hb0 hp hun hq
          show Ops _ _ _ _ _ _ _
          refine Ops.bs1I (St.refl _) rfl rfl rfl ?_
          intro A12 w9 hst
          refine Ops.n ?_
          exact AfterN.dn rfl hst.below ⟨A12, rfl, hst.rdI 0 rfl⟩
        · intro e1 w1 cc hlo hhi hb0 hp hun hq
          show Ops _ _ _ _ _ _ _
          obtain rfl := cc_of hlo hhi (b := 0) (by kernel_rfl) (by kernel_rfl)
          have hb := hb0 rfl
          obtain ⟨A12, h83, hT2⟩ := (hp 12 _ _ (by kernel_rfl) rfl rfl (by kernel_rfl))
          refine Ops.appI 0 (hS6.later hb) rfl hT2 rfl (by exact h83) rfl (by omega) (by omega) rfl ?_
          intro A13 c13 w10 hT10
          refine Ops.n ?_
          exact AfterT.dn rfl ⟨A13, c13, rfl, hT10⟩
        · intro e1 w1 cc hlo hhi hb0 hp hun hq
          show Ops _ _ _ _ _ _ _
          obtain rfl := cc_of hlo hhi (b := 1) (by kernel_rfl) (by kernel_rfl)
          have hph := hp 13 _ _ (by kernel_rfl) rfl rfl (by kernel_rfl)
          obtain ⟨A13, c13, h84, hT⟩ := (hp 13 _ _ (by kernel_rfl) rfl rfl (by kernel_rfl))
          refine Ops.ms rfl (by exact h84) rfl (Ops.n ?_)
          exact AfterN.dn rfl (Below.refl _ _) ⟨A13, c13, rfl, hT⟩
        intro u w8 _ hu
        obtain ⟨A13, c13, hv, hS8⟩ := hu 14 _ rfl (by kernel_rfl)
        have htk : ((gl G (k : Int)).take (j + 1)).map (V + ·) = ((gl G (k : Int)).take j).map (V + ·) ++ [V + gi (gl G (k : Int)) (j : Int)] := by rw [take_succ_gi (by omega), List.map_append]; rfl
        refine blockQ_n (tQ (Cd.region (Ops.mi rfl rfl rfl (Ops.add rfl rfl rfl (by omega) (Ops.mi rfl rfl rfl (Ops.n (tQ ?_)))))))
        refine ⟨(j + 1, A13, c13), by show (rg ts (k : Int)).n - (j + 1) < (rg ts (k : Int)).n - j; omega, ⟨rfl, rfl, rfl, rfl, rfl, rfl, hv, rfl, trivial⟩, by show j + 1 ≤ _; omega, ?_⟩
        show St w w8 (CkI 2 A13 ((rg rs (i : Int)).n + (j + 1)) c13 (gl F (i : Int) ++ ((gl G (k : Int)).take (j + 1)).map (V + ·)) :: _)
        rw [htk, ← List.append_assoc, ← Nat.add_assoc]
        exact hS8
      · rw [List.take_of_length_le (by omega)] at hS6
        have hjn : j = (gl G (k : Int)).length := by omega
        have hl : (rg rs (i : Int)).n + j = (gl F (i : Int) ++ (gl G (k : Int)).map (V + ·)).length := by rw [List.length_append, List.length_map]; omega
        rw [hl] at hS6 ⊢
        have hsucc := jnG_succ (V := V) (F := F) (i := i) hkG
        have hl1 : (jnG V F G i (k + 1)).length = (jnG V F G i k).length + 1 := by rw [hsucc, List.length_append]; rfl
        generalize hrow : gl F (i : Int) ++ (gl G (k : Int)).map (V + ·) = row at *
        refine Cd.exit (thenQ_x (thenQ_x (blockQ_x (tQ (Cd.region (Ops.ms rfl rfl rfl (Ops.ms rfl rfl rfl (Ops.bs1R hS6 rfl rfl rfl ?_))))))))
        intro A14 w7 hS7
        refine Ops.appR 5 hS7 rfl (hS7.rdR 0 rfl) rfl rfl rfl (by omega) (by omega) rfl ?_
        intro A15 c15 w8 hS8
        have hS8 : St w w8 (CkI 2 A11 row.length c11 row :: ([cxZ A4, cxB A3 W B m d, cxB A2 V A n c, CkR 28 A15 ((jnG V F G i k).length + 1) c15 (rs6 ++ [⟨A11, row.length, c11⟩])] ++ rowsCk 2 rs6 (jnG V F G i k))) := hS8.tail
        refine Ops.ms rfl rfl rfl (Ops.n (blockQ_n (tQ (Cd.region (Ops.mi rfl rfl rfl (Ops.add rfl rfl rfl (by omega) (Ops.mi rfl rfl rfl (Ops.n (tQ ?_)))))))))
        refine ⟨(k + 1, (A15, c15), rs6 ++ [⟨A11, row.length, c11⟩]), by show m - (k + 1) < m - k; omega, ⟨rfl, rfl, rfl, by show Value.slice A15 ((jnG V F G i k).length + 1) c15 = .slice A15 (jnG V F G i (k + 1)).length c15; rw [hl1], rfl, rfl, trivial⟩, by show k + 1 ≤ m; omega, by show (rs6 ++ [_]).length = _; rw [hl1, List.length_append, hrl6]; rfl, ?_⟩
        show St w w8 ([cxZ A4, cxB A3 W B m d, cxB A2 V A n c, CkR 28 A15 (jnG V F G i (k + 1)).length c15 (rs6 ++ [⟨A11, row.length, c11⟩])] ++ rowsCk 2 (rs6 ++ [⟨A11, row.length, c11⟩]) (jnG V F G i (k + 1)))
        rw [hl1, hsucc, rowsCk_append hrl6, ← List.append_assoc]
        exact hS8.perm (List.perm_append_comm (l₁ := [CkI 2 A11 row.length c11 row]))
    · have hkm : k = G.length := by omega
      rw [hkm, jnG_all hiF] at hrl6 hS4 ⊢
      refine Cd.exit (thenQ_x (thenQ_x (blockQ_x (blockQ_n (tQ (Cd.region (Ops.mi rfl rfl rfl (Ops.add rfl rfl rfl (by omega) (Ops.mi rfl rfl rfl ?_)))))))))
      refine Ops.n (tQ ?_)
      exact ⟨(i + 1, (A6, c6), rs6), by show n - (i + 1) < n - i; omega, ⟨rfl, rfl, rfl, rfl, rfl, trivial⟩, by show i + 1 ≤ n; omega, hrl6, hS4⟩
  · have hin : i = F.length := by omega
    rw [hin, jnG_end] at hrl6 hS4 ⊢
    have hM : St w w4 (mat 28 2 A6 (jnL V F G).length c6 rs6 (jnL V F G)) := hS4.tail.tail.tail
    refine Cd.exit (thenQ_x (thenQ_x (blockQ_x (tQ (Cd.seq (Cd.region (Ops.ms rfl rfl rfl ?_)))))))
    refine Ops.call (l17Make_c A6 _ c6 rs6 (jnL V F G) _ (St.rowsI (ks := []) (by rwa [List.append_nil]) rfl) (by omega) (by omega) (fun l hl => (hL2 l hl).1)) rfl rfl rfl ?_
    rintro _ w6 ⟨A9, c9, rs9, rfl, hrl9, hst6⟩
    have hS6 := (hS4.sub (List.Sublist.cons_cons _ (List.nil_sublist _))).call2 hst6
    refine Ops.extract rfl rfl rfl (Ops.extract rfl rfl rfl (Ops.st_agg 2 0 hS6 rfl rfl rfl rfl rfl rfl rfl ?_))
    intro w7 hS7
    refine Ops.mi rfl rfl rfl (Ops.n (tQ (Cd.ret ?_)))
    skip
    refine retc2_r rfl (hS7.rd 0 rfl) rfl ?_
    exact ⟨A9, c9, rs9, rfl, hrl9, hS7.tail⟩
/-
 A complex drawn, walked.
-/
theorem co_cplx (ls : List (List Int)) : Cplx (coV ls) (coL ls) := by
 have h0 : Cplx 0 [] := by decide
 unfold coV coL
 by_cases h : NegL ls
 ·rw [if_pos h, if_pos h]; exact h0
 ·rw [if_neg h, if_neg h]
  by_cases hb : CxBad (ls.map cs)
  ·unfold cxV cxL; rw [if_pos hb, if_pos hb]; exact h0
  ·exact cx_cplx (fun l hl => by obtain ⟨l0, _, rfl⟩ := List.mem_map.1 hl; exact cs_SA l0) hb
theorem jn_cplx {V W : Int} {F G : List (List Int)} (hF : Cplx V F) (hG : Cplx W G) : Cplx (jnV V F G) (jnLs V F G) := by
 have h0 : Cplx 0 [] := by decide
 unfold jnV jnLs
 by_cases h : JnBig F G
 ·rw [if_pos h, if_pos h]; exact h0
 ·rw [if_neg h, if_neg h]
  by_cases hb : CxBad (jnS V F G)
  ·unfold cxV cxL; rw [if_pos hb, if_pos hb]; exact h0
  ·exact cx_cplx (jnS_sa hF hG) hb
theorem two_pts : Cplx 2 [[0], [1]] := by decide
theorem St.matAdd {w0 w : World} {t1 t2 : TypeId} {a A : Option Addr} {m d n c : Nat} {x : List Int} {rs : List SlV} {L : List (List Int)} {X : List Ck} (h : St w0 w (CkI t2 a m d x :: (CkR t1 A n c (rs ++ [⟨a, m, d⟩]) :: (rowsCk t2 rs L ++ X)))) (hl : rs.length = L.length) : St w0 w (mat t1 t2 A n c (rs ++ [⟨a, m, d⟩]) (L ++ [x]) ++ X) := by
 refine h.perm ?_
 unfold mat
 rw [rowsCk_append hl]
 refine (List.Perm.swap _ _ _).trans (List.Perm.cons _ ?_)
 show (CkI t2 a m d x :: (rowsCk t2 rs L ++ X)).Perm ((rowsCk t2 rs L ++ [CkI t2 a m d x]) ++ X)
 rw [List.append_assoc]
 exact List.perm_middle.symm
def AnsDr (w0 : World) (ks : List Ck) (ix : Nat) (As : Option Addr) (v : Value) (w' : World) : Prop :=
 ∃ (V : Int) (F : List (List Int)) (A : Option Addr) (c : Nat) (rs : List SlV) (k' : Ck), v = .agg #[.int .i64 V, .slice A F.length c] ∧ Cplx V F ∧ rs.length = F.length ∧ srcK w0 As k' ∧ St w0 w' (mat 28 2 A F.length c rs F ++ ks.set ix k')
set_option maxHeartbeats 1000000 in
theorem l17Draw_c {w0 w : World} {ks : List Ck} (ix : Nat) {As : Option Addr} {k : Ck} (hS : St w0 w ks) (hk : ks[ix]? = some k) (hK : srcK w0 As k) :
    Ret Tryz.prog 96 [.pointer As] w (AnsDr w0 ks ix As) := by
  refine Ret.of_cd Tryz.func96 rfl Tryz.ntmps96 rfl (postc rfl rfl) (Cd.seq (Cd.region (Ops.new2 hS rfl ?_)))
  intro A2 w1 hS1
  have hS1 : St w0 w1 (cxZ A2 :: ks) := hS1
  refine Ops.n (tQ (Cd.seq (Cd.region (Ops.bs0 hS1 rfl ?_))))
  intro A3 w2 hS2
  refine Ops.ms rfl rfl rfl (Ops.n (tQ ?_))
  refine Cd.join (α := Nat × (Option Addr × Nat) × List SlV × List (List Int) × Ck) (fun z => [(0, .pointer As), (2, .pointer A2), (3, .slice z.2.1.1 z.1 z.2.1.2)])
    (fun z w' => z.1 ≤ 20 ∧ z.2.2.1.length = z.1 ∧ z.2.2.2.1.length = z.1 ∧ (∀ l ∈ z.2.2.2.1, l.length ≤ 20) ∧ srcK w0 As z.2.2.2.2 ∧ St w0 w' (mat 28 2 z.2.1.1 z.1 z.2.1.2 z.2.2.1 z.2.2.2.1 ++ (cxZ A2 :: ks.set ix z.2.2.2.2))) ?_ ?_
  · refine Cd.seq (Cd.region (Ops.mv_ptr rfl rfl rfl (Ops.call (srcNextP_c [CkR 28 A3 0 0 [], cxZ A2] ix 6 hS2 hk hK) rfl rfl rfl ?_)))
    rintro _ w3 ⟨q, k1, rfl, hq, hK1, hS3⟩
    have hS3 : St w0 w3 (mat 28 2 A3 0 0 [] [] ++ (cxZ A2 :: ks.set ix k1)) := hS3
    have hk1 := setK_get (k' := k1) hk
    refine Ops.n (tQ (Cd.block (Cd.seq (Cd.region (Ops.eql rfl rfl rfl (Ops.mb rfl rfl rfl (Ops.n (tQ ?_))))))))
    refine Cd.cond_p _ rfl (fun h1 => ?_) (fun h1 => ?_)
    · refine Cd.seq (Cd.region (Ops.mv_ptr rfl rfl rfl ?_))
      refine Ops.call (srcNextP_c (mat 28 2 A3 0 0 [] [] ++ [cxZ A2]) ix 4 (by rw [List.append_assoc]; exact hS3) hk1 hK1) rfl rfl rfl ?_
      rintro _ w4 ⟨r, k2, rfl, hr, hK2, hS4⟩
      rw [List.set_set, List.append_assoc] at hS4
      have hk2 := setK_get (k' := k2) hk
      obtain ⟨N, hN⟩ : ∃ N : Nat, 2 + r = N := ⟨(2 + r).toNat, by omega⟩
      have hN5 : N ≤ 5 := by omega
      refine Ops.add rfl rfl rfl (by omega) (Ops.mi rfl rfl rfl (Ops.n (tQ (Cd.seq (Cd.region (Ops.mi rfl rfl rfl (Ops.n (tQ (Cd.block ?_)))))))))
      rw [hN]
      refine Cd.loop (α := Nat × (Option Addr × Nat) × List SlV × List (List Int)) (fun z => [(0, .pointer As), (2, .pointer A2), (3, .slice z.2.1.1 z.1 z.2.1.2), (4, .int .i64 (N : Int)), (5, .int .i64 (z.1 : Int))])
        (fun z w' => z.1 ≤ N ∧ z.2.2.1.length = z.1 ∧ z.2.2.2.length = z.1 ∧ (∀ l ∈ z.2.2.2, l.length ≤ 20) ∧ St w0 w' (mat 28 2 z.2.1.1 z.1 z.2.1.2 z.2.2.1 z.2.2.2 ++ (cxZ A2 :: ks.set ix k2))) (fun z => N - z.1) (0, (A3, 0), [], []) ⟨rfl, rfl, rfl, rfl, rfl, trivial⟩ ⟨Nat.zero_le _, rfl, rfl, (fun _ h => by cases h), hS4⟩ ?_
      clear hS4 hS3
      rintro ⟨i, ⟨A3, c3⟩, rs, L⟩ e w5 ⟨hi, hrl, hll, hsm, hS5⟩
      dsimp only at hi hrl hll hsm hS5 ⊢
      refine Cd.seq (Cd.seq (Cd.region (Ops.mi rfl rfl rfl (Ops.mi rfl rfl rfl (Ops.lss rfl rfl rfl (Ops.n (tQ ?_)))))))
      refine Cd.cond_p _ rfl (fun h2 => ?_) (fun h2 => ?_)
      · refine Cd.skip (tQ (Cd.seq (Cd.block (Cd.seq (Cd.region (Ops.bs0 hS5 rfl ?_))))))
        intro A6 w6 hS6
        have hS6 : St w0 w6 (CkI 2 A6 0 0 [] :: (mat 28 2 A3 i c3 rs L ++ (cxZ A2 :: ks.set ix k2))) := hS6
        refine Ops.ms rfl rfl rfl (Ops.n (tQ (Cd.seq (Cd.seq (Cd.region (Ops.mi rfl rfl rfl (Ops.n (tQ (Cd.block ?_)))))))))
        refine Cd.loop (α := Nat × (Option Addr × Nat) × List Int) (fun z => [(0, .pointer As), (2, .pointer A2), (3, .slice A3 i c3), (4, .int .i64 (N : Int)), (5, .int .i64 (i : Int)), (6, .slice z.2.1.1 z.2.2.length z.2.1.2), (7, .int .i64 (z.1 : Int))])
          (fun z w' => z.1 ≤ N ∧ z.2.2.length ≤ z.1 ∧ St w0 w' (CkI 2 z.2.1.1 z.2.2.length z.2.1.2 z.2.2 :: (mat 28 2 A3 i c3 rs L ++ (cxZ A2 :: ks.set ix k2)))) (fun z => N - z.1) (0, (A6, 0), []) ⟨rfl, rfl, rfl, rfl, rfl, rfl, rfl, trivial⟩ ⟨Nat.zero_le _, Nat.le_refl _, hS6⟩ ?_
        clear hS6 hS5
        rintro ⟨j, ⟨A6, c6⟩, x⟩ e w7 ⟨hj, hx, hS7⟩
        dsimp only at hj hx hS7 ⊢
        refine Cd.seq (Cd.seq (Cd.region (Ops.mi rfl rfl rfl (Ops.mi rfl rfl rfl (Ops.lss rfl rfl rfl (Ops.n (tQ ?_)))))))
        refine Cd.cond_p _ rfl (fun h3 => ?_) (fun h3 => ?_)
        · refine Cd.skip (tQ (Cd.seq (Cd.block (Cd.seq (Cd.region (Ops.mi rfl rfl rfl (Ops.mi rfl rfl rfl (Ops.neq rfl rfl rfl (Ops.n ?_)))))))))
          refine tQ ?_
          refine Cd.cond_p _ rfl (fun h4 => ?_) (fun h4 => ?_)
          · refine Cd.region (Ops.ms rfl rfl rfl (Ops.mi rfl rfl rfl (Ops.bs1I hS7 rfl rfl rfl ?_)))
            intro A9 w8 hS8
            refine Ops.appI 1 hS8 rfl (hS8.rdI 0 rfl) rfl rfl rfl (by omega) (by omega) rfl ?_
            intro A10 c10 w9 hS9
            have hS9 : St w0 w9 (CkI 2 A10 (x.length + 1) c10 (x ++ [(j : Int)]) :: (mat 28 2 A3 i c3 rs L ++ (cxZ A2 :: ks.set ix k2))) := hS9.tail
            have hxl : (x ++ [(j : Int)]).length = x.length + 1 := by simp
            refine Ops.ms rfl rfl rfl (Ops.n (blockQ_n (tQ (Cd.region (Ops.mi rfl rfl rfl (Ops.add rfl rfl rfl (by omega) (Ops.mi rfl rfl rfl (Ops.n (tQ ?_)))))))))
            exact ⟨(j + 1, (A10, c10), x ++ [(j : Int)]), by show N - (j + 1) < N - j; omega, ⟨rfl, rfl, rfl, rfl, rfl, by show Value.slice A10 (x.length + 1) c10 = .slice A10 (x ++ [(j : Int)]).length c10; rw [hxl], rfl, trivial⟩, by show j + 1 ≤ N; omega, by show (x ++ [(j : Int)]).length ≤ j + 1; omega, by rw [← hxl] at hS9; exact hS9⟩
          · refine Cd.skip (blockQ_n (tQ (Cd.region (Ops.mi rfl rfl rfl (Ops.add rfl rfl rfl (by omega) (Ops.mi rfl rfl rfl (Ops.n (tQ ?_))))))))
            exact ⟨(j + 1, (A6, c6), x), by show N - (j + 1) < N - j; omega, ⟨rfl, rfl, rfl, rfl, rfl, rfl, rfl, trivial⟩, by show j + 1 ≤ N; omega, by show x.length ≤ j + 1; omega, hS7⟩
        · refine Cd.exit (thenQ_x (thenQ_x (blockQ_x (tQ (Cd.region (Ops.ms rfl rfl rfl (Ops.ms rfl rfl rfl (Ops.bs1R hS7 rfl rfl rfl ?_))))))))
          intro A7 w6 hS6
          refine Ops.appR 2 hS6 rfl (hS6.rdR 0 rfl) rfl rfl rfl (by omega) (by omega) rfl ?_
          intro A8 c8 w7 hS7
          have hS7 := St.matAdd hS7.tail (by omega)
          refine Ops.ms rfl rfl rfl (Ops.n (blockQ_n (tQ (Cd.region (Ops.mi rfl rfl rfl (Ops.add rfl rfl rfl (by omega) (Ops.mi rfl rfl rfl (Ops.n (tQ ?_)))))))))
          refine ⟨(i + 1, (A8, c8), rs ++ [⟨A6, x.length, c6⟩], L ++ [x]), by show N - (i + 1) < N - i; omega, ⟨rfl, rfl, rfl, rfl, rfl, trivial⟩, by show i + 1 ≤ N; omega, by show (rs ++ [_]).length = i + 1; simp [hrl], by show (L ++ [x]).length = i + 1; simp [hll], fun l hl => ?_, hS7⟩
          rcases List.mem_append.1 hl with hl | hl
          · exact hsm l hl
          · obtain rfl : l = x := by simpa using hl
            omega
      · refine Cd.exit (thenQ_x (thenQ_x (blockQ_x (blockQ_n (tQ ?_)))))
        exact ⟨(i, (A3, c3), rs, L, k2), ⟨rfl, rfl, rfl, trivial⟩, by show i ≤ 20; omega, hrl, hll, hsm, hK2, hS5⟩
    · refine Cd.seq (Cd.region (Ops.eql rfl rfl rfl (Ops.mb rfl rfl rfl (Ops.n (tQ ?_)))))
      refine Cd.cond_p _ rfl (fun h2 => ?_) (fun h2 => ?_)
      · refine Cd.seq (Cd.region (Ops.mv_ptr rfl rfl rfl ?_))
        refine Ops.call (srcNextP_c (mat 28 2 A3 0 0 [] [] ++ [cxZ A2]) ix 5 (by rw [List.append_assoc]; exact hS3) hk1 hK1) rfl rfl rfl ?_
        rintro _ w4 ⟨r, k2, rfl, hr, hK2, hS4⟩
        rw [List.set_set, List.append_assoc] at hS4
        obtain ⟨N, hN⟩ : ∃ N : Nat, 3 + r = N := ⟨(3 + r).toNat, by omega⟩
        have hN5 : 3 ≤ N ∧ N ≤ 7 := by omega
        refine Ops.add rfl rfl rfl (by omega) (Ops.mi rfl rfl rfl (Ops.n (tQ (Cd.seq (Cd.region (Ops.mi rfl rfl rfl (Ops.n (tQ (Cd.block ?_)))))))))
        rw [hN]
        refine Cd.loop (α := Nat × (Option Addr × Nat) × List SlV × List (List Int)) (fun z => [(0, .pointer As), (2, .pointer A2), (3, .slice z.2.1.1 z.1 z.2.1.2), (8, .int .i64 (N : Int)), (9, .int .i64 (z.1 : Int))])
          (fun z w' => z.1 ≤ N ∧ z.2.2.1.length = z.1 ∧ z.2.2.2.length = z.1 ∧ (∀ l ∈ z.2.2.2, l.length ≤ 20) ∧ St w0 w' (mat 28 2 z.2.1.1 z.1 z.2.1.2 z.2.2.1 z.2.2.2 ++ (cxZ A2 :: ks.set ix k2))) (fun z => N - z.1) (0, (A3, 0), [], []) ⟨rfl, rfl, rfl, rfl, rfl, trivial⟩ ⟨Nat.zero_le _, rfl, rfl, (fun _ h => by cases h), hS4⟩ ?_
        clear hS4 hS3
        rintro ⟨i, ⟨A3, c3⟩, rs, L⟩ e w5 ⟨hi, hrl, hll, hsm, hS5⟩
        dsimp only at hi hrl hll hsm hS5 ⊢
        refine Cd.seq (Cd.seq (Cd.region (Ops.mi rfl rfl rfl (Ops.mi rfl rfl rfl (Ops.lss rfl rfl rfl (Ops.n (tQ ?_)))))))
        refine Cd.cond_p _ rfl (fun h3 => ?_) (fun h3 => ?_)
        · refine Cd.skip (tQ (Cd.seq (Cd.block (Cd.region (Ops.ms rfl rfl rfl (Ops.mi rfl rfl rfl (Ops.mi rfl rfl rfl (Ops.add rfl rfl rfl (by omega) (Ops.mi rfl rfl rfl ?_)))))))))
          refine Ops.rem rfl rfl rfl (by omega) ?_
          refine Ops.bsL [(i : Int), ((i : Int) + 1) % N] hS5 rfl rfl (by decide) (by decide) rfl rfl ?_
          intro A6 w6 hS6
          refine Ops.bs1R hS6 rfl rfl rfl ?_
          intro A7 w6 hS6
          refine Ops.appR 2 hS6 rfl (hS6.rdR 0 rfl) rfl rfl rfl (by omega) (by omega) rfl ?_
          intro A8 c8 w7 hS7
          have hS7 := St.matAdd hS7.tail (by omega)
          refine Ops.ms rfl rfl rfl (Ops.n (blockQ_n (tQ (Cd.region (Ops.mi rfl rfl rfl (Ops.add rfl rfl rfl (by omega) (Ops.mi rfl rfl rfl (Ops.n (tQ ?_)))))))))
          refine ⟨(i + 1, (A8, c8), rs ++ [⟨A6, 2, 2⟩], L ++ [[(i : Int), ((i : Int) + 1) % N]]), by show N - (i + 1) < N - i; omega, ⟨rfl, rfl, rfl, rfl, rfl, trivial⟩, by show i + 1 ≤ N; omega, by show (rs ++ [_]).length = i + 1; simp [hrl], by show (L ++ [_]).length = i + 1; simp [hll], fun l hl => ?_, hS7⟩
          rcases List.mem_append.1 hl with hl | hl
          · exact hsm l hl
          · obtain rfl : l = [(i : Int), ((i : Int) + 1) % N] := by simpa using hl
            simp
        · refine Cd.exit (thenQ_x (thenQ_x (blockQ_x (blockQ_n (tQ ?_)))))
          exact ⟨(i, (A3, c3), rs, L, k2), ⟨rfl, rfl, rfl, trivial⟩, by show i ≤ 20; omega, hrl, hll, hsm, hK2, hS5⟩
      · refine Cd.seq (Cd.region (Ops.eql rfl rfl rfl (Ops.mb rfl rfl rfl (Ops.n (tQ ?_)))))
        refine Cd.cond_p _ rfl (fun h3 => ?_) (fun h3 => ?_)
        · refine Cd.region ?_
          refine Ops.bsL [0, 1, 2] (St.refl w3) rfl rfl (by decide) (by decide) rfl rfl ?_
          intro B0 v0 hT
          refine Ops.bsL [0, 2, 3] hT rfl rfl (by decide) (by decide) rfl rfl ?_
          intro B1 v1 hT
          refine Ops.bsL [0, 3, 4] hT rfl rfl (by decide) (by decide) rfl rfl ?_
          intro B2 v2 hT
          refine Ops.bsL [0, 4, 5] hT rfl rfl (by decide) (by decide) rfl rfl ?_
          intro B3 v3 hT
          refine Ops.bsL [0, 1, 5] hT rfl rfl (by decide) (by decide) rfl rfl ?_
          intro B4 v4 hT
          refine Ops.bsL [1, 2, 4] hT rfl rfl (by decide) (by decide) rfl rfl ?_
          intro B5 v5 hT
          refine Ops.bsL [2, 3, 5] hT rfl rfl (by decide) (by decide) rfl rfl ?_
          intro B6 v6 hT
          refine Ops.bsL [1, 3, 4] hT rfl rfl (by decide) (by decide) rfl rfl ?_
          intro B7 v7 hT
          refine Ops.bsL [2, 4, 5] hT rfl rfl (by decide) (by decide) rfl rfl ?_
          intro B8 v8 hT
          refine Ops.bsL [1, 3, 5] hT rfl rfl (by decide) (by decide) rfl rfl ?_
          intro B9 v9 hT
          refine Ops.bsLR [⟨B0, 3, 3⟩, ⟨B1, 3, 3⟩, ⟨B2, 3, 3⟩, ⟨B3, 3, 3⟩, ⟨B4, 3, 3⟩, ⟨B5, 3, 3⟩, ⟨B6, 3, 3⟩, ⟨B7, 3, 3⟩, ⟨B8, 3, 3⟩, ⟨B9, 3, 3⟩] hT rfl rfl (by decide) (by decide) rfl rfl ?_
          intro A6 w6 hT
          have hT2 : St w3 w6 (mat 28 2 A6 10 10 [⟨B0, 3, 3⟩, ⟨B1, 3, 3⟩, ⟨B2, 3, 3⟩, ⟨B3, 3, 3⟩, ⟨B4, 3, 3⟩, ⟨B5, 3, 3⟩, ⟨B6, 3, 3⟩, ⟨B7, 3, 3⟩, ⟨B8, 3, 3⟩, ⟨B9, 3, 3⟩] [[0, 1, 2], [0, 2, 3], [0, 3, 4], [0, 4, 5], [0, 1, 5], [1, 2, 4], [2, 3, 5], [1, 3, 4], [2, 4, 5], [1, 3, 5]]) := hT.perm (List.Perm.cons _ (List.reverse_perm (rowsCk 2 [⟨B0, 3, 3⟩, ⟨B1, 3, 3⟩, ⟨B2, 3, 3⟩, ⟨B3, 3, 3⟩, ⟨B4, 3, 3⟩, ⟨B5, 3, 3⟩, ⟨B6, 3, 3⟩, ⟨B7, 3, 3⟩, ⟨B8, 3, 3⟩, ⟨B9, 3, 3⟩] [[0, 1, 2], [0, 2, 3], [0, 3, 4], [0, 4, 5], [0, 1, 5], [1, 2, 4], [2, 3, 5], [1, 3, 4], [2, 4, 5], [1, 3, 5]])))
          have hS5 := (hS3.sub (List.sublist_cons_self _ _)).call hT2
          refine Ops.ms rfl rfl rfl (Ops.n (blockQ_n (tQ ?_)))
          exact ⟨(10, (A6, 10), _, _, k1), ⟨rfl, rfl, rfl, trivial⟩, by show 10 ≤ 20; omega, rfl, rfl, (by show ∀ l ∈ ([[0, 1, 2], [0, 2, 3], [0, 3, 4], [0, 4, 5], [0, 1, 5], [1, 2, 4], [2, 3, 5], [1, 3, 4], [2, 4, 5], [1, 3, 5]] : List (List Int)), l.length ≤ 20; decide), hK1, hS5⟩
        · refine Cd.seq (Cd.region (Ops.mv_ptr rfl rfl rfl ?_))
          refine Ops.call (srcNextP_c (mat 28 2 A3 0 0 [] [] ++ [cxZ A2]) ix 7 (by rw [List.append_assoc]; exact hS3) hk1 hK1) rfl rfl rfl ?_
          rintro _ w4 ⟨r, k2, rfl, hr, hK2, hS4⟩
          rw [List.set_set, List.append_assoc] at hS4
          refine Ops.mi rfl rfl rfl (Ops.n (tQ (Cd.block ?_)))
          refine Cd.loop (α := Int × (Nat × (Option Addr × Nat)) × List SlV × List (List Int) × Ck) (fun z => [(0, .pointer As), (2, .pointer A2), (3, .slice z.2.1.2.1 z.2.1.1 z.2.1.2.2), (10, .int .i64 z.1)])
            (fun z w' => (0 ≤ z.1 ∧ z.1 + z.2.1.1 ≤ 7) ∧ z.2.2.1.length = z.2.1.1 ∧ z.2.2.2.1.length = z.2.1.1 ∧ (∀ l ∈ z.2.2.2.1, l.length ≤ 20) ∧ srcK w0 As z.2.2.2.2 ∧ St w0 w' (mat 28 2 z.2.1.2.1 z.2.1.1 z.2.1.2.2 z.2.2.1 z.2.2.2.1 ++ (cxZ A2 :: ks.set ix z.2.2.2.2))) (fun z => z.1.toNat) (r, (0, (A3, 0)), [], [], k2) ⟨rfl, rfl, rfl, rfl, trivial⟩ ⟨by show 0 ≤ r ∧ r + ((0 : Nat) : Int) ≤ 7; omega, rfl, rfl, (fun _ h => by cases h), hK2, hS4⟩ ?_
          clear hS4 hS3 hK2 hr hk1 hK1
          rintro ⟨p, ⟨i, ⟨A3, c3⟩⟩, rs, L, k2⟩ e w5 ⟨hp, hrl, hll, hsm, hK2, hS5⟩
          dsimp only at hp hrl hll hsm hK2 hS5 ⊢
          have hk2 := setK_get (k' := k2) hk
          refine Cd.seq (Cd.seq (Cd.region (Ops.mi rfl rfl rfl (Ops.gtr rfl rfl rfl (Ops.n (tQ ?_))))))
          refine Cd.cond_p _ rfl (fun h4 => ?_) (fun h4 => ?_)
          · refine Cd.skip (tQ (Cd.seq (Cd.block (Cd.seq (Cd.region (Ops.bs0 hS5 rfl ?_))))))
            intro A6 w6 hS6
            have hS6 : St w0 w6 ((CkI 2 A6 0 0 [] :: (mat 28 2 A3 i c3 rs L ++ [cxZ A2])) ++ ks.set ix k2) := by
              rw [List.cons_append, List.append_assoc]; exact hS6
            refine Ops.ms rfl rfl rfl (Ops.n (tQ (Cd.seq (Cd.seq (Cd.region (Ops.mv_ptr rfl rfl rfl (Ops.call (srcNextP_c _ ix 4 hS6 hk2 hK2) rfl rfl rfl ?_)))))))
            rintro _ w7 ⟨r3, k3, rfl, hr3, hK3, hS7⟩
            rw [List.set_set] at hS7
            refine Ops.add rfl rfl rfl (by omega) (Ops.mi rfl rfl rfl (Ops.n (tQ (Cd.block ?_))))
            refine Cd.loop (α := Int × (Option Addr × Nat) × List Int × Ck) (fun z => [(0, .pointer As), (2, .pointer A2), (3, .slice A3 i c3), (10, .int .i64 p), (11, .slice z.2.1.1 z.2.2.1.length z.2.1.2), (12, .int .i64 z.1)])
              (fun z w' => (0 ≤ z.1 ∧ z.1 + z.2.2.1.length ≤ 4) ∧ srcK w0 As z.2.2.2 ∧ St w0 w' ((CkI 2 z.2.1.1 z.2.2.1.length z.2.1.2 z.2.2.1 :: (mat 28 2 A3 i c3 rs L ++ [cxZ A2])) ++ ks.set ix z.2.2.2)) (fun z => z.1.toNat) (1 + r3, (A6, 0), [], k3) ⟨rfl, rfl, rfl, rfl, rfl, rfl, trivial⟩ ⟨by show 0 ≤ 1 + r3 ∧ 1 + r3 + ((0 : Nat) : Int) ≤ 4; omega, hK3, hS7⟩ ?_
            clear hS7 hS6 hS5 hK3 hr3 hk2 hK2
            rintro ⟨s, ⟨A6, c6⟩, x, k3⟩ e w8 ⟨hs, hK3, hS8⟩
            dsimp only at hs hK3 hS8 ⊢
            have hk3 := setK_get (k' := k3) hk
            refine Cd.seq (Cd.seq (Cd.region (Ops.mi rfl rfl rfl (Ops.gtr rfl rfl rfl (Ops.n (tQ ?_))))))
            refine Cd.cond_p _ rfl (fun h5 => ?_) (fun h5 => ?_)
            · refine Cd.skip (tQ (Cd.seq (Cd.block (Cd.region (Ops.ms rfl rfl rfl (Ops.mv_ptr rfl rfl rfl (Ops.call (srcNextP_c _ ix 7 hS8 hk3 hK3) rfl rfl rfl ?_)))))))
              rintro _ w9 ⟨r4, k4, rfl, hr4, hK4, hS9⟩
              rw [List.set_set] at hS9
              refine Ops.bs1I hS9 rfl rfl rfl ?_
              intro A9 w10 hS10
              refine Ops.appI 1 hS10 rfl (hS10.rdI 0 rfl) rfl rfl rfl (by omega) (by omega) rfl ?_
              intro A10 c10 w11 hS11
              have hS11 : St w0 w11 ((CkI 2 A10 (x.length + 1) c10 (x ++ [r4]) :: (mat 28 2 A3 i c3 rs L ++ [cxZ A2])) ++ ks.set ix k4) := hS11.tail
              have hxl : (x ++ [r4]).length = x.length + 1 := by simp
              refine Ops.ms rfl rfl rfl (Ops.n (blockQ_n (tQ (Cd.region (Ops.mi rfl rfl rfl (Ops.sub rfl rfl rfl (by omega) (Ops.mi rfl rfl rfl (Ops.n (tQ ?_)))))))))
              exact ⟨(s - 1, (A10, c10), x ++ [r4], k4), by show (s - 1).toNat < s.toNat; omega, ⟨rfl, rfl, rfl, rfl, by show Value.slice A10 (x.length + 1) c10 = .slice A10 (x ++ [r4]).length c10; rw [hxl], rfl, trivial⟩, by show 0 ≤ s - 1 ∧ s - 1 + ((x ++ [r4]).length : Int) ≤ 4; omega, hK4, by rw [← hxl] at hS11; exact hS11⟩
            · have hS8 : St w0 w8 (CkI 2 A6 x.length c6 x :: (mat 28 2 A3 i c3 rs L ++ (cxZ A2 :: ks.set ix k3))) := by
                rw [List.cons_append, List.append_assoc] at hS8; exact hS8
              refine Cd.exit (thenQ_x (thenQ_x (blockQ_x (tQ (Cd.region (Ops.ms rfl rfl rfl (Ops.ms rfl rfl rfl (Ops.bs1R hS8 rfl rfl rfl ?_))))))))
              intro A7 w6 hS6
              refine Ops.appR 2 hS6 rfl (hS6.rdR 0 rfl) rfl rfl rfl (by omega) (by omega) rfl ?_
              intro A8 c8 w7 hS7
              have hS7 := St.matAdd hS7.tail (by omega)
              refine Ops.ms rfl rfl rfl (Ops.n (blockQ_n (tQ (Cd.region (Ops.mi rfl rfl rfl (Ops.sub rfl rfl rfl (by omega) (Ops.mi rfl rfl rfl (Ops.n (tQ ?_)))))))))
              refine ⟨(p - 1, (i + 1, (A8, c8)), rs ++ [⟨A6, x.length, c6⟩], L ++ [x], k3), by show (p - 1).toNat < p.toNat; omega, ⟨rfl, rfl, rfl, rfl, trivial⟩, by show 0 ≤ p - 1 ∧ p - 1 + ((i + 1 : Nat) : Int) ≤ 7; omega, by show (rs ++ [_]).length = i + 1; simp [hrl], by show (L ++ [x]).length = i + 1; simp [hll], fun l hl => ?_, hK3, hS7⟩
              rcases List.mem_append.1 hl with hl | hl
              · exact hsm l hl
              · obtain rfl : l = x := by simpa using hl
                omega
          · refine Cd.exit (thenQ_x (thenQ_x (blockQ_x (blockQ_n (tQ ?_)))))
            exact ⟨(i, (A3, c3), rs, L, k2), ⟨rfl, rfl, rfl, trivial⟩, by show i ≤ 20; omega, hrl, hll, hsm, hK2, hS5⟩
  rintro ⟨n, ⟨A3, c3⟩, rs, L, k2⟩ e w4 ⟨hn, hrl, hll, hsm, hK2, hS4⟩
  dsimp only at hn hrl hll hsm hK2 hS4 ⊢
  have hk2 := setK_get (k' := k2) hk
  refine Cd.seq (Cd.region (Ops.ms rfl rfl rfl ?_))
  refine Ops.call (specComplexOf_c A3 n c3 rs L _ (St.rowsI hS4 hll) (by omega) (fun l hl => by have := hsm l hl; omega)) rfl rfl rfl ?_
  rintro _ w5 ⟨A4, c4, rs4, rfl, hrl4, hst4⟩
  have hC := co_cplx L
  generalize coV L = V at *
  generalize coL L = F at *
  have hS5 : St w0 w5 (mat 28 2 A4 F.length c4 rs4 F ++ (cxZ A2 :: ks.set ix k2)) := (hS4.call hst4).sub (by
    rw [List.append_nil]
    exact (List.Sublist.refl _).append (List.sublist_append_right _ _))
  refine Ops.mv_tup rfl rfl rfl (Ops.extract rfl rfl rfl (Ops.extract rfl rfl rfl (Ops.new2 hS5 rfl ?_)))
  intro A5 w6 hS6
  refine Ops.st_agg 2 0 hS6 rfl rfl rfl rfl rfl rfl rfl ?_
  intro w7 hS7
  have hS7 : St w0 w7 ((cxB A5 V A4 F.length c4 :: (mat 28 2 A4 F.length c4 rs4 F ++ [cxZ A2])) ++ ks.set ix k2) := by
    rw [List.cons_append, List.append_assoc]; exact hS7
  clear hS6 hS5 hS4
  refine Ops.mi rfl rfl rfl (Ops.n (tQ (Cd.seq (Cd.seq (Cd.region (Ops.mv_ptr rfl rfl rfl (Ops.call (srcNextP_c _ ix 4 hS7 hk2 hK2) rfl rfl rfl ?_)))))))
  rintro _ w8 ⟨r, k3, rfl, hr, hK3, hS8⟩
  rw [List.set_set, List.cons_append, List.append_assoc] at hS8
  clear hS7
  have hfin : ∀ {w9 : World}, St w0 w9 (cxB A5 V A4 F.length c4 :: (mat 28 2 A4 F.length c4 rs4 F ++ (cxZ A2 :: ks.set ix k3))) → St w0 w9 (cxZ A2 :: cxB A5 V A4 F.length c4 :: (mat 28 2 A4 F.length c4 rs4 F ++ ks.set ix k3)) := fun h => h.perm (List.perm_middle (l₁ := cxB A5 V A4 F.length c4 :: mat 28 2 A4 F.length c4 rs4 F))
  refine Ops.eql rfl rfl rfl (Ops.n (tQ ?_))
  refine Cd.cond_p _ rfl (fun h1 => ?_) (fun h1 => ?_)
  · refine Cd.seq (Cd.region (Ops.ld_agg 1 (hS8.rd 0 rfl) rfl rfl rfl (Ops.bs1I (St.refl w8) rfl rfl rfl ?_)))
    intro B0 w9 hT
    refine Ops.bs1I hT rfl rfl rfl ?_
    intro B1 w10 hT
    refine Ops.bsLR [⟨B0, 1, 1⟩, ⟨B1, 1, 1⟩] hT rfl rfl (by decide) (by decide) rfl rfl ?_
    intro B2 w11 hT
    have hT : St w8 w11 (mat 28 2 B2 2 2 [⟨B0, 1, 1⟩, ⟨B1, 1, 1⟩] [[0], [1]] ++ []) := hT.perm (List.Perm.cons _ (List.Perm.swap _ _ _))
    refine Ops.bld2c (by exact inferInstance) (by exact inferInstance) rfl rfl rfl rfl rfl rfl rfl ?_
    have hS9 := hS8.later hT.below
    have hM : RowsI w11 A4 F.length rs4 F := St.rowsI (show St w0 w11 (mat 28 2 A4 F.length c4 rs4 F ++ _) from hS9.tail) rfl
    refine Ops.call (l17Join_c V A4 F.length c4 rs4 F 2 B2 2 2 _ [[0], [1]] _ hM (St.rowsI hT rfl) hC two_pts) rfl rfl rfl ?_
    rintro _ w12 ⟨A6, c6, rs6, rfl, hrl6, hst6⟩
    have hJ := jn_cplx hC two_pts
    generalize jnV V F [[0], [1]] = V' at *
    generalize jnLs V F [[0], [1]] = F' at *
    generalize jnK V F [[0], [1]] = K' at *
    have hS10 := hS9.call hst6
    refine Ops.mv_tup rfl rfl rfl (Ops.extract rfl rfl rfl (Ops.extract rfl rfl rfl (Ops.new2 hS10 rfl ?_)))
    intro A7 w13 hS11
    refine Ops.st_agg 2 0 hS11 rfl rfl rfl rfl rfl rfl rfl ?_
    intro w14 hS12
    have hS12 : St w0 w14 (cxB A7 V' A6 F'.length c6 :: (mat 28 2 A6 F'.length c6 rs6 F' ++ (cxB A5 V A4 F.length c4 :: (mat 28 2 A4 F.length c4 rs4 F ++ (cxZ A2 :: ks.set ix k3))))) := by
      rw [List.append_nil] at hS12; exact hS12
    refine Ops.mi rfl rfl rfl (Ops.n (tQ (Cd.seq (Cd.region (Ops.mi rfl rfl rfl (Ops.eql rfl rfl rfl (Ops.n (tQ ?_))))))))
    refine Cd.cond_p _ rfl (fun h2 => ?_) (fun h2 => ?_)
    · have hS13 : St w0 w14 (cxB A5 V A4 F.length c4 :: cxB A7 V' A6 F'.length c6 :: cxZ A2 :: (mat 28 2 A6 F'.length c6 rs6 F' ++ ks.set ix k3)) := by
        refine (hS12.sub (?_ : List.Sublist (cxB A7 V' A6 F'.length c6 :: (mat 28 2 A6 F'.length c6 rs6 F' ++ (cxB A5 V A4 F.length c4 :: (cxZ A2 :: ks.set ix k3)))) _)).perm ?_
        · exact List.Sublist.cons_cons _ ((List.Sublist.refl _).append (List.Sublist.cons_cons _ (List.sublist_append_right _ _)))
        · refine (List.Perm.cons _ (List.perm_middle.trans (List.Perm.cons _ List.perm_middle))).trans ?_
          exact List.Perm.swap _ _ _
      refine Cd.region (Ops.ld_agg 1 (hS13.rd 1 rfl) rfl rfl rfl (Ops.st_agg 2 0 hS13 rfl rfl rfl rfl rfl rfl rfl ?_))
      intro w15 hS14
      refine Ops.n (tQ (Cd.seq (Cd.region (Ops.ld_agg 1 (hS14.rd 0 rfl) rfl rfl rfl (Ops.st_agg 2 2 hS14 rfl rfl rfl rfl rfl rfl rfl ?_)))))
      intro w16 hS15
      refine Ops.n (tQ (Cd.ret ?_))
      skip
      refine retc_r rfl (hS15.rd 2 rfl) ?_
      exact ⟨V', F', A6, c6, rs6, k3, rfl, hJ, hrl6, hK3, hS15.tail.tail.tail⟩
    · have hS13 := hfin (hS12.sub ((List.sublist_append_right _ _).cons _) : St w0 w14 (cxB A5 V A4 F.length c4 :: (mat 28 2 A4 F.length c4 rs4 F ++ (cxZ A2 :: ks.set ix k3))))
      refine Cd.skip (tQ (Cd.seq (Cd.region (Ops.ld_agg 1 (hS13.rd 1 rfl) rfl rfl rfl (Ops.st_agg 2 0 hS13 rfl rfl rfl rfl rfl rfl rfl ?_)))))
      intro w16 hS15
      refine Ops.n (tQ (Cd.ret ?_))
      skip
      refine retc_r rfl (hS15.rd 0 rfl) ?_
      exact ⟨V, F, A4, c4, rs4, k3, rfl, hC, hrl4, hK3, hS15.tail.tail⟩
  · have hS13 := hfin hS8
    refine Cd.skip (tQ (Cd.seq (Cd.region (Ops.ld_agg 1 (hS13.rd 1 rfl) rfl rfl rfl (Ops.st_agg 2 0 hS13 rfl rfl rfl rfl rfl rfl rfl ?_)))))
    intro w16 hS15
    refine Ops.n (tQ (Cd.ret ?_))
    skip
    refine retc_r rfl (hS15.rd 0 rfl) ?_
    exact ⟨V, F, A4, c4, rs4, k3, rfl, hC, hrl4, hK3, hS15.tail.tail⟩
/-
 What mostly is a complex, drawn; and lists drawn, walked.
-/
theorem St.matAdd2 {w0 w : World} {t1 t2 : TypeId} {a A : Option Addr} {m d n c : Nat} {x : List Int} {rs : List SlV} {L : List (List Int)} {p q : Ck} {X : List Ck} (h : St w0 w (CkI t2 a m d x :: p :: q :: CkR t1 A n c (rs ++ [⟨a, m, d⟩]) :: (rowsCk t2 rs L ++ X))) (hl : rs.length = L.length) : St w0 w (p :: q :: (mat t1 t2 A n c (rs ++ [⟨a, m, d⟩]) (L ++ [x]) ++ X)) := by
 refine h.perm ?_
 unfold mat
 rw [rowsCk_append hl]
 exact (List.perm_append_comm (l₁ := [CkI t2 a m d x]) (l₂ := p :: q :: CkR t1 A n c (rs ++ [⟨a, m, d⟩]) :: rowsCk t2 rs L)).append_right X
def AnsAny (w0 : World) (ks : List Ck) (ix : Nat) (As : Option Addr) (v : Value) (w' : World) : Prop :=
 ∃ (V : Int) (n : Nat) (F : List (List Int)) (A : Option Addr) (c : Nat) (rs : List SlV) (k' : Ck), v = .agg #[.int .i64 V, .slice A n c] ∧ (-10 ≤ V ∧ V ≤ 200) ∧ n ≤ 401 ∧ rs.length = n ∧ F.length = n ∧ srcK w0 As k' ∧ St w0 w' (mat 28 2 A n c rs F ++ ks.set ix k')
set_option maxHeartbeats 1000000 in
theorem l17DrawAny_c {w0 w : World} {ks : List Ck} (ix : Nat) {As : Option Addr} {k : Ck} (hS : St w0 w ks) (hk : ks[ix]? = some k) (hK : srcK w0 As k) :
    Ret Tryz.prog 56 [.pointer As] w (AnsAny w0 ks ix As) := by
  refine Ret.of_cd Tryz.func56 rfl Tryz.ntmps56 rfl (postc rfl rfl) (Cd.seq (Cd.region (Ops.new2 hS rfl ?_)))
  intro A2 w1 hS1
  have hS1 : St w0 w1 (cxZ A2 :: ks) := hS1
  refine Ops.n (tQ (Cd.seq (Cd.region (Ops.mv_ptr rfl rfl rfl (Ops.call (l17Draw_c (ix + 1) hS1 (by exact hk) hK) rfl rfl rfl ?_)))))
  rintro _ w2 ⟨V, F, A, c, rs, k1, rfl, hC, hrl, hK1, hS2⟩
  have hV := hC.v
  have hF4 := hC.f
  refine Ops.new2 hS2 rfl ?_
  intro A3 w3 hS3
  refine Ops.st_agg 2 0 hS3 rfl rfl rfl rfl rfl rfl rfl ?_
  intro w4 hS4
  have hS4 : St w0 w4 (cxZ A2 :: cxB A3 V A F.length c :: (mat 28 2 A F.length c rs F ++ ks.set ix k1)) := St.perm (show St w0 w4 ((cxB A3 V A F.length c :: mat 28 2 A F.length c rs F) ++ (cxZ A2 :: ks.set ix k1)) from hS4) List.perm_middle
  have hk1 := setK_get (k' := k1) hk
  clear hS1 hS2 hS3 hS
  refine Ops.n (tQ ?_)
  refine Cd.join (α := (Int × Nat) × (Option Addr × Nat) × List SlV × List (List Int) × Ck) (fun _ => [(2, .pointer A2), (3, .pointer A3)])
    (fun z w' => (-10 ≤ z.1.1 ∧ z.1.1 ≤ 200) ∧ z.1.2 ≤ 401 ∧ z.2.2.1.length = z.1.2 ∧ z.2.2.2.1.length = z.1.2 ∧ srcK w0 As z.2.2.2.2 ∧ St w0 w' (cxZ A2 :: cxB A3 z.1.1 z.2.1.1 z.1.2 z.2.1.2 :: (mat 28 2 z.2.1.1 z.1.2 z.2.1.2 z.2.2.1 z.2.2.2.1 ++ ks.set ix z.2.2.2.2))) ?_ ?_
  · refine Cd.seq (Cd.region (Ops.mv_ptr rfl rfl rfl (Ops.call (srcNextP_c (cxZ A2 :: cxB A3 V A F.length c :: mat 28 2 A F.length c rs F) ix 24 hS4 hk1 hK1) rfl rfl rfl ?_)))
    rintro _ wB ⟨q, k2, rfl, hq, hK2, hB⟩
    rw [List.set_set] at hB
    have hB : St w0 wB (cxZ A2 :: cxB A3 V A F.length c :: (mat 28 2 A F.length c rs F ++ ks.set ix k2)) := hB
    have hk2 := setK_get (k' := k2) hk
    generalize hn : F.length = n at *
    clear hS4
    refine Ops.n (tQ (Cd.block (Cd.seq (Cd.region (Ops.eql rfl rfl rfl (Ops.mb rfl rfl rfl (Ops.n (tQ ?_))))))))
    refine Cd.cond_p _ rfl (fun h1 => ?_) (fun h1 => ?_)
    · skip
      refine Cd.drawN [4, 7] [.ex (.pointer (ptrAt A3 0)), .ex (.int .i64 (V)), .ex (.pointer As), .pr (fun v w' => ∃ A13, v = .slice A13 3 3 ∧ St w0 w' (CkI 2 A13 3 3 [1, -1, 60] :: (cxZ A2 :: cxB A3 V A n c :: (mat 28 2 A n c rs F ++ ks.set ix k2)))), .pr (fun v w' => ∃ r k3, v = .int .i64 r ∧ (-1 ≤ r ∧ r ≤ 60) ∧ srcK w0 As k3 ∧ St w0 w' (cxZ A2 :: cxB A3 V A n c :: (mat 28 2 A n c rs F ++ ks.set ix k3))), .pr (fun v _ => ∃ r : Int, v = .int .i64 (V + r) ∧ (-1 ≤ r ∧ r ≤ 60)), .ex (.pointer (ptrAt A3 0)), .pr (fun _ w' => ∃ r k3, (-1 ≤ r ∧ r ≤ 60) ∧ srcK w0 As k3 ∧ St w0 w' (cxZ A2 :: cxB A3 (V + r) A n c :: (mat 28 2 A n c rs F ++ ks.set ix k3)))] (by kernel_rfl) (by kernel_rfl) (lx (lx (lx (List.forall_mem_cons.2 ⟨Yd.lasts_pr (fun v w w' h hb => by obtain ⟨A13, hv, hT⟩ := h; exact ⟨A13, hv, hT.later hb⟩), (List.forall_mem_cons.2 ⟨Yd.lasts_pr (fun v w w' h hb => by obtain ⟨r, k3, hv, hr, hK3, hT⟩ := h; exact ⟨r, k3, hv, hr, hK3, hT.later hb⟩), (List.forall_mem_cons.2 ⟨Yd.lasts_pr (fun v w w' h hb => h), (lx (List.forall_mem_cons.2 ⟨Yd.lasts_pr (fun v w w' h hb => by obtain ⟨r, k3, hr, hK3, hT⟩ := h; exact ⟨r, k3, hr, hK3, hT.later hb⟩), (fun _ h => by cases h)⟩))⟩)⟩)⟩)))) ⟨?_, ?_, ?_, ?_, ?_, ?_, ?_, ?_, trivial⟩ ?_
      · intro e1 w1 cc hlo hhi hb0 hp hun hq
        show Ops _ _ _ _ _ _ _
        have hX : Rd w1 A3 2 (fun j => [Value.int .i64 V, .slice A n c].getD j undef) := by { have hhi := le_of_hi hhi (b := 1) (by kernel_rfl); rcases (show cc = 0 ∨ cc = 1 by omega) with h | h; { exact (hB.later (hb0 h)).rd 1 rfl }; { subst h; obtain ⟨r, k3, _, _, _, hT⟩ := hq 4 _ _ (by kernel_rfl) (by kernel_rfl) (by kernel_rfl) rfl rfl (by kernel_rfl); exact hT.rd 1 rfl } }
        refine Ops.fld hX rfl rfl rfl rfl inferInstance (Ops.n (n0 rfl (by exact rfl)))
      · intro e1 w1 cc hlo hhi hb0 hp hun hq
        show Ops _ _ _ _ _ _ _
        have hX : Rd w1 A3 2 (fun j => [Value.int .i64 V, .slice A n c].getD j undef) := by { have hhi := le_of_hi hhi (b := 1) (by kernel_rfl); rcases (show cc = 0 ∨ cc = 1 by omega) with h | h; { exact (hB.later (hb0 h)).rd 1 rfl }; { subst h; obtain ⟨r, k3, _, _, _, hT⟩ := hq 4 _ _ (by kernel_rfl) (by kernel_rfl) (by kernel_rfl) rfl rfl (by kernel_rfl); exact hT.rd 1 rfl } }
        refine Ops.ldf_i hX rfl rfl rfl rfl rfl (Ops.n (n0 rfl (by exact rfl)))
      · intro e1 w1 cc hlo hhi hb0 hp hun hq
        show Ops _ _ _ _ _ _ _
        refine Ops.mv_ptr rfl rfl rfl (Ops.n (n0 rfl (by exact rfl)))
      · intro e1 w1 cc hlo hhi hb0 hp hun hq
        show Ops _ _ _ _ _ _ _
        obtain rfl := cc_of hlo hhi (b := 0) (by kernel_rfl) (by kernel_rfl)
        have hb := hb0 rfl
        refine Ops.bsL [1, -1, 60] (St.refl _) rfl rfl (by decide) (by decide) rfl rfl ?_
        intro A13 w9 hst
        refine Ops.n ?_
        exact AfterN.dn rfl hst.below ⟨A13, rfl, (hB.later hb).call hst⟩
      · intro e1 w1 cc hlo hhi hb0 hp hun hq
        show Ops _ _ _ _ _ _ _
        obtain rfl := cc_of hlo hhi (b := 0) (by kernel_rfl) (by kernel_rfl)
        have hb := hb0 rfl
        obtain ⟨A13, h13, hT⟩ := (hp 3 _ _ (by kernel_rfl) rfl rfl (by kernel_rfl))
        refine Ops.call (l01PickP_c (CkI 2 A13 3 3 [1, -1, 60] :: cxZ A2 :: cxB A3 V A n c :: mat 28 2 A n c rs F) ix A13 3 3 [1, -1, 60] hT hk2 hK2 (fun k' w' h => h.rdI 0 rfl) (by decide)) rfl (by exact congrArg (fun v => [Value.pointer As, v]) h13) rfl ?_
        rintro _ w9 ⟨x, k3, rfl, hx, hK3, hS9⟩
        rw [List.set_set] at hS9
        refine Ops.n ?_
        exact AfterT.dn rfl ⟨x, k3, rfl, by (simp at hx; omega), hK3, St.tail hS9⟩
      · intro e1 w1 cc hlo hhi hb0 hp hun hq
        show Ops _ _ _ _ _ _ _
        obtain rfl := cc_of hlo hhi (b := 1) (by kernel_rfl) (by kernel_rfl)
        have hph := hp 4 _ _ (by kernel_rfl) rfl rfl (by kernel_rfl)
        obtain ⟨r, k3, h14, hr, _, _⟩ := (hp 4 _ _ (by kernel_rfl) rfl rfl (by kernel_rfl))
        refine Ops.add rfl (by exact h14) rfl (by omega) (Ops.n ?_)
        exact AfterN.dn rfl (Below.refl _ _) ⟨r, rfl, hr⟩
      · intro e1 w1 cc hlo hhi hb0 hp hun hq
        show Ops _ _ _ _ _ _ _
        obtain rfl := cc_of hlo hhi (b := 1) (by kernel_rfl) (by kernel_rfl)
        have hph := hp 4 _ _ (by kernel_rfl) rfl rfl (by kernel_rfl)
        obtain ⟨r, k3, _, _, _, hT⟩ := hph
        refine Ops.fld (hT.rd 1 rfl) rfl rfl rfl rfl inferInstance (Ops.n (n0 rfl (by exact rfl)))
      · intro e1 w1 cc hlo hhi hb0 hp hun hq
        show Ops _ _ _ _ _ _ _
        obtain rfl := cc_of hlo hhi (b := 1) (by kernel_rfl) (by kernel_rfl)
        have hph := hp 4 _ _ (by kernel_rfl) rfl rfl (by kernel_rfl)
        obtain ⟨r, h15, hr⟩ := (hp 5 _ _ (by kernel_rfl) rfl rfl (by kernel_rfl))
        obtain ⟨r', k3, _, _, hK3, hT⟩ := hph
        refine Ops.stf 1 hT rfl rfl (by exact h15) rfl rfl ?_
        intro w9 hS9
        refine Ops.n ?_
        exact AfterT.st rfl ⟨r, k3, hr, hK3, hS9⟩
      intro u w5 _ hu
      obtain ⟨r, k3, hr, hK3, hT⟩ := hu 7 _ rfl (by kernel_rfl)
      refine blockQ_n (tQ ?_)
      exact ⟨((V + r, n), (A, c), rs, F, k3), ⟨rfl, rfl, trivial⟩, by show -10 ≤ V + r ∧ V + r ≤ 200; omega, by show n ≤ 401; omega, hrl, hn, hK3, hT⟩
    · refine Cd.seq (Cd.region (Ops.eql rfl rfl rfl (Ops.mb rfl rfl rfl (Ops.n (tQ ?_)))))
      refine Cd.cond_p _ rfl (fun h2 => ?_) (fun h2 => ?_)
      · skip
        refine Cd.drawN [3, 6, 8] [.ex (.pointer (ptrAt A3 1)), .ex (.slice (A) (n) (c)), .ex (.pointer As), .pr (fun v w' => ∃ r k3, v = .int .i64 r ∧ srcK w0 As k3 ∧ St w0 w' (cxZ A2 :: cxB A3 V A n c :: (mat 28 2 A n c rs F ++ ks.set ix k3))), .pr (fun v w' => ∃ A9 r k3, v = .slice A9 1 1 ∧ srcK w0 As k3 ∧ St w0 w' (CkI 2 A9 1 1 [r] :: cxZ A2 :: cxB A3 V A n c :: (mat 28 2 A n c rs F ++ ks.set ix k3))), .pr (fun v w' => ∃ A9 r k3 A10, v = .slice A10 1 1 ∧ srcK w0 As k3 ∧ St w0 w' (CkR 28 A10 1 1 [⟨A9, 1, 1⟩] :: CkI 2 A9 1 1 [r] :: cxZ A2 :: cxB A3 V A n c :: (mat 28 2 A n c rs F ++ ks.set ix k3))), .pr (fun v w' => ∃ A9 r k3 A11 c11, v = .slice A11 (n + 1) c11 ∧ srcK w0 As k3 ∧ St w0 w' (cxZ A2 :: cxB A3 V A n c :: (mat 28 2 A11 (n + 1) c11 (rs ++ [⟨A9, 1, 1⟩]) (F ++ [[r]]) ++ ks.set ix k3))), .ex (.pointer (ptrAt A3 1)), .pr (fun _ w' => ∃ A9 r k3 A11 c11, srcK w0 As k3 ∧ St w0 w' (cxZ A2 :: cxB A3 V A11 (n + 1) c11 :: (mat 28 2 A11 (n + 1) c11 (rs ++ [⟨A9, 1, 1⟩]) (F ++ [[r]]) ++ ks.set ix k3)))] (by kernel_rfl) (by kernel_rfl) (lx (lx (lx (List.forall_mem_cons.2 ⟨Yd.lasts_pr (fun v w w' h hb => by obtain ⟨r, k3, hv, hK3, hT⟩ := h; exact ⟨r, k3, hv, hK3, hT.later hb⟩), (List.forall_mem_cons.2 ⟨Yd.lasts_pr (fun v w w' h hb => by obtain ⟨A9, r, k3, hv, hK3, hT⟩ := h; exact ⟨A9, r, k3, hv, hK3, hT.later hb⟩), (List.forall_mem_cons.2 ⟨Yd.lasts_pr (fun v w w' h hb => by obtain ⟨A9, r, k3, A10, hv, hK3, hT⟩ := h; exact ⟨A9, r, k3, A10, hv, hK3, hT.later hb⟩), (List.forall_mem_cons.2 ⟨Yd.lasts_pr (fun v w w' h hb => by obtain ⟨A9, r, k3, A11, c11, hv, hK3, hT⟩ := h; exact ⟨A9, r, k3, A11, c11, hv, hK3, hT.later hb⟩), (lx (List.forall_mem_cons.2 ⟨Yd.lasts_pr (fun v w w' h hb => by obtain ⟨A9, r, k3, A11, c11, hK3, hT⟩ := h; exact ⟨A9, r, k3, A11, c11, hK3, hT.later hb⟩), (fun _ h => by cases h)⟩))⟩)⟩)⟩)⟩)))) ⟨?_, ?_, ?_, ?_, ?_, ?_, ?_, ?_, ?_, trivial⟩ ?_
        · intro e1 w1 cc hlo hhi hb0 hp hun hq
          show Ops _ _ _ _ _ _ _
          have hX : Rd w1 A3 2 (fun j => [Value.int .i64 V, .slice A n c].getD j undef) := by { have hhi := le_of_hi hhi (b := 1) (by kernel_rfl); rcases (show cc = 0 ∨ cc = 1 by omega) with h | h; { exact (hB.later (hb0 h)).rd 1 rfl }; { subst h; obtain ⟨r, k3, _, _, hT⟩ := hq 3 _ _ (by kernel_rfl) (by kernel_rfl) (by kernel_rfl) rfl rfl (by kernel_rfl); exact hT.rd 1 rfl } }
          refine Ops.fld hX rfl rfl rfl rfl inferInstance (Ops.n (n0 rfl (by exact rfl)))
        · intro e1 w1 cc hlo hhi hb0 hp hun hq
          show Ops _ _ _ _ _ _ _
          have hX : Rd w1 A3 2 (fun j => [Value.int .i64 V, .slice A n c].getD j undef) := by { have hhi := le_of_hi hhi (b := 1) (by kernel_rfl); rcases (show cc = 0 ∨ cc = 1 by omega) with h | h; { exact (hB.later (hb0 h)).rd 1 rfl }; { subst h; obtain ⟨r, k3, _, _, hT⟩ := hq 3 _ _ (by kernel_rfl) (by kernel_rfl) (by kernel_rfl) rfl rfl (by kernel_rfl); exact hT.rd 1 rfl } }
          refine Ops.ldf_s hX rfl rfl rfl rfl rfl (Ops.n (n0 rfl (by exact rfl)))
        · intro e1 w1 cc hlo hhi hb0 hp hun hq
          show Ops _ _ _ _ _ _ _
          refine Ops.mv_ptr rfl rfl rfl (Ops.n (n0 rfl (by exact rfl)))
        · intro e1 w1 cc hlo hhi hb0 hp hun hq
          show Ops _ _ _ _ _ _ _
          obtain rfl := cc_of hlo hhi (b := 0) (by kernel_rfl) (by kernel_rfl)
          have hb := hb0 rfl
          refine Ops.call (srcNextP_c (cxZ A2 :: cxB A3 V A n c :: mat 28 2 A n c rs F) ix 8 (hB.later hb) hk2 hK2) rfl rfl rfl ?_
          rintro _ w9 ⟨r, k3, rfl, _, hK3, hS9⟩
          rw [List.set_set] at hS9
          refine Ops.n ?_
          exact AfterT.dn rfl ⟨r, k3, rfl, hK3, hS9⟩
        · intro e1 w1 cc hlo hhi hb0 hp hun hq
          show Ops _ _ _ _ _ _ _
          obtain rfl := cc_of hlo hhi (b := 1) (by kernel_rfl) (by kernel_rfl)
          have hph := hp 3 _ _ (by kernel_rfl) rfl rfl (by kernel_rfl)
          obtain ⟨r, k3, h22, hK3, hT⟩ := (hp 3 _ _ (by kernel_rfl) rfl rfl (by kernel_rfl))
          refine Ops.bs1I (St.refl _) (by exact h22) rfl rfl ?_
          intro A9 w9 hst
          refine Ops.n ?_
          exact AfterN.dn rfl hst.below ⟨A9, r, k3, rfl, hK3, hT.call hst⟩
        · intro e1 w1 cc hlo hhi hb0 hp hun hq
          show Ops _ _ _ _ _ _ _
          obtain rfl := cc_of hlo hhi (b := 1) (by kernel_rfl) (by kernel_rfl)
          have hph := hp 3 _ _ (by kernel_rfl) rfl rfl (by kernel_rfl)
          obtain ⟨A9, r, k3, h23, hK3, hT⟩ := (hp 4 _ _ (by kernel_rfl) rfl rfl (by kernel_rfl))
          refine Ops.bs1R (St.refl _) (by exact h23) rfl rfl ?_
          intro A10 w9 hst
          refine Ops.n ?_
          exact AfterN.dn rfl hst.below ⟨A9, r, k3, A10, rfl, hK3, hT.call hst⟩
        · intro e1 w1 cc hlo hhi hb0 hp hun hq
          show Ops _ _ _ _ _ _ _
          obtain rfl := cc_of hlo hhi (b := 1) (by kernel_rfl) (by kernel_rfl)
          have hph := hp 3 _ _ (by kernel_rfl) rfl rfl (by kernel_rfl)
          obtain ⟨A9, r, k3, A10, h24, hK3, hT⟩ := (hp 5 _ _ (by kernel_rfl) rfl rfl (by kernel_rfl))
          refine Ops.appR 4 hT rfl (hT.rdR 0 rfl) rfl (by exact h24) rfl (by omega) (by omega) rfl ?_
          intro A11 c11 w10 hT10
          refine Ops.n ?_
          exact AfterT.dn rfl ⟨A9, r, k3, A11, c11, rfl, hK3, St.matAdd2 hT10.tail (by omega)⟩
        · intro e1 w1 cc hlo hhi hb0 hp hun hq
          show Ops _ _ _ _ _ _ _
          obtain rfl := cc_of hlo hhi (b := 2) (by kernel_rfl) (by kernel_rfl)
          have hph := hp 6 _ _ (by kernel_rfl) rfl rfl (by kernel_rfl)
          obtain ⟨A9, r, k3, A11, c11, _, _, hT⟩ := (hp 6 _ _ (by kernel_rfl) rfl rfl (by kernel_rfl))
          refine Ops.fld (hT.rd 1 rfl) rfl rfl rfl rfl inferInstance (Ops.n (n0 rfl (by exact rfl)))
        · intro e1 w1 cc hlo hhi hb0 hp hun hq
          show Ops _ _ _ _ _ _ _
          obtain rfl := cc_of hlo hhi (b := 2) (by kernel_rfl) (by kernel_rfl)
          have hph := hp 6 _ _ (by kernel_rfl) rfl rfl (by kernel_rfl)
          obtain ⟨A9, r, k3, A11, c11, h25, hK3, hT⟩ := (hp 6 _ _ (by kernel_rfl) rfl rfl (by kernel_rfl))
          refine Ops.stf 1 hT rfl rfl (by exact h25) rfl rfl ?_
          intro w9 hS9
          refine Ops.n ?_
          exact AfterT.st rfl ⟨A9, r, k3, A11, c11, hK3, hS9⟩
        intro u w5 _ hu
        obtain ⟨A9, r, k3, A11, c11, hK3, hT⟩ := hu 8 _ rfl (by kernel_rfl)
        refine blockQ_n (tQ ?_)
        exact ⟨((V, n + 1), (A11, c11), rs ++ [⟨A9, 1, 1⟩], F ++ [[r]], k3), ⟨rfl, rfl, trivial⟩, by show -10 ≤ V ∧ V ≤ 200; omega, by show n + 1 ≤ 401; omega, by show (rs ++ [_]).length = n + 1; simp [hrl], by show (F ++ [_]).length = n + 1; simp [hn], hK3, hT⟩
      · refine Cd.seq (Cd.region (Ops.eql rfl rfl rfl (Ops.mb rfl rfl rfl (Ops.n (tQ ?_)))))
        refine Cd.cond_p _ rfl (fun h3 => ?_) (fun h3 => ?_)
        · refine Cd.seq (Cd.region (Ops.fld (hB.rd 1 rfl) rfl rfl rfl rfl inferInstance (Ops.ldf_s (hB.rd 1 rfl) rfl rfl rfl rfl rfl (Ops.len rfl rfl (Ops.gtr rfl rfl rfl (Ops.n (tQ ?_)))))))
          refine Cd.cond_p _ rfl (fun h4 => ?_) (fun h4 => ?_)
          · obtain ⟨s0, rs1, rfl⟩ : ∃ s0 rs1, rs = s0 :: rs1 := by cases rs with | nil => exact absurd hrl (by simp; omega) | cons a b => exact ⟨a, b, rfl⟩
            obtain ⟨x0, F1, rfl⟩ : ∃ x0 F1, F = x0 :: F1 := by cases F with | nil => exact absurd hn (by simp; omega) | cons a b => exact ⟨a, b, rfl⟩
            refine Cd.region (Ops.fld (hB.rd 1 rfl) rfl rfl rfl rfl inferInstance (Ops.ldf_s (hB.rd 1 rfl) rfl rfl rfl rfl rfl ?_))
            refine Ops.bsL [1, 0] hB rfl rfl (by decide) (by decide) rfl rfl ?_
            intro A9 w5 hS5
            refine Ops.idx (hS5.rdR 3 rfl).2 rfl rfl rfl (by omega) (by omega) (Ops.st_sl 3 hS5 rfl rfl rfl (by omega) ?_)
            intro w6 hS6
            have hS6 : St w0 w6 (CkI 2 A9 2 2 [1, 0] :: (cxZ A2 :: cxB A3 V A n c :: CkR 28 A n c (⟨A9, 2, 2⟩ :: rs1) :: CkI 2 s0.a s0.n s0.c x0 :: (rowsCk 2 rs1 F1 ++ ks.set ix k2))) := hS6
            have hS7 : St w0 w6 (cxZ A2 :: cxB A3 V A n c :: (mat 28 2 A n c (⟨A9, 2, 2⟩ :: rs1) ([1, 0] :: F1) ++ ks.set ix k2)) := by
              have h := hS6.sub (List.Sublist.cons_cons _ (List.Sublist.cons_cons _ (List.Sublist.cons_cons _ (List.Sublist.cons_cons _ (List.sublist_cons_self _ _)))))
              exact h.perm ((List.Perm.swap _ _ _).trans (List.Perm.cons _ ((List.Perm.swap _ _ _).trans (List.Perm.cons _ (List.Perm.swap _ _ _)))))
            refine Ops.n (blockQ_n (tQ ?_))
            exact ⟨((V, n), (A, c), ⟨A9, 2, 2⟩ :: rs1, [1, 0] :: F1, k2), ⟨rfl, rfl, trivial⟩, by show -10 ≤ V ∧ V ≤ 200; omega, by show n ≤ 401; omega, by simpa using hrl, by simpa using hn, hK2, hS7⟩
          · refine Cd.skip (blockQ_n (tQ ?_))
            exact ⟨((V, n), (A, c), rs, F, k2), ⟨rfl, rfl, trivial⟩, by show -10 ≤ V ∧ V ≤ 200; omega, by show n ≤ 401; omega, hrl, hn, hK2, hB⟩
        · refine Cd.skip (blockQ_n (tQ ?_))
          exact ⟨((V, n), (A, c), rs, F, k2), ⟨rfl, rfl, trivial⟩, by show -10 ≤ V ∧ V ≤ 200; omega, by show n ≤ 401; omega, hrl, hn, hK2, hB⟩
  rintro ⟨⟨V, n⟩, ⟨A, c⟩, rs, F, k2⟩ e w5 ⟨hV, hn, hrl, hFl, hK2, hS5⟩
  dsimp only at hV hn hrl hFl hK2 hS5 ⊢
  refine Cd.seq (Cd.region (Ops.ld_agg 1 (hS5.rd 1 rfl) rfl rfl rfl (Ops.st_agg 2 0 hS5 rfl rfl rfl rfl rfl rfl rfl ?_)))
  intro w6 hS6
  refine Ops.n (tQ (Cd.ret ?_))
  skip
  refine retc_r rfl (hS6.rd 0 rfl) ?_
  exact ⟨V, n, F, A, c, rs, k2, rfl, hV, hn, hrl, hFl, hK2, hS6.tail.tail⟩
/-
 Helpers of the laws: big, likeInts, same9.
-/
theorem big_c (Ac : Option Addr) (nc cc : Nat) (w : World) : Ret Tryz.prog 5 [.slice Ac nc cc] w (fun v w' => v = .bool (decide (4096 < (nc : Int))) ∧ St w w' []) := by
 refine Ret.of_cd Tryz.func5 rfl Tryz.ntmps5 rfl (post1 rfl) (Cd.seq (Cd.region (Ops.mb rfl rfl rfl (Ops.n (tQ (Cd.seq (Cd.region (Ops.ms rfl rfl rfl (Ops.len rfl rfl ?_)))))))))
 refine Ops.gtr rfl rfl rfl (Ops.mb rfl rfl rfl (Ops.n (tQ (Cd.ret (ret1_b rfl ?_)))))
 exact ⟨rfl, St.refl w⟩
theorem likeInts_c (A : Option Addr) (n c : Nat) (xs : List Int) (B : Option Addr) (m cB : Nat) (ys : List Int) (w : World) (hX : RdI w A n xs) (hY : RdI w B m ys) (hn : n ≤ 9223372036854775806) :
  Ret Tryz.prog 9 [.slice A n c, .slice B m cB] w (fun v w' => v = .bool (decide (xs = ys)) ∧ St w w' []) := by
 have hxl := hX.1
 have hyl := hY.1
 refine Ret.of_cd Tryz.func9 rfl Tryz.ntmps9 rfl (post1 rfl) (Cd.seq (Cd.region (Ops.mb rfl rfl rfl (Ops.n (tQ (Cd.seq (Cd.seq (Cd.region (Ops.ms rfl rfl rfl ?_)))))))))
 refine Ops.len rfl rfl (Ops.ms rfl rfl rfl (Ops.len rfl rfl (Ops.neq rfl rfl rfl (Ops.n (tQ ?_)))))
 refine Cd.cond_p _ rfl (fun h1 => ?_) (fun h1 => ?_)
 ·have hne : xs ≠ ys := fun e => h1 (by rw [← hxl, ← hyl, e])
  refine Cd.seq (Cd.region (Ops.mb rfl rfl rfl (Ops.n (tQ (Cd.ret (thenQ_r (ret1_b rfl ?_)))))))
  exact ⟨by rw [decide_eq_false hne], St.refl w⟩
 ·have hnm : n = m := by omega
  subst hnm
  refine Cd.skip (tQ (Cd.seq (Cd.seq (Cd.region (Ops.mi rfl rfl rfl (Ops.n (tQ (Cd.block ?_))))))))
  refine Cd.loop (α := Nat) (fun i => [(0, .slice A n c), (1, .slice B n cB), (5, .int .i64 (i : Int))]) (fun i w' => St w w' [] ∧ i ≤ n ∧ ∀ j, j < i → xs[j]? = ys[j]?) (fun i => n - i) 0 ⟨rfl, rfl, rfl, trivial⟩ ⟨St.refl w, Nat.zero_le _, fun j hj => absurd hj (Nat.not_lt_zero _)⟩ ?_
  rintro i e w1 ⟨hS1, hi, hj⟩
  have hX1 := hS1.oldI hX
  have hY1 := hS1.oldI hY
  refine Cd.seq (Cd.seq (Cd.region (Ops.mi rfl rfl rfl (Ops.ms rfl rfl rfl (Ops.len rfl rfl (Ops.lss rfl rfl rfl (Ops.n (tQ ?_))))))))
  refine Cd.cond_p _ rfl (fun h2 => ?_) (fun h2 => ?_)
  ·refine Cd.skip (tQ (Cd.seq (Cd.block (Cd.seq ?_))))
   refine Cd.draw [.ex (.slice (A) (n) (c)), .ex (.int .i64 ((i : Int))), .ex (.pointer (ptrAt (A) ((i : Int)).toNat)), .ex (.int .i64 (gi (xs) ((i : Int)))), .ex (.slice (B) (n) (cB)), .ex (.int .i64 ((i : Int))), .ex (.pointer (ptrAt (B) ((i : Int)).toNat)), .ex (.int .i64 (gi (ys) ((i : Int)))), .ex (.bool (decide (¬ (gi (xs) ((i : Int))) = (gi (ys) ((i : Int))))))] (by kernel_rfl) (by kernel_rfl) rfl (lx (lx (lx (lx (lx (lx (lx (lx (lx (fun _ h => by cases h)))))))))) ⟨?_, ?_, ?_, ?_, ?_, ?_, ?_, ?_, ?_, trivial⟩ ?_
   ·intro e1 w1 hb hp hun; refine Ops.ms rfl rfl rfl (Ops.n (d0 (by exact rfl)))
   ·intro e1 w1 hb hp hun; refine Ops.mi rfl rfl rfl (Ops.n (d0 (by exact rfl)))
   ·intro e1 w1 hb hp hun; refine Ops.idx (hX1.later hb).2 rfl rfl rfl (by omega) (by omega) (Ops.n (d0 (by exact rfl)))
   ·intro e1 w1 hb hp hun; refine Ops.ld_int (hX1.later hb) rfl (by omega) rfl rfl (Ops.n (d0 (by exact rfl)))
   ·intro e1 w1 hb hp hun; refine Ops.ms rfl rfl rfl (Ops.n (d0 (by exact rfl)))
   ·intro e1 w1 hb hp hun; refine Ops.mi rfl rfl rfl (Ops.n (d0 (by exact rfl)))
   ·intro e1 w1 hb hp hun; refine Ops.idx (hY1.later hb).2 rfl rfl rfl (by omega) (by omega) (Ops.n (d0 (by exact rfl)))
   ·intro e1 w1 hb hp hun; refine Ops.ld_int (hY1.later hb) rfl (by omega) rfl rfl (Ops.n (d0 (by exact rfl)))
   ·intro e1 w1 hb hp hun; refine Ops.neq rfl rfl rfl (Ops.n (d0 (by exact rfl)))
   intro u w2 hb2 _
   have hS2 := hS1.later hb2
   refine tQ ?_
   refine Cd.cond_p _ rfl (fun h3 => ?_) (fun h3 => ?_)
   ·have hne : xs ≠ ys := fun e => h3 (by rw [e])
    refine Cd.seq (Cd.region (Ops.mb rfl rfl rfl (Ops.n (tQ (Cd.ret (blockQ_r (thenQ_r (thenQ_r (blockQ_r ?_)))))))))
    refine thenQ_r (ret1_b rfl ?_)
    exact ⟨by rw [decide_eq_false hne], hS2⟩
   ·have h3 := Decidable.not_not.1 h3
    rw [gi_mem (by omega), gi_mem (by omega)] at h3
    refine Cd.skip (blockQ_n (tQ (Cd.region (Ops.mi rfl rfl rfl (Ops.add rfl rfl rfl (by omega) (Ops.mi rfl rfl rfl (Ops.n (tQ ?_))))))))
    refine ⟨i + 1, by show n - (i + 1) < n - i; omega, ⟨rfl, rfl, rfl, trivial⟩, hS2, by omega, fun j hj' => ?_⟩
    by_cases e : j = i
    ·subst e; rw [List.getElem?_eq_getElem (by omega), List.getElem?_eq_getElem (by omega), h3]
    ·exact hj j (by omega)
  ·have he : xs = ys := List.ext_getElem? fun j => by
    by_cases hjn : j < n
    ·exact hj j (by omega)
    ·rw [List.getElem?_eq_none (by omega), List.getElem?_eq_none (by omega)]
   refine Cd.exit (thenQ_x (thenQ_x (blockQ_x (tQ (Cd.seq (Cd.region (Ops.mb rfl rfl rfl (Ops.n (tQ ?_)))))))))
   refine Cd.ret (ret1_b rfl ?_)
   exact ⟨by rw [decide_eq_true he], hS1⟩
theorem same9_c (A : Option Addr) (n c : Nat) (rs : List SlV) (xss : List (List Int)) (B : Option Addr) (m cB : Nat) (rs' : List SlV) (yss : List (List Int)) (w : World) (hX : RowsI w A n rs xss) (hY : RowsI w B m rs' yss) (hn : n ≤ 9223372036854775806) (hr : ∀ x ∈ xss, x.length ≤ 9223372036854775806) :
  Ret Tryz.prog 43 [.slice A n c, .slice B m cB] w (fun v w' => v = .bool (decide (xss = yss)) ∧ St w w' []) := by
 have hxl := hX.len
 have hyl := hY.len
 refine Ret.of_cd Tryz.func43 rfl Tryz.ntmps43 rfl (post1 rfl) (Cd.seq (Cd.region (Ops.mb rfl rfl rfl (Ops.n (tQ (Cd.seq (Cd.seq (Cd.region (Ops.ms rfl rfl rfl ?_)))))))))
 refine Ops.len rfl rfl (Ops.ms rfl rfl rfl (Ops.len rfl rfl (Ops.neq rfl rfl rfl (Ops.n (tQ ?_)))))
 refine Cd.cond_p _ rfl (fun h1 => ?_) (fun h1 => ?_)
 ·have hne : xss ≠ yss := fun e => h1 (by rw [← hxl, ← hyl, e])
  refine Cd.seq (Cd.region (Ops.mb rfl rfl rfl (Ops.n (tQ (Cd.ret (thenQ_r (ret1_b rfl ?_)))))))
  exact ⟨by rw [decide_eq_false hne], St.refl w⟩
 ·have hnm : n = m := by omega
  subst hnm
  refine Cd.skip (tQ (Cd.seq (Cd.seq (Cd.region (Ops.mi rfl rfl rfl (Ops.n (tQ (Cd.block ?_))))))))
  refine Cd.loop (α := Nat) (fun i => [(0, .slice A n c), (1, .slice B n cB), (5, .int .i64 (i : Int))]) (fun i w' => St w w' [] ∧ i ≤ n ∧ ∀ j, j < i → xss[j]? = yss[j]?) (fun i => n - i) 0 ⟨rfl, rfl, rfl, trivial⟩ ⟨St.refl w, Nat.zero_le _, fun j hj => absurd hj (Nat.not_lt_zero _)⟩ ?_
  rintro i e w1 ⟨hS1, hi, hj⟩
  have hX1 := hS1.oldRows hX
  have hY1 := hS1.oldRows hY
  refine Cd.seq (Cd.seq (Cd.region (Ops.mi rfl rfl rfl (Ops.ms rfl rfl rfl (Ops.len rfl rfl (Ops.lss rfl rfl rfl (Ops.n (tQ ?_))))))))
  refine Cd.cond_p _ rfl (fun h2 => ?_) (fun h2 => ?_)
  ·have hxi := hX1.at_ (i := (i : Int)) (by omega) (by omega)
   have hyi := hY1.at_ (i := (i : Int)) (by omega) (by omega)
   have hri : (rg rs (i : Int)).n ≤ 9223372036854775806 := by
    rw [← hxi.1, gl_mem (by omega)]; exact hr _ (List.getElem_mem _)
   refine Cd.skip (tQ (Cd.seq (Cd.block (Cd.seq ?_))))
   refine Cd.draw [.ex (.slice (A) (n) (c)), .ex (.int .i64 ((i : Int))), .ex (.pointer (ptrAt (A) ((i : Int)).toNat)), .ex (.slice ((rg (rs) ((i : Int))).a) ((rg (rs) ((i : Int))).n) ((rg (rs) ((i : Int))).c)), .ex (.slice (B) (n) (cB)), .ex (.int .i64 ((i : Int))), .ex (.pointer (ptrAt (B) ((i : Int)).toNat)), .ex (.slice ((rg (rs') ((i : Int))).a) ((rg (rs') ((i : Int))).n) ((rg (rs') ((i : Int))).c)), .ex (.bool (decide (gl xss (i : Int) = gl yss (i : Int)))), .ex (.bool (decide (¬ (gl xss (i : Int) = gl yss (i : Int)))))] (by kernel_rfl) (by kernel_rfl) rfl (lx (lx (lx (lx (lx (lx (lx (lx (lx (lx (fun _ h => by cases h))))))))))) ⟨?_, ?_, ?_, ?_, ?_, ?_, ?_, ?_, ?_, ?_, trivial⟩ ?_
   ·intro e1 w1 hb hp hun; refine Ops.ms rfl rfl rfl (Ops.n (d0 (by exact rfl)))
   ·intro e1 w1 hb hp hun; refine Ops.mi rfl rfl rfl (Ops.n (d0 (by exact rfl)))
   ·intro e1 w1 hb hp hun; refine Ops.idx (hX1.top.later hb).2 rfl rfl rfl (by omega) (by omega) (Ops.n (d0 (by exact rfl)))
   ·intro e1 w1 hb hp hun; refine Ops.ld_sl (hX1.top.later hb) rfl (by omega) rfl rfl (Ops.n (d0 (by exact rfl)))
   ·intro e1 w1 hb hp hun; refine Ops.ms rfl rfl rfl (Ops.n (d0 (by exact rfl)))
   ·intro e1 w1 hb hp hun; refine Ops.mi rfl rfl rfl (Ops.n (d0 (by exact rfl)))
   ·intro e1 w1 hb hp hun; refine Ops.idx (hY1.top.later hb).2 rfl rfl rfl (by omega) (by omega) (Ops.n (d0 (by exact rfl)))
   ·intro e1 w1 hb hp hun; refine Ops.ld_sl (hY1.top.later hb) rfl (by omega) rfl rfl (Ops.n (d0 (by exact rfl)))
   ·intro e1 w1 hb hp hun; refine Ops.call (likeInts_c _ _ _ _ _ _ _ _ _ (hxi.later hb) (hyi.later hb) hri) rfl rfl rfl ?_
    rintro _ w2 ⟨rfl, hst⟩
    refine Ops.n ?_
    exact After.dn hst.below (by exact rfl)
   ·intro e1 w1 hb hp hun; refine Ops.not_p rfl rfl (Ops.n (d0 (by exact rfl)))
   intro u w2 hb2 _
   have hS2 := hS1.later hb2
   refine tQ ?_
   refine Cd.cond_p _ rfl (fun h3 => ?_) (fun h3 => ?_)
   ·have hne : xss ≠ yss := fun e => h3 (by rw [e])
    refine Cd.seq (Cd.region (Ops.mb rfl rfl rfl (Ops.n (tQ (Cd.ret (blockQ_r (thenQ_r (thenQ_r (blockQ_r ?_)))))))))
    refine thenQ_r (ret1_b rfl ?_)
    exact ⟨by rw [decide_eq_false hne], hS2⟩
   ·have h3 := Decidable.not_not.1 h3
    rw [gl_mem (by omega), gl_mem (by omega)] at h3
    refine Cd.skip (blockQ_n (tQ (Cd.region (Ops.mi rfl rfl rfl (Ops.add rfl rfl rfl (by omega) (Ops.mi rfl rfl rfl (Ops.n (tQ ?_))))))))
    refine ⟨i + 1, by show n - (i + 1) < n - i; omega, ⟨rfl, rfl, rfl, trivial⟩, hS2, by omega, fun j hj' => ?_⟩
    by_cases e : j = i
    ·subst e; rw [List.getElem?_eq_getElem (by omega), List.getElem?_eq_getElem (by omega), h3]
    ·exact hj j (by omega)
  ·have he : xss = yss := List.ext_getElem? fun j => by
    by_cases hjn : j < n
    ·exact hj j (by omega)
    ·rw [List.getElem?_eq_none (by omega), List.getElem?_eq_none (by omega)]
   refine Cd.exit (thenQ_x (thenQ_x (blockQ_x (tQ (Cd.seq (Cd.region (Ops.mb rfl rfl rfl (Ops.n (tQ ?_)))))))))
   refine Cd.ret (ret1_b rfl ?_)
   exact ⟨by rw [decide_eq_true he], hS1⟩
end Go.Proofs.YtiblelgfkakmiaaGreatDoor.Vc
/-
 A statement's frame: the arguments opened, and what a walk gives told in the statement's own words.
-/
namespace Go.Proofs.YtiblelgfkakmiaaGreatDoor.Vc
open Go.RowKit Go.ChangeShapes Go.WideShapes
theorem laid : laidOutB Tryz.prog = true := by kernel_rfl
theorem own : ownKnob Tryz.prog.godebug = none := by kernel_rfl
section
variable {H : Type} {enc : TypeId × Value → H} {P : Program}
theorem trodAll_stays (hl : laidOutB P = true) {W W' : World} (hb : Below W.heap.size W W') {sp : Nat → Bool} : ∀ {ts : List TypeId} {vs : List Value} {ds : List (DataW H)} {ps : List MemPlace}, (ts.all fun t => P.readableRec t && Nat.blt t P.types.size) = true → (∀ p ∈ ps, p.block < W.heap.size) → (∀ p ∈ ps, sp p.block = true) →
  DataW.TrodAll enc P W 0 (fun _ => true) true ts vs ds ps → DataW.TrodAll enc P W' 0 sp true ts vs ds ps
 | [], [], [], _, _, _, _, h => h
 | t :: ts, v :: vs, d :: ds, ps, hr, hlt, hsp, h => by
  obtain ⟨p, q, h1, h2, rfl⟩ := h
  simp only [List.all_cons, Bool.and_eq_true] at hr
  exact ⟨p, q, WideElems.Trod_stays hl hr.1.1 (by simpa [Nat.blt_eq] using hr.1.2) h1 (fun x hx => hb.same (hlt x (by simp [hx]))) (fun x hx => hsp x (by simp [hx])), trodAll_stays hl hb hr.2 (fun x hx => hlt x (by simp [hx])) (fun x hx => hsp x (by simp [hx])) h2, rfl⟩
 | [], [], _ :: _, _, _, _, _, h => h.elim
 | [], _ :: _, _, _, _, _, _, h => by cases h
 | _ :: _, [], _, _, _, _, _, h => by cases h
 | _ :: _, _ :: _, [], _, _, _, _, h => by cases h
theorem post_law {f : Func} {s : ChangeSpec} {apart : Bool} {W W' : World} {args : Array Value} {ds gs : List (DataW H)} {before : List MemPlace} (hl : laidOutB P = true) {b : TypeId} (hu : P.underlying b = some .bool) (hres : f.resultTypes = #[b]) (hv : s.vars = [])
    (hr : (f.params.toList.all fun t => P.readableRec t && Nat.blt t P.types.size) = true) (hfn : (s.fn H (ds ++ gs)).results = [.lit (.bool true)] ∧ (s.fn H (ds ++ gs)).args = ds ∧ (s.fn H (ds ++ gs)).vars = [])
    (hW : DataW.Whole enc P f.params.toList s.vars apart W args.toList ds gs before) (hb : Below W.heap.size W W') : s.post enc P f apart true false false W args (.bool true) W' := by
  have hlt : ∀ x ∈ before, x.block < W.heap.size := fun x hx => hW.lt x hx
  have hW0 := hW
  obtain ⟨p, q, hA, hV, rfl, hz, hn⟩ := hW
  rw [hv] at hV
  obtain ⟨rfl, rfl⟩ := trodVars_none hV
  have hlp : ∀ x ∈ p, x.block < W.heap.size := fun x hx => hlt x (by simp [hx])
  have hA' : ∀ sp : Nat → Bool, (∀ x ∈ p, sp x.block = true) → DataW.TrodAll enc P W' 0 sp true f.params.toList args.toList (s.fn H (ds ++ [])).args p := fun sp hsp => by
    rw [hfn.2.1]
    exact trodAll_stays hl hb hr hlp hsp hA
  have hR' : ∀ (b0 : Nat) (sp : Nat → Bool) (hd : Bool), DataW.TrodAll enc P W' b0 sp hd f.resultTypes.toList ((Value.bool true).resultList f.resultTypes.size) (s.fn H (ds ++ [])).results [] := fun b0 sp hd => by
    rw [hfn.1, hres]
    exact trodAll_cons_mk (shut_bool hu _) trodAll_mk0
  have hV' : ∀ sp : Nat → Bool, DataW.TrodVars enc P W' sp s.vars (s.fn H (ds ++ [])).vars [] := fun sp => by
    rw [hfn.2.2, hv]; rfl
  refine ⟨ds, [], p ++ [], [], p, [], hW0, hR' _ _ _, hA' _ (fun x hx => by simpa using hlp x hx), hV' _, World.keptBut_mono (fun x hx => ⟨hx, by simpa using hx⟩) (hb.frame (· ∈ p ++ [])), fun _ => ⟨fun j t r h1 h2 => ?_, _, _, ([] ++ p) ++ [], ⟨[] ++ p, [], trodAll_append (hA' _ fun _ _ => rfl) (hR' _ _ _), hV' _, rfl, fun c off hc => ?_, fun ha => by simpa using hn ha⟩, fun x hx _ => by simpa using hx⟩⟩
  · rw [hres] at h1 h2
    cases j with
    | zero =>
      simp at h1
      subst h1
      simp [Value.resultList] at h2
      subst h2
      exact okWide_bool_mk hu _
    | succ j => simp at h1
  · have hin : MemPlace.cell c off ∈ p ++ [] := by simpa using hc
    rw [hb.frozen (hlt _ hin)]
    exact hz c off hin
end
/-
 Arguments opened: a struct of one matrix, a list of integers.
-/
section
variable {H : Type} {enc : TypeId × Value → H} {P : Program}
end
/-
 An argument that is a list of bytes, opened. Conditions: as stated.
-/
section
variable {H : Type} {enc : TypeId × Value → H} {P : Program}
theorem open_ybs {w : World} {r : Go.Reach} {b0 : Nat} {t e : TypeId} {v : Value} {d : DataW H} {p : List MemPlace} (ht : P.underlying t = some (.slice e)) (he : P.underlying e = some (.int .u8)) (ce : P.cellsOf e = 1)
    (hval : Value.okWide P w r b0 t v) (h : DataW.Trod enc P w 0 (fun _ => true) true t v d p) : ∃ A n c bs, v = .slice A n c ∧ RdY w A n bs ∧ n ≤ c ∧ c ≤ 9223372036854775807 := by
  obtain ⟨a, len, cap, rfl⟩ := okWide_slice ht hval
  obtain ⟨fuel, hf⟩ := h
  have hcs : (Value.slice a len cap).cells.toList = [Value.slice a len cap] := rfl
  rw [hcs] at hf
  rcases open_ints ht he ce hf with ⟨h1, _⟩ | ⟨b, n, c, zs, h1, _, hl, hm, hz, _, hc, hwz⟩
  · simp only [List.cons.injEq, and_true] at h1
    exact ⟨none, 0, 0, [], h1, ⟨rfl, fun x hx => (nomatch hx), fun k hk => absurd hk (Nat.not_lt_zero _)⟩, Nat.le_refl _, by omega⟩
  · simp only [List.cons.injEq, and_true] at h1
    rw [if_pos rfl] at hz
    refine ⟨some b, n, c, zs.take n, h1, ⟨?_, fun x hx => ?_, fun k hk => ?_⟩, hl, by simpa [maxLen] using hm⟩
    · simp; omega
    · have := hwz x (List.mem_of_mem_take hx)
      simpa [Lit.wf, IntKind.min, IntKind.max, IntKind.signed, IntKind.bits] using this
    · refine ⟨b.add k, rfl, ?_⟩
      rw [hc k (by omega)]
      simp [List.getD_eq_getElem?_getD, List.getElem?_take, hk]
end
end Go.Proofs.YtiblelgfkakmiaaGreatDoor.Vc
/-
 Lists drawn; helpers of the laws of complexes, walked.
-/
namespace Go.Proofs.YtiblelgfkakmiaaGreatDoor.Vc
open Go.RowKit
theorem DrawIsComplex_c (Ac : Option Addr) (nc cc : Nat) (bs : List Int) (w : World) (hY : RdY w Ac nc bs) (hnc : nc ≤ 1000000) :
  Ret Tryz.prog 27 [.slice Ac nc cc] w (fun v w' => ∃ (V : Int) (n : Nat) (F : List (List Int)) (A : Option Addr) (c : Nat) (rs : List SlV), v = .agg #[.int .i64 V, .slice A n c] ∧ (-10 ≤ V ∧ V ≤ 200) ∧ n ≤ 401 ∧ rs.length = n ∧ F.length = n ∧ St w w' (mat 28 2 A n c rs F ++ [])) := by
 refine Ret.of_cd Tryz.func27 rfl Tryz.ntmps27 rfl (postc rfl rfl) (Cd.seq (Cd.region (Ops.new2 (St.refl w) rfl ?_)))
 intro A2 w1 hS1
 have hS1 : St w w1 [cxZ A2] := hS1
 refine Ops.n (tQ (Cd.seq (Cd.region (Ops.ms rfl rfl rfl (Ops.call (l01From_c Ac nc cc bs w1 (hY.below hS1.below) hnc) rfl rfl rfl ?_)))))
 rintro _ w2 ⟨As, k0, rfl, hK0, hS2⟩
 refine Ops.call (l17DrawAny_c 0 hS2 rfl hK0) rfl rfl rfl ?_
 rintro _ w3 ⟨V, n, F, A, c, rs, k1, rfl, hV, hn, hrl, hFl, hK1, hS3⟩
 have hS4 := hS1.call2 hS3
 refine Ops.st_agg 2 0 hS4 rfl rfl rfl rfl rfl rfl rfl ?_
 intro w4 hS5
 refine Ops.n (tQ (Cd.ret ?_))
 skip
 refine retc_r rfl (hS5.rd 0 rfl) ?_
 exact ⟨V, n, F, A, c, rs, rfl, hV, hn, hrl, hFl, hS5.tail.sub ((List.Sublist.refl _).append (List.nil_sublist _))⟩
theorem likeComplex9_c (V : Int) (A : Option Addr) (n c : Nat) (rs : List SlV) (F : List (List Int)) (W : Int) (B : Option Addr) (m d : Nat) (ts : List SlV) (G : List (List Int)) (w : World) (hR : RowsI w A n rs F) (hQ : RowsI w B m ts G) (hn : n ≤ 1000000) (hr : ∀ f ∈ F, f.length ≤ 1000000) :
  Ret Tryz.prog 13 [.agg #[.int .i64 V, .slice A n c], .agg #[.int .i64 W, .slice B m d]] w (fun v w' => v = .bool (decide (V = W ∧ F = G)) ∧ St w w' []) := by
 refine Ret.of_cd Tryz.func13 rfl Tryz.ntmps13 rfl (post1 rfl) (Cd.seq (Cd.region (Ops.box2 (St.refl w) rfl rfl ?_)))
 intro A2 w1 hS1
 refine Ops.box2 hS1 rfl rfl ?_
 intro A3 w2 hS2
 refine Ops.mb rfl rfl rfl (Ops.n (tQ (Cd.seq (Cd.region (Ops.fld (hS2.rd 1 rfl) rfl rfl rfl rfl inferInstance (Ops.ldf_i (hS2.rd 1 rfl) rfl rfl rfl rfl rfl (Ops.fld (hS2.rd 0 rfl) rfl rfl rfl rfl inferInstance (Ops.ldf_i (hS2.rd 0 rfl) rfl rfl rfl rfl rfl (Ops.eql rfl rfl rfl ?_)))))))))
 refine Ops.mb rfl rfl rfl ?_
 refine Ops.split_p 10 rfl (fun h1 => ?_) (fun h1 => ?_)
 ·refine Ops.g rfl rfl rfl (Ops.fld (hS2.rd 1 rfl) rfl rfl rfl rfl inferInstance (Ops.g rfl rfl rfl (Ops.ldf_s (hS2.rd 1 rfl) rfl rfl rfl rfl rfl (Ops.g rfl rfl rfl (Ops.fld (hS2.rd 0 rfl) rfl rfl rfl rfl inferInstance (Ops.g rfl rfl rfl (Ops.ldf_s (hS2.rd 0 rfl) rfl rfl rfl rfl rfl (Ops.g rfl rfl rfl ?_))))))))
  refine Ops.call (same9_c _ _ _ _ _ _ _ _ _ _ _ (hS2.oldRows hR) (hS2.oldRows hQ) (by omega) (fun x hx => by have := hr x hx; omega)) rfl rfl rfl ?_
  rintro _ w3 ⟨rfl, hst⟩
  refine Ops.pick_t rfl rfl rfl (Ops.mb rfl rfl rfl (Ops.n (tQ (Cd.ret (ret1_b rfl ?_)))))
  exact ⟨congrArg Value.bool (decide_eq_decide.2 ⟨fun h => ⟨h1, h⟩, fun h => h.2⟩), (hS2.later hst.below).none⟩
 ·refine Ops.k rfl rfl rfl rfl rfl (Ops.k rfl rfl rfl rfl rfl (Ops.k rfl rfl rfl rfl rfl (Ops.k rfl rfl rfl rfl rfl (Ops.k rfl rfl rfl rfl rfl (Ops.pick_f rfl rfl rfl (Ops.mb rfl rfl rfl (Ops.n (tQ (Cd.ret ?_)))))))))
  refine ret1_b rfl ?_
  exact ⟨by rw [decide_eq_false (fun h => h1 h.1)], hS2.none⟩
/-
 The library's CompactFunc on rows of lists by their equality, walked. Conditions: that the lists can be read while the row is turned about.
-/
def kepC (xs : Nat → List Int) (n : Nat) : List Nat := (List.range n).filter fun j => decide (j = 0 ∨ xs j ≠ xs (j - 1))
theorem kepC_succ (xs : Nat → List Int) (n : Nat) : kepC xs (n + 1) = kepC xs n ++ (if n = 0 ∨ xs n ≠ xs (n - 1) then [n] else []) := by
 unfold kepC
 rw [List.range_succ, List.filter_append]
 congr 1
 by_cases h : n = 0 ∨ xs n ≠ xs (n - 1) <;> simp [h]
theorem kepC_all {xs : Nat → List Int} {n : Nat} (h : ∀ j, j < n → j = 0 ∨ xs j ≠ xs (j - 1)) : kepC xs n = List.range n := by
 unfold kepC
 rw [List.filter_eq_self]
 intro j hj
 exact decide_eq_true (h j (List.mem_range.1 hj))
theorem kepC_len (xs : Nat → List Int) (n : Nat) : (kepC xs n).length ≤ n := by
 have := List.length_filter_le (fun j => decide (j = 0 ∨ xs j ≠ xs (j - 1))) (List.range n)
 unfold kepC
 simpa using this
theorem compactF_c {w0 w : World} {ks : List Ck} (i : Nat) {t : TypeId} {A : Option Addr} {n c : Nat} {ss : List SlV} (hS : St w0 w ks) (hk : ks[i]? = some (CkR t A n c ss)) (hn : n ≤ 4000000000000) (xs : Nat → List Int) (hcap : ∀ a, a < n → (sv ss a).n ≤ 9223372036854775807)
    (hrow : ∀ (w' : World) (q : List Nat), q.length = n → (∀ j ∈ q, j < n) → St w0 w' (ks.set i (CkR t A n c (q.map (sv ss)))) → ∀ a, a < n → RdI w' (sv ss a).a (sv ss a).n (xs a)) :
    Ret Tryz.prog 108 [.slice A n c, .func (.func 109) #[] #[]] w (fun v w' => v = .slice A (kepC xs n).length c ∧ St w0 w' (ks.set i (CkR t A (kepC xs n).length c ((kepC xs n).map (sv ss))))) := by
  have hil : i < ks.length := (List.getElem?_eq_some_iff.1 hk).1
  obtain ⟨h1, h2, h3, -⟩ := hS.getC hk (isM_R _)
  have hsl : ss.length = n := by have : (ss.map SlV.v).length = n := h1; simpa using this
  have h2 : n ≤ c := h2
  have h3 : c ≤ maxLen := h3
  have hrng : (List.range n).map (sv ss) = ss := by
    apply List.ext_getElem
    · simp [hsl]
    · intro j h1 h2
      simp [sv, List.getD_eq_getElem?_getD, h2]
  have hid : ks.set i (CkR t A n c ((List.range n).map (sv ss))) = ks := by rw [hrng, set_id hk]
  have hSi : ∀ {w' : World}, St w0 w' ks → St w0 w' (ks.set i (CkR t A n c ((List.range n).map (sv ss)))) := fun h => by rw [hid]; exact h
  have get : ∀ l, (ks.set i l)[i]? = some l := fun l => by simp [hil]
  have hrg0 : ∀ j : Nat, rg ss (j : Int) = sv ss j := fun j => rfl
  have hrd : ∀ {w' : World}, St w0 w' ks → ∀ a, a < n → RdI w' (sv ss a).a (sv ss a).n (xs a) := fun h => hrow _ (List.range n) (by simp) (fun j hj => List.mem_range.1 hj) (hSi h)
  refine Ret.of_cd Tryz.func108 rfl Tryz.ntmps108 rfl (post1 rfl) (Cd.seq (Cd.region (Ops.ms rfl rfl rfl (Ops.n (tQ (Cd.seq (Cd.seq (Cd.region (Ops.ms rfl rfl rfl ?_)))))))))
  refine Ops.len rfl rfl (Ops.lss rfl rfl rfl (Ops.n (tQ ?_)))
  refine Cd.cond_p _ rfl (fun h4 => ?_) (fun h4 => ?_)
  · have hall : kepC xs n = List.range n := kepC_all fun j hj => .inl (by omega)
    refine Cd.seq (Cd.region (Ops.ms rfl rfl rfl (Ops.ms rfl rfl rfl (Ops.n (tQ (Cd.ret (thenQ_r (ret1_s rfl ?_))))))))
    rw [hall, List.length_range, hid]
    exact ⟨rfl, hS⟩
  · refine Cd.skip (tQ (Cd.seq (Cd.seq (Cd.region (Ops.mi rfl rfl rfl (Ops.n (tQ (Cd.block ?_))))))))
    refine Cd.loop (α := Nat) (fun k => [(0, .slice A n c), (1, .func (.func 109) #[] #[]), (5, .int .i64 (k : Int))]) (fun k w' => 1 ≤ k ∧ k ≤ n ∧ (∀ j, j < k → j = 0 ∨ xs j ≠ xs (j - 1)) ∧ St w0 w' ks) (fun k => n - k) 1 ⟨rfl, rfl, rfl, trivial⟩ ⟨Nat.le_refl _, by omega, fun j hj => .inl (by omega), hS⟩ ?_
    rintro k e w1 ⟨hk1, hkn, hne, hS1⟩
    refine Cd.seq (Cd.seq (Cd.region (Ops.mi rfl rfl rfl (Ops.ms rfl rfl rfl (Ops.len rfl rfl (Ops.lss rfl rfl rfl (Ops.n (tQ ?_))))))))
    refine Cd.cond_p _ rfl (fun h5 => ?_) (fun h5 => ?_)
    · have hR1 := hS1.rdR i hk
      have hra : RdI w1 (rg ss (k : Int)).a (rg ss (k : Int)).n (xs k) := hrd hS1 k (by omega)
      have hrb : RdI w1 (rg ss ((k : Int) - 1)).a (rg ss ((k : Int) - 1)).n (xs (k - 1)) := by
        rw [show (k : Int) - 1 = ((k - 1 : Nat) : Int) by omega]
        exact hrd hS1 (k - 1) (by omega)
      have hca : (rg ss (k : Int)).n ≤ 9223372036854775807 := hcap k (by omega)
      refine Cd.skip (tQ (Cd.seq (Cd.block (Cd.seq ?_))))
      by_cases h6 : xs k = xs (k - 1)
      · --dup 2
        refine Cd.draw [.ex (.func (.func 109) #[] #[]), .ex (.slice (A) (n) (c)), .ex (.int .i64 ((k : Int))), .ex (.pointer (ptrAt (A) ((k : Int)).toNat)), .ex (.slice ((rg (ss) ((k : Int))).a) ((rg (ss) ((k : Int))).n) ((rg (ss) ((k : Int))).c)), .ex (.slice (A) (n) (c)), .ex (.int .i64 ((k : Int))), .ex (.int .i64 (((k : Int)) - ((1 : Int)))), .ex (.pointer (ptrAt (A) (((k : Int)) - ((1 : Int))).toNat)), .ex (.slice ((rg (ss) (((k : Int)) - ((1 : Int)))).a) ((rg (ss) (((k : Int)) - ((1 : Int)))).n) ((rg (ss) (((k : Int)) - ((1 : Int)))).c)), .ex (.bool (true))] (by kernel_rfl) (by kernel_rfl) rfl (lx (lx (lx (lx (lx (lx (lx (lx (lx (lx (lx (fun _ h => by cases h)))))))))))) ⟨?_, ?_, ?_, ?_, ?_, ?_, ?_, ?_, ?_, ?_, ?_, trivial⟩ ?_
        · intro e1 w1 hb hp hun
          refine Ops.mv_fn rfl rfl rfl (Ops.n (d0 (by exact rfl)))
        · intro e1 w1 hb hp hun
          refine Ops.ms rfl rfl rfl (Ops.n (d0 (by exact rfl)))
        · intro e1 w1 hb hp hun
          refine Ops.mi rfl rfl rfl (Ops.n (d0 (by exact rfl)))
        · intro e1 w1 hb hp hun
          refine Ops.idx (hR1.later hb).2 rfl rfl rfl (by omega) (by omega) (Ops.n (d0 (by exact rfl)))
        · intro e1 w1 hb hp hun
          refine Ops.ld_sl (hR1.later hb) rfl (by omega) rfl rfl (Ops.n (d0 (by exact rfl)))
        · intro e1 w1 hb hp hun
          refine Ops.ms rfl rfl rfl (Ops.n (d0 (by exact rfl)))
        · intro e1 w1 hb hp hun
          refine Ops.mi rfl rfl rfl (Ops.n (d0 (by exact rfl)))
        · intro e1 w1 hb hp hun
          refine Ops.sub rfl rfl rfl (by omega) (Ops.n (d0 (by exact rfl)))
        · intro e1 w1 hb hp hun
          refine Ops.idx (hR1.later hb).2 rfl rfl rfl (by omega) (by omega) (Ops.n (d0 (by exact rfl)))
        · intro e1 w1 hb hp hun
          refine Ops.ld_sl (hR1.later hb) rfl (by omega) rfl rfl (Ops.n (d0 (by exact rfl)))
        · intro e1 w1 hb hp hun
          refine Ops.call (Equal_c _ _ _ (xs k) _ _ _ (xs (k - 1)) _ (hra.later hb) (hrb.later hb) hca) rfl rfl rfl ?_
          rintro _ w2 ⟨rfl, hst⟩
          refine Ops.n ?_
          exact After.dn hst.below (by exact congrArg Value.bool (decide_eq_true h6))
        intro u w2 hb _
        have hS2 := hS1.later hb
        have hk0 : kepC xs k = List.range k := kepC_all hne
        refine tQ (Cd.cond_t rfl (Cd.seq (Cd.region (Ops.ms rfl rfl rfl (Ops.mi rfl rfl rfl (Ops.cut_l (A := A) (n := n) (c := c) (l := (k : Int)) rfl rfl rfl (by omega) ?_))))))
        rw [Int.toNat_natCast]
        refine Ops.ms rfl rfl rfl (Ops.n (tQ (Cd.seq (Cd.seq (Cd.region (Ops.mi rfl rfl rfl (Ops.n (tQ (Cd.block ?_)))))))))
        refine Cd.loop (α := Nat × Nat × List Nat) (fun z => [(0, .slice A n c), (1, .func (.func 109) #[] #[]), (5, .int .i64 (z.1 : Int)), (6, .slice (cutAt A c k) (n - k) (c - k)), (7, .int .i64 (z.2.1 : Int))])
          (fun z w' => 1 ≤ z.2.1 ∧ z.2.1 ≤ n - k ∧ z.1 < k + z.2.1 ∧ z.2.2.length = n ∧ (∀ j ∈ z.2.2, j < n) ∧ z.1 = (kepC xs (k + z.2.1)).length ∧ z.2.2.take z.1 = kepC xs (k + z.2.1) ∧ (∀ m, z.1 ≤ m → m < n → z.2.2[m]? = some m) ∧ St w0 w' (ks.set i (CkR t A n c (z.2.2.map (sv ss))))) (fun z => n - k - z.2.1) (k, 1, List.range n) ⟨rfl, rfl, rfl, rfl, rfl, trivial⟩
          ⟨Nat.le_refl _, by show 1 ≤ n - k; omega, by show k < k + 1; omega, by simp, fun j hj => List.mem_range.1 hj, by
            show k = (kepC xs (k + 1)).length
            rw [kepC_succ, if_neg (fun h => h.elim (fun h => by omega) (fun h => h h6)), List.append_nil, hk0, List.length_range], by
            show (List.range n).take k = kepC xs (k + 1)
            rw [kepC_succ, if_neg (fun h => h.elim (fun h => by omega) (fun h => h h6)), List.append_nil, hk0, List.take_range, Nat.min_eq_left (by omega)], fun m hm hm' => by simp [hm'], hSi hS2⟩ ?_
        rintro ⟨a, b, q⟩ e w3 ⟨hb1, hbn, hab, hql, hqm, hal, hqt, hqr, hS3⟩
        dsimp only at hb1 hbn hab hql hqm hal hqt hqr hS3 ⊢
        refine Cd.seq (Cd.seq (Cd.region (Ops.mi rfl rfl rfl (Ops.ms rfl rfl rfl (Ops.len rfl rfl (Ops.lss rfl rfl rfl (Ops.n (tQ ?_))))))))
        refine Cd.cond_p _ rfl (fun h7 => ?_) (fun h7 => ?_)
        · have hR3 := hS3.rdR i (get _)
          have hcut := hR3.drop (l := k) (by omega) h2
          have hg : ∀ m : Nat, a ≤ k + m → k + m < n → rg ((q.map (sv ss)).drop k) (m : Int) = sv ss (k + m) := fun m h8 h9 => by
            have := hqr (k + m) h8 h9
            simp [rg, List.getD_eq_getElem?_getD, this]
          have hra : RdI w3 (rg ((q.map (sv ss)).drop k) (b : Int)).a (rg ((q.map (sv ss)).drop k) (b : Int)).n (xs (k + b)) := by rw [hg b (by omega) (by omega)]; exact hrow _ q hql hqm hS3 _ (by omega)
          have hrb : RdI w3 (rg ((q.map (sv ss)).drop k) ((b : Int) - 1)).a (rg ((q.map (sv ss)).drop k) ((b : Int) - 1)).n (xs (k + b - 1)) := by
            rw [show (b : Int) - 1 = ((b - 1 : Nat) : Int) by omega, hg (b - 1) (by omega) (by omega), show k + (b - 1) = k + b - 1 by omega]
            exact hrow _ q hql hqm hS3 _ (by omega)
          have hca : (rg ((q.map (sv ss)).drop k) (b : Int)).n ≤ 9223372036854775807 := by rw [hg b (by omega) (by omega)]; exact hcap _ (by omega)
          have hsuc := kepC_succ xs (k + b)
          refine Cd.skip (tQ (Cd.seq (Cd.block (Cd.seq ?_))))
          by_cases h8 : xs (k + b) = xs (k + b - 1)
          · --dup 2
            refine Cd.draw [.ex (.func (.func 109) #[] #[]), .ex (.slice (cutAt A c k) (n - k) (c - k)), .ex (.int .i64 ((b : Int))), .ex (.pointer (ptrAt (cutAt A c k) ((b : Int)).toNat)), .ex (.slice ((rg ((q.map (sv ss)).drop k) ((b : Int))).a) ((rg ((q.map (sv ss)).drop k) ((b : Int))).n) ((rg ((q.map (sv ss)).drop k) ((b : Int))).c)), .ex (.slice (cutAt A c k) (n - k) (c - k)), .ex (.int .i64 ((b : Int))), .ex (.int .i64 (((b : Int)) - ((1 : Int)))), .ex (.pointer (ptrAt (cutAt A c k) (((b : Int)) - ((1 : Int))).toNat)), .ex (.slice ((rg ((q.map (sv ss)).drop k) (((b : Int)) - ((1 : Int)))).a) ((rg ((q.map (sv ss)).drop k) (((b : Int)) - ((1 : Int)))).n) ((rg ((q.map (sv ss)).drop k) (((b : Int)) - ((1 : Int)))).c)), .ex (.bool (decide (xs (k + b) = xs (k + b - 1)))), .ex (.bool (false))] (by kernel_rfl) (by kernel_rfl) rfl (lx (lx (lx (lx (lx (lx (lx (lx (lx (lx (lx (lx (fun _ h => by cases h))))))))))))) ⟨?_, ?_, ?_, ?_, ?_, ?_, ?_, ?_, ?_, ?_, ?_, ?_, trivial⟩ ?_
            · intro e1 w1 hb hp hun
              refine Ops.mv_fn rfl rfl rfl (Ops.n (d0 (by exact rfl)))
            · intro e1 w1 hb hp hun
              refine Ops.ms rfl rfl rfl (Ops.n (d0 (by exact rfl)))
            · intro e1 w1 hb hp hun
              refine Ops.mi rfl rfl rfl (Ops.n (d0 (by exact rfl)))
            · intro e1 w1 hb hp hun
              refine Ops.idx (hcut.later hb).2 rfl rfl rfl (by omega) (by omega) (Ops.n (d0 (by exact rfl)))
            · intro e1 w1 hb hp hun
              refine Ops.ld_sl (hcut.later hb) rfl (by omega) rfl rfl (Ops.n (d0 (by exact rfl)))
            · intro e1 w1 hb hp hun
              refine Ops.ms rfl rfl rfl (Ops.n (d0 (by exact rfl)))
            · intro e1 w1 hb hp hun
              refine Ops.mi rfl rfl rfl (Ops.n (d0 (by exact rfl)))
            · intro e1 w1 hb hp hun
              refine Ops.sub rfl rfl rfl (by omega) (Ops.n (d0 (by exact rfl)))
            · intro e1 w1 hb hp hun
              refine Ops.idx (hcut.later hb).2 rfl rfl rfl (by omega) (by omega) (Ops.n (d0 (by exact rfl)))
            · intro e1 w1 hb hp hun
              refine Ops.ld_sl (hcut.later hb) rfl (by omega) rfl rfl (Ops.n (d0 (by exact rfl)))
            · intro e1 w1 hb hp hun
              refine Ops.call (Equal_c _ _ _ (xs (k + b)) _ _ _ (xs (k + b - 1)) _ (hra.later hb) (hrb.later hb) hca) rfl rfl rfl ?_
              rintro _ w2 ⟨rfl, hst⟩
              refine Ops.n ?_
              exact After.dn hst.below (by exact rfl)
            · intro e1 w1 hb hp hun
              refine Ops.not_p rfl rfl (Ops.n ?_)
              exact d0 (by exact congrArg Value.bool (decide_eq_false (fun h => h h8)))
            intro u w4 hb _
            rw [if_neg (fun h => h.elim (fun h => by omega) (fun h => h h8)), List.append_nil] at hsuc
            refine tQ (Cd.cond_f rfl (Cd.skip (blockQ_n (tQ (Cd.region (Ops.mi rfl rfl rfl (Ops.add rfl rfl rfl (by omega) (Ops.mi rfl rfl rfl (Ops.n ?_)))))))))
            refine tQ ?_
            exact ⟨(a, b + 1, q), by show n - k - (b + 1) < n - k - b; omega, ⟨rfl, rfl, rfl, rfl, rfl, trivial⟩, by show 1 ≤ b + 1; omega, by show b + 1 ≤ n - k; omega, by show a < k + (b + 1); omega, hql, hqm, by show a = (kepC xs (k + b + 1)).length; rw [hsuc]; exact hal, by show q.take a = kepC xs (k + b + 1); rw [hsuc]; exact hqt, hqr, hS3.later hb⟩
          · refine Cd.draw [.ex (.func (.func 109) #[] #[]), .ex (.slice (cutAt A c k) (n - k) (c - k)), .ex (.int .i64 ((b : Int))), .ex (.pointer (ptrAt (cutAt A c k) ((b : Int)).toNat)), .ex (.slice ((rg ((q.map (sv ss)).drop k) ((b : Int))).a) ((rg ((q.map (sv ss)).drop k) ((b : Int))).n) ((rg ((q.map (sv ss)).drop k) ((b : Int))).c)), .ex (.slice (cutAt A c k) (n - k) (c - k)), .ex (.int .i64 ((b : Int))), .ex (.int .i64 (((b : Int)) - ((1 : Int)))), .ex (.pointer (ptrAt (cutAt A c k) (((b : Int)) - ((1 : Int))).toNat)), .ex (.slice ((rg ((q.map (sv ss)).drop k) (((b : Int)) - ((1 : Int)))).a) ((rg ((q.map (sv ss)).drop k) (((b : Int)) - ((1 : Int)))).n) ((rg ((q.map (sv ss)).drop k) (((b : Int)) - ((1 : Int)))).c)), .ex (.bool (decide (xs (k + b) = xs (k + b - 1)))), .ex (.bool (true))] (by kernel_rfl) (by kernel_rfl) rfl (lx (lx (lx (lx (lx (lx (lx (lx (lx (lx (lx (lx (fun _ h => by cases h))))))))))))) ⟨?_, ?_, ?_, ?_, ?_, ?_, ?_, ?_, ?_, ?_, ?_, ?_, trivial⟩ ?_
            · intro e1 w1 hb hp hun
              refine Ops.mv_fn rfl rfl rfl (Ops.n (d0 (by exact rfl)))
            · intro e1 w1 hb hp hun
              refine Ops.ms rfl rfl rfl (Ops.n (d0 (by exact rfl)))
            · intro e1 w1 hb hp hun
              refine Ops.mi rfl rfl rfl (Ops.n (d0 (by exact rfl)))
            · intro e1 w1 hb hp hun
              refine Ops.idx (hcut.later hb).2 rfl rfl rfl (by omega) (by omega) (Ops.n (d0 (by exact rfl)))
            · intro e1 w1 hb hp hun
              refine Ops.ld_sl (hcut.later hb) rfl (by omega) rfl rfl (Ops.n (d0 (by exact rfl)))
            · intro e1 w1 hb hp hun
              refine Ops.ms rfl rfl rfl (Ops.n (d0 (by exact rfl)))
            · intro e1 w1 hb hp hun
              refine Ops.mi rfl rfl rfl (Ops.n (d0 (by exact rfl)))
            · intro e1 w1 hb hp hun
              refine Ops.sub rfl rfl rfl (by omega) (Ops.n (d0 (by exact rfl)))
            · intro e1 w1 hb hp hun
              refine Ops.idx (hcut.later hb).2 rfl rfl rfl (by omega) (by omega) (Ops.n (d0 (by exact rfl)))
            · intro e1 w1 hb hp hun
              refine Ops.ld_sl (hcut.later hb) rfl (by omega) rfl rfl (Ops.n (d0 (by exact rfl)))
            · intro e1 w1 hb hp hun
              refine Ops.call (Equal_c _ _ _ (xs (k + b)) _ _ _ (xs (k + b - 1)) _ (hra.later hb) (hrb.later hb) hca) rfl rfl rfl ?_
              rintro _ w2 ⟨rfl, hst⟩
              refine Ops.n ?_
              exact After.dn hst.below (by exact rfl)
            · intro e1 w1 hb hp hun
              refine Ops.not_p rfl rfl (Ops.n ?_)
              exact d0 (by exact congrArg Value.bool (decide_eq_true h8))
            intro u w4 hb _
            have hS4 := hS3.later hb
            have hR4 := hS4.rdR i (get _)
            have hcut4 := hR4.drop (l := k) (by omega) h2
            rw [if_pos (.inr h8)] at hsuc
            refine tQ (Cd.cond_t rfl (Cd.seq (Cd.region (Ops.ms rfl rfl rfl (Ops.mi rfl rfl rfl (Ops.ms rfl rfl rfl (Ops.mi rfl rfl rfl (Ops.idx hcut4.2 rfl rfl rfl (by omega) (by omega) (Ops.ld_sl hcut4 rfl (by omega) rfl rfl ?_)))))))))
            rw [hg b (by omega) (by omega)]
            refine Ops.idx hR4.2 rfl rfl rfl (by omega) (by omega) (Ops.st_sl i hS4 (get _) rfl rfl (by omega) ?_)
            intro w5 hS5
            have hS5 : St w0 w5 (ks.set i (CkR t A n c ((q.set a (k + b)).map (sv ss)))) := by
              rw [List.set_set] at hS5
              rw [List.map_set]
              exact hS5
            refine Ops.n (tQ (Cd.region (Ops.mi rfl rfl rfl (Ops.add rfl rfl rfl (by omega) (Ops.mi rfl rfl rfl (Ops.n (blockQ_n (tQ (Cd.region ?_)))))))))
            refine Ops.mi rfl rfl rfl (Ops.add rfl rfl rfl (by omega) (Ops.mi rfl rfl rfl (Ops.n (tQ ?_))))
            refine ⟨(a + 1, b + 1, q.set a (k + b)), by show n - k - (b + 1) < n - k - b; omega, ⟨rfl, rfl, rfl, rfl, rfl, trivial⟩, by show 1 ≤ b + 1; omega, by show b + 1 ≤ n - k; omega, by show a + 1 < k + (b + 1); omega, by show (q.set a _).length = n; rw [List.length_set]; exact hql, ?_, by show a + 1 = (kepC xs (k + b + 1)).length; rw [hsuc, List.length_append, ← hal]; rfl, ?_, ?_, hS5⟩
            · show ∀ j ∈ q.set a (k + b), j < n
              intro j hj
              rcases List.mem_or_eq_of_mem_set hj with h | h
              · exact hqm j h
              · omega
            · show (q.set a (k + b)).take (a + 1) = kepC xs (k + b + 1)
              rw [hsuc, ← hqt, List.take_succ_eq_append_getElem (by rw [List.length_set]; omega), List.take_set_of_le (Nat.le_refl _), List.getElem_set_self]
            · show ∀ m, a + 1 ≤ m → m < n → (q.set a (k + b))[m]? = some m
              intro m hm hm'
              rw [List.getElem?_set, if_neg (by omega)]
              exact hqr m (by omega) hm'
        · have hbe : k + b = n := by omega
          rw [hbe] at hal hqt
          have hle := kepC_len xs n
          have han : a < n := by omega
          refine Cd.exit (thenQ_x (thenQ_x (blockQ_x (tQ (Cd.seq (Cd.region (Ops.ms rfl rfl rfl (Ops.mi rfl rfl rfl (Ops.cut_l (A := A) (n := n) (c := c) (l := (a : Int)) rfl rfl rfl (by omega) ?_)))))))))
          skip
          refine Ops.clr i a hS3 (get _) (show a < n by omega) (by show n - _ = n - a; omega) rfl rfl rfl ?_
          intro w4 hS4
          rw [List.set_set] at hS4
          refine Ops.n (tQ (Cd.seq (Cd.region (Ops.ms rfl rfl rfl (Ops.mi rfl rfl rfl (Ops.cut_h (A := A) (n := n) (c := c) (h := (a : Int)) rfl rfl rfl (by omega) (Ops.ms rfl rfl rfl (Ops.n (tQ ?_)))))))))
          refine Cd.ret (blockQ_r (thenQ_r (thenQ_r (blockQ_r (thenQ_r (ret1_s rfl ?_))))))
          rw [← hal]
          refine ⟨rfl, ?_⟩
          have e9 : ({ CkR t A n c (q.map (sv ss)) with n := a, vs := (CkR t A n c (q.map (sv ss))).vs.take a } : Ck) = CkR t A a c ((kepC xs n).map (sv ss)) := by
            rw [← hqt]
            simp [CkR, List.map_take]
          rw [← e9]
          exact hS4
      · refine Cd.draw [.ex (.func (.func 109) #[] #[]), .ex (.slice (A) (n) (c)), .ex (.int .i64 ((k : Int))), .ex (.pointer (ptrAt (A) ((k : Int)).toNat)), .ex (.slice ((rg (ss) ((k : Int))).a) ((rg (ss) ((k : Int))).n) ((rg (ss) ((k : Int))).c)), .ex (.slice (A) (n) (c)), .ex (.int .i64 ((k : Int))), .ex (.int .i64 (((k : Int)) - ((1 : Int)))), .ex (.pointer (ptrAt (A) (((k : Int)) - ((1 : Int))).toNat)), .ex (.slice ((rg (ss) (((k : Int)) - ((1 : Int)))).a) ((rg (ss) (((k : Int)) - ((1 : Int)))).n) ((rg (ss) (((k : Int)) - ((1 : Int)))).c)), .ex (.bool (false))] (by kernel_rfl) (by kernel_rfl) rfl (lx (lx (lx (lx (lx (lx (lx (lx (lx (lx (lx (fun _ h => by cases h)))))))))))) ⟨?_, ?_, ?_, ?_, ?_, ?_, ?_, ?_, ?_, ?_, ?_, trivial⟩ ?_
        · intro e1 w1 hb hp hun
          refine Ops.mv_fn rfl rfl rfl (Ops.n (d0 (by exact rfl)))
        · intro e1 w1 hb hp hun
          refine Ops.ms rfl rfl rfl (Ops.n (d0 (by exact rfl)))
        · intro e1 w1 hb hp hun
          refine Ops.mi rfl rfl rfl (Ops.n (d0 (by exact rfl)))
        · intro e1 w1 hb hp hun
          refine Ops.idx (hR1.later hb).2 rfl rfl rfl (by omega) (by omega) (Ops.n (d0 (by exact rfl)))
        · intro e1 w1 hb hp hun
          refine Ops.ld_sl (hR1.later hb) rfl (by omega) rfl rfl (Ops.n (d0 (by exact rfl)))
        · intro e1 w1 hb hp hun
          refine Ops.ms rfl rfl rfl (Ops.n (d0 (by exact rfl)))
        · intro e1 w1 hb hp hun
          refine Ops.mi rfl rfl rfl (Ops.n (d0 (by exact rfl)))
        · intro e1 w1 hb hp hun
          refine Ops.sub rfl rfl rfl (by omega) (Ops.n (d0 (by exact rfl)))
        · intro e1 w1 hb hp hun
          refine Ops.idx (hR1.later hb).2 rfl rfl rfl (by omega) (by omega) (Ops.n (d0 (by exact rfl)))
        · intro e1 w1 hb hp hun
          refine Ops.ld_sl (hR1.later hb) rfl (by omega) rfl rfl (Ops.n (d0 (by exact rfl)))
        · intro e1 w1 hb hp hun
          refine Ops.call (Equal_c _ _ _ (xs k) _ _ _ (xs (k - 1)) _ (hra.later hb) (hrb.later hb) hca) rfl rfl rfl ?_
          rintro _ w2 ⟨rfl, hst⟩
          refine Ops.n ?_
          exact After.dn hst.below (by exact congrArg Value.bool (decide_eq_false h6))
        intro u w2 hb _
        refine tQ (Cd.cond_f rfl (Cd.skip (blockQ_n (tQ (Cd.region (Ops.mi rfl rfl rfl (Ops.add rfl rfl rfl (by omega) (Ops.mi rfl rfl rfl (Ops.n ?_)))))))))
        refine tQ ?_
        refine ⟨k + 1, by show n - (k + 1) < n - k; omega, ⟨rfl, rfl, rfl, trivial⟩, by omega, by omega, fun j hj => ?_, hS1.later hb⟩
        by_cases e : j = k
        · subst e; exact .inr h6
        · exact hne j (by omega)
    · have hall : kepC xs n = List.range n := kepC_all fun j hj => hne j (by omega)
      refine Cd.exit (thenQ_x (thenQ_x (blockQ_x (tQ (Cd.seq (Cd.region (Ops.ms rfl rfl rfl (Ops.ms rfl rfl rfl (Ops.n ?_)))))))))
      refine tQ (Cd.ret (ret1_s rfl ?_))
      rw [hall, List.length_range, hid]
      exact ⟨rfl, hS1⟩
/-
 The faces with so many elements of a complex, walked in the program.
-/
/-! those that are kept of an ascending row -/
theorem kepC_mem_lt {xs : Nat → List Int} {n a : Nat} (h : a ∈ kepC xs n) : a < n := by
 unfold kepC at h
 exact List.mem_range.1 (List.mem_filter.1 h).1
theorem kepC_nodup (xs : Nat → List Int) (n : Nat) : (kepC xs n).Nodup := List.nodup_range.filter _
theorem kepC_SL {xs : Nat → List Int} : ∀ {n : Nat}, (∀ a b, a < b → b < n → ¬ LT (xs b) (xs a)) → SL ((kepC xs n).map xs) ∧ ∀ x, x ∈ (kepC xs n).map xs ↔ ∃ a, a < n ∧ xs a = x
 | 0, _ => ⟨by simp [kepC, SL], fun x => by simp [kepC]⟩
 | n + 1, h => by
  obtain ⟨ih1, ih2⟩ := kepC_SL (xs := xs) (n := n) fun a b h1 h2 => h a b h1 (by omega)
  rw [kepC_succ, List.map_append]
  by_cases e : n = 0 ∨ xs n ≠ xs (n - 1)
  ·rw [if_pos e]
   constructor
   ·unfold SL
    rw [List.pairwise_append]
    refine ⟨ih1, by simp, fun a ha b hb => ?_⟩
    obtain rfl : b = xs n := by simpa using hb
    obtain ⟨i, hi, rfl⟩ := (ih2 a).1 ha
    rcases e with e | e
    ·omega
    ·have h1 : LT (xs (n - 1)) (xs n) := LT.tri (h (n - 1) n (by omega) (by omega)) e
     by_cases e2 : i = n - 1
     ·rw [e2]; exact h1
     ·by_cases e3 : xs i = xs (n - 1)
      ·rw [e3]; exact h1
      ·exact (LT.tri (h i (n - 1) (by omega) (by omega)) (Ne.symm e3)).trans h1
   ·intro x
    rw [List.mem_append, ih2]
    constructor
    ·rintro (⟨a, h1, h2⟩ | h1)
     ·exact ⟨a, by omega, h2⟩
     ·exact ⟨n, by omega, by simpa using (show x = xs n by simpa using h1).symm⟩
    ·rintro ⟨a, h1, h2⟩
     by_cases e2 : a = n
     ·subst e2; exact .inr (by simp [h2])
     ·exact .inl ⟨a, by omega, h2⟩
  ·rw [if_neg e]
   have e1 : n ≠ 0 := fun h => e (.inl h)
   have e2 : xs n = xs (n - 1) := Classical.byContradiction fun h => e (.inr h)
   refine ⟨by simpa using ih1, fun x => ?_⟩
   rw [List.map_nil, List.append_nil, ih2]
   constructor
   ·rintro ⟨a, h1, h2⟩; exact ⟨a, by omega, h2⟩
   ·rintro ⟨a, h1, h2⟩
    by_cases e3 : a = n
    ·subst e3; exact ⟨a - 1, by omega, by rw [← e2]; exact h2⟩
    ·exact ⟨a, by omega, h2⟩
theorem St.rowAt {w0 w : World} {p : Ck} {t2 : TypeId} {rs : List SlV} {L : List (List Int)} (h : St w0 w (p :: rowsCk t2 rs L)) (hl : rs.length = L.length) {a : Nat} (ha : a < L.length) : RdI w (sv rs a).a (sv rs a).n (L.getD a []) :=
 h.rdI (a + 1) (by rw [List.getElem?_cons_succ]; exact rowsCk_get hl (by omega))
theorem sortOnce {L : List (List Int)} {q : List Nat} (hq : q.Perm (List.range L.length)) (hs : q.Pairwise fun a b => ¬ LT (L.getD b []) (L.getD a [])) (k : Nat) {F : List (List Int)} (hL : ∀ x, x ∈ L ↔ x ∈ faL F k) :
  let xs := fun a => L.getD (q.getD a 0) []
  let q2 := (kepC xs L.length).map fun a => q.getD a 0
  q2.map (fun i => L.getD i []) = fcs F k ∧ q2.Nodup ∧ (∀ i ∈ q2, i < L.length) ∧ (kepC xs L.length).length = (fcs F k).length := by
 intro xs q2
 have hql : q.length = L.length := by rw [hq.length_eq, List.length_range]
 have hqn : q.Nodup := hq.nodup_iff.2 List.nodup_range
 have hqg : ∀ a (h : a < L.length), q.getD a 0 = q[a] := fun a h => by simp [List.getD_eq_getElem?_getD, show a < q.length by omega]
 have hqm : ∀ a, a < L.length → q.getD a 0 < L.length := fun a h => List.mem_range.1 (hq.mem_iff.1 (by rw [hqg a h]; exact List.getElem_mem _))
 obtain ⟨h1, h2⟩ := kepC_SL (xs := xs) (n := L.length) fun a b hab hb => by
  show ¬ LT (L.getD (q.getD b 0) []) (L.getD (q.getD a 0) [])
  rw [hqg a (by omega), hqg b hb]
  exact List.pairwise_iff_getElem.1 hs a b (by omega) (by omega) hab
 have e : q2.map (fun i => L.getD i []) = (kepC xs L.length).map xs := by simp [q2, xs]
 have e2 : (kepC xs L.length).map xs = fcs F k := fcs_of h1 fun x => by
  rw [h2, ← hL]
  constructor
  ·rintro ⟨a, ha, rfl⟩
   show L.getD _ [] ∈ L
   rw [List.getD_eq_getElem?_getD, List.getElem?_eq_getElem (hqm a ha)]
   exact List.getElem_mem _
  ·intro hx
   obtain ⟨i, hi, rfl⟩ := List.mem_iff_getElem.1 hx
   obtain ⟨a, ha, e⟩ := List.mem_iff_getElem.1 (hq.mem_iff.2 (List.mem_range.2 hi))
   refine ⟨a, by omega, ?_⟩
   show L.getD (q.getD a 0) [] = _
   rw [hqg a (by omega), e]
   simp [List.getD_eq_getElem?_getD, hi]
 refine ⟨e.trans e2, ?_, fun i hi => ?_, by rw [← e2, List.length_map]⟩
 ·refine List.Pairwise.map _ ?_ ((kepC_nodup xs L.length).imp_of_mem (S := fun a b => q.getD a 0 ≠ q.getD b 0) ?_)
  ·exact fun a b h => h
  ·intro a b ha hb hab
   have ha := kepC_mem_lt ha
   have hb := kepC_mem_lt hb
   rw [hqg a ha, hqg b hb]
   exact fun h => hab ((List.getElem_inj hqn).1 h)
 ·obtain ⟨a, ha, rfl⟩ := List.mem_map.1 hi
  exact hqm a (kepC_mem_lt ha)
def faG (F : List (List Int)) (k i : Nat) : List (List Int) := if k = 0 then [[]] else (F.take i).flatMap fun f => ptsP f k
theorem faG_all (F : List (List Int)) (k : Nat) : faG F k F.length = faL F k := by unfold faG faL; rw [List.take_length]
theorem faG_zero (F : List (List Int)) (k : Nat) : faG F k 0 = if k = 0 then [[]] else [] := by unfold faG; split <;> rfl
theorem faG_succ {F : List (List Int)} {k i : Nat} (h : i < F.length) : faG F k (i + 1) = if 0 < k ∧ k ≤ (gl F (i : Int)).length then faG F k i ++ ptsP (gl F (i : Int)) k else faG F k i := by
 unfold faG
 by_cases e : k = 0
 ·simp [e]
 ·rw [if_neg e, if_neg e, take_succ_gl h, List.flatMap_append]
  by_cases e2 : k ≤ (gl F (i : Int)).length
  ·rw [if_pos ⟨by omega, e2⟩]; simp
  ·rw [if_neg (fun h => e2 h.2)]
   have := ptsP_short (l := gl F (i : Int)) (k := k) (by omega)
   simp [this]
theorem faG_num {F : List (List Int)} (k i : Nat) (h6 : ∀ f ∈ F, f.length ≤ 6) : (faG F k i).length ≤ 64 * F.length + 1 := by
 have h := faL_num (F := F.take i) k fun f hf => h6 f (List.mem_of_mem_take hf)
 have e : faG F k i = faL (F.take i) k := rfl
 rw [e]
 have : (F.take i).length ≤ F.length := by simp; omega
 omega
theorem facesWith_c (Pc : Option Addr) (V : Int) (A : Option Addr) (n c : Nat) (rs : List SlV) (F : List (List Int)) (k : Nat) (w : World) (hP : Rd w Pc 2 (fun j => [Value.int .i64 V, .slice A n c].getD j undef)) (hR : RowsI w A n rs F) (hn : n ≤ 1000) (h6 : ∀ f ∈ F, f.length ≤ 6) (hk : k ≤ 7) :
    Ret Tryz.prog 73 [.pointer Pc, .int .i64 (k : Int)] w (fun v w' => ∃ A' c' rs', v = .slice A' (fcs F k).length c' ∧ rs'.length = (fcs F k).length ∧ St w w' (mat 28 2 A' (fcs F k).length c' rs' (fcs F k) ++ [])) := by
  have hFl := hR.len
  have hz := faG_zero F k
  refine Ret.of_cd Tryz.func73 rfl Tryz.ntmps73 rfl (post1 rfl) (Cd.seq (Cd.region (Ops.ms rfl rfl rfl (Ops.n (tQ (Cd.seq (Cd.region (Ops.bs0 (St.refl w) rfl ?_))))))))
  intro A1 w1 hS1
  have hS1 : St w w1 [CkR 28 A1 0 0 []] := hS1
  refine Ops.ms rfl rfl rfl (Ops.n (tQ ?_))
  refine Cd.join (α := Option Addr × Nat × List SlV) (fun z => [(0, .pointer Pc), (1, .int .i64 (k : Int)), (5, .slice z.1 (faG F k 0).length z.2.1)]) (fun z w' => z.2.2.length = (faG F k 0).length ∧ St w w' (mat 28 2 z.1 (faG F k 0).length z.2.1 z.2.2 (faG F k 0))) ?_ ?_
  · refine Cd.seq (Cd.region (Ops.mi rfl rfl rfl (Ops.eql rfl rfl rfl (Ops.n (tQ ?_)))))
    refine Cd.cond_p _ rfl (fun h1 => ?_) (fun h1 => ?_)
    · rw [if_pos (by omega)] at hz
      rw [hz]
      refine Cd.region (Ops.ms rfl rfl rfl (Ops.bs1R hS1 rfl rfl rfl ?_))
      intro A2 w2 hS2
      refine Ops.appR 1 hS2 rfl (hS2.rdR 0 rfl) rfl rfl rfl (by omega) (by omega) rfl ?_
      intro A3 c3 w3 hS3
      have hS3 : St w w3 [CkR 28 A3 (0 + 1) c3 ([] ++ [slNil])] := hS3.tail
      refine Ops.ms rfl rfl rfl (Ops.n (tQ ?_))
      exact ⟨(A3, c3, [slNil]), ⟨rfl, rfl, rfl, trivial⟩, rfl, (List.append_nil (mat 28 2 A3 1 c3 [slNil] [[]])) ▸ nilRows 1 hS3⟩
    · rw [if_neg (by omega)] at hz
      rw [hz]
      refine Cd.skip (tQ ?_)
      exact ⟨(A1, 0, []), ⟨rfl, rfl, rfl, trivial⟩, rfl, hS1⟩
  rintro ⟨A5, c5, rs5⟩ e w2 ⟨hrl5, hS2⟩
  dsimp only at hrl5 hS2 ⊢
  clear hS1
  refine Cd.seq (Cd.seq (Cd.region (Ops.mv_ptr rfl rfl rfl (Ops.nilp (hS2.old hP) (by omega) rfl rfl ?_))))
  skip
  refine Ops.fld (hS2.old hP) rfl rfl rfl rfl inferInstance ?_
  skip
  refine Ops.ldf_s (hS2.old hP) rfl rfl rfl rfl rfl (Ops.len rfl rfl (Ops.mi rfl rfl rfl (Ops.n (tQ (Cd.block ?_)))))
  refine Cd.loop (α := Nat × Option Addr × Nat × List SlV) (fun z => [(1, .int .i64 (k : Int)), (5, .slice z.2.1 (faG F k z.1).length z.2.2.1), (17, .slice A n c), (18, .int .i64 (n : Int)), (19, .int .i64 (z.1 : Int))])
    (fun z w' => z.1 ≤ n ∧ z.2.2.2.length = (faG F k z.1).length ∧ St w w' (mat 28 2 z.2.1 (faG F k z.1).length z.2.2.1 z.2.2.2 (faG F k z.1))) (fun z => n - z.1) (0, A5, c5, rs5) ⟨rfl, rfl, rfl, rfl, rfl, trivial⟩ ⟨Nat.zero_le _, hrl5, hS2⟩ ?_
  clear hrl5 hS2 hz
  rintro ⟨i, A5, c5, rs5⟩ e w3 ⟨hi, hrl, hS3⟩
  dsimp only at hi hrl hS3 ⊢
  refine Cd.seq (Cd.region (Ops.lss rfl rfl rfl (Ops.n (tQ (Cd.seq ?_)))))
  refine Cd.cond_p _ rfl (fun h3 => ?_) (fun h3 => ?_)
  · have hiF : i < F.length := by omega
    have hM := hS3.oldRows hR
    have hrow := hM.at_ (i := (i : Int)) (by omega) (by omega)
    have hcap := hM.cap_ (i := (i : Int)) (by omega) (by omega)
    have hrl0 := hrow.1
    have hsucc := faG_succ (k := k) hiF
    have hnum := faG_num (F := F) k i h6
    have hf6 := h6 (gl F (i : Int)) (by rw [gl_mem hiF]; exact List.getElem_mem _)
    have hpn := ptsP_small (l := gl F (i : Int)) k hf6
    refine Cd.skip (tQ (Cd.seq (Cd.block (Cd.seq (Cd.region (Ops.idx hM.top.2 rfl rfl rfl (by omega) (by omega) (Ops.ld_sl hM.top rfl (by omega) rfl rfl (Ops.ms rfl rfl rfl (Ops.n ?_)))))))))
    refine tQ (Cd.seq (Cd.region (Ops.mi rfl rfl rfl (Ops.gtr rfl rfl rfl (Ops.mb rfl rfl rfl ?_)))))
    refine Ops.split_p 25 rfl (fun h4 => ?_) (fun h4 => ?_)
    · refine Ops.g rfl rfl rfl (Ops.mi rfl rfl rfl (Ops.g rfl rfl rfl (Ops.ms rfl rfl rfl (Ops.g rfl rfl rfl (Ops.call (sizeI_c _ _ _ _) rfl rfl rfl ?_)))))
      rintro _ _ ⟨rfl, rfl⟩
      refine Ops.g rfl rfl rfl (Ops.leq rfl rfl rfl (Ops.pick_t rfl rfl rfl (Ops.n (tQ ?_))))
      refine Cd.cond_p _ rfl (fun h5 => ?_) (fun h5 => ?_)
      · rw [if_pos ⟨by omega, by omega⟩] at hsucc
        refine Cd.region (Ops.ms rfl rfl rfl (Ops.ms rfl rfl rfl (Ops.mi rfl rfl rfl (Ops.call (partsOf_c k _ _ _ (gl F (i : Int)) _ hrow hcap.1 (by omega) hk) rfl rfl rfl ?_))))
        rintro _ w4 ⟨A6, c6, rs6, rfl, hrl6, hT⟩
        have hR6 : RdR w4 A6 (ptsP (gl F (i : Int)) k).length rs6 := hT.rdR 0 rfl
        have hS4 := hS3.call2 hT
        refine Ops.appR 0 hS4 rfl hR6 rfl rfl rfl (by omega) (by omega) rfl ?_
        intro A7 c7 w5 hS5
        have hS5 : St w w5 (CkR 28 A7 ((faG F k i).length + (ptsP (gl F (i : Int)) k).length) c7 (rs5 ++ rs6) :: (rowsCk 2 rs5 (faG F k i) ++ (CkR 28 A6 (ptsP (gl F (i : Int)) k).length c6 rs6 :: (rowsCk 2 rs6 (ptsP (gl F (i : Int)) k) ++ [])))) := hS5
        have hS6 : St w w5 (mat 28 2 A7 (faG F k (i + 1)).length c7 (rs5 ++ rs6) (faG F k (i + 1))) := by
          rw [hsucc, List.length_append]
          unfold mat
          rw [rowsCk_append hrl]
          refine hS5.sub (List.Sublist.cons_cons _ ((List.Sublist.refl _).append ?_))
          rw [List.append_nil]
          exact List.sublist_cons_self _ _
        refine Ops.ms rfl rfl rfl (Ops.n (blockQ_n (tQ (Cd.region (Ops.add rfl rfl rfl (by omega) (Ops.mi rfl rfl rfl (Ops.n (tQ ?_))))))))
        exact ⟨(i + 1, A7, c7, rs5 ++ rs6), by show n - (i + 1) < n - i; omega, ⟨rfl, by show Value.slice A7 ((faG F k i).length + (ptsP (gl F (i : Int)) k).length) c7 = .slice A7 (faG F k (i + 1)).length c7; rw [hsucc, List.length_append], rfl, rfl, rfl, trivial⟩, by show i + 1 ≤ n; omega, by show (rs5 ++ rs6).length = _; rw [hsucc, List.length_append, List.length_append, hrl, hrl6], hS6⟩
      · rw [if_neg (by omega)] at hsucc
        rw [← hsucc] at hrl hS3 ⊢
        refine Cd.skip (blockQ_n (tQ (Cd.region (Ops.add rfl rfl rfl (by omega) (Ops.mi rfl rfl rfl (Ops.n (tQ ?_)))))))
        exact ⟨(i + 1, A5, c5, rs5), by show n - (i + 1) < n - i; omega, ⟨rfl, rfl, rfl, rfl, rfl, trivial⟩, by show i + 1 ≤ n; omega, hrl, hS3⟩
    · rw [if_neg (by omega)] at hsucc
      rw [← hsucc] at hrl hS3 ⊢
      refine Ops.k rfl rfl rfl rfl rfl (Ops.k rfl rfl rfl rfl rfl (Ops.k rfl rfl rfl rfl rfl (Ops.k rfl rfl rfl rfl rfl (Ops.pick_f rfl rfl rfl (Ops.n (tQ (Cd.cond_f rfl (Cd.skip (blockQ_n ?_)))))))))
      refine tQ (Cd.region (Ops.add rfl rfl rfl (by omega) (Ops.mi rfl rfl rfl (Ops.n (tQ ?_)))))
      exact ⟨(i + 1, A5, c5, rs5), by show n - (i + 1) < n - i; omega, ⟨rfl, rfl, rfl, rfl, rfl, trivial⟩, by show i + 1 ≤ n; omega, hrl, hS3⟩
  · have hie : i = F.length := by omega
    rw [hie, faG_all] at hrl hS3 ⊢
    have hnum := faL_num (F := F) k h6
    have hLm : ∀ a, a < (faL F k).length → ((faL F k).getD a []).length ≤ 6 := fun a ha => by
      have hm : (faL F k).getD a [] ∈ faL F k := by
        rw [List.getD_eq_getElem?_getD, List.getElem?_eq_getElem ha]; exact List.getElem_mem _
      rcases faL_mem.1 hm with ⟨_, h⟩ | ⟨_, f, hf, h, _⟩
      · rw [h]; simp
      · have := h.length_le
        have := h6 f hf
        omega
    generalize hLe : faL F k = L at *
    have hcapL : ∀ a, a < L.length → (sv rs5 a).n ≤ 9223372036854775807 := fun a ha => by
      have h := (St.rowAt hS3 hrl ha).1
      have := hLm a ha
      omega
    refine Cd.exit (thenQ_x (thenQ_x (blockQ_x (tQ (Cd.seq (Cd.region (Ops.ms rfl rfl rfl ?_)))))))
    refine Ops.call (sortL_c 0 hS3 rfl (by omega) (fun a => L.getD a []) hcapL (fun w' q hq1 hq2 h a ha => St.rowAt (p := CkR 28 A5 L.length c5 (q.map (sv rs5))) h hrl ha)) rfl rfl rfl ?_
    rintro _ w4 ⟨rfl, q, hq, hqs, hS4⟩
    have hS4 : St w w4 (CkR 28 A5 L.length c5 (q.map (sv rs5)) :: rowsCk 2 rs5 L) := hS4
    have hql : q.length = L.length := by rw [hq.length_eq, List.length_range]
    have hqm : ∀ a, a < L.length → q.getD a 0 < L.length := fun a h => List.mem_range.1 (hq.mem_iff.1 (by
      rw [List.getD_eq_getElem?_getD, List.getElem?_eq_getElem (show a < q.length by omega)]; exact List.getElem_mem _))
    have hsv : ∀ a, a < L.length → sv (q.map (sv rs5)) a = sv rs5 (q.getD a 0) := fun a h => by
      show (q.map (sv rs5)).getD a slNil = _
      simp only [List.getD_eq_getElem?_getD, List.getElem?_map, List.getElem?_eq_getElem (show a < q.length by omega), Option.map_some, Option.getD_some]
    obtain ⟨e1, e2, e3, e4⟩ := sortOnce hq hqs k (F := F) (fun x => by rw [hLe])
    refine Ops.n (tQ (Cd.seq (Cd.region (Ops.ms rfl rfl rfl ?_))))
    refine Ops.call (compactF_c 0 hS4 rfl (by omega) (fun a => L.getD (q.getD a 0) []) (fun a ha => by rw [hsv a ha]; exact hcapL _ (hqm a ha)) (fun w' q2 hq1 hq2 h a ha => by
      rw [hsv a ha]
      exact St.rowAt (p := CkR 28 A5 L.length c5 (q2.map (sv (q.map (sv rs5))))) h hrl (hqm a ha))) rfl rfl rfl ?_
    rintro _ w5 ⟨rfl, hS5⟩
    generalize hkp : kepC (fun a => L.getD (q.getD a 0) []) L.length = kp at *
    have hss : kp.map (sv (q.map (sv rs5))) = (kp.map fun a => q.getD a 0).map fun i => rs5.getD i slNil := by
      rw [List.map_map]
      exact List.map_congr_left fun a ha => by rw [← hkp] at ha; exact hsv a (kepC_mem_lt ha)
    have hS5 : St w w5 ([CkR 28 A5 kp.length c5 (kp.map (sv (q.map (sv rs5))))] ++ rowsCk 2 rs5 L) := hS5
    have hS6 := hS5.pick hrl e2 (fun i hi => by rw [hrl]; exact e3 i hi)
    rw [e1, hss, e4] at hS6
    refine Ops.ms rfl rfl rfl (Ops.n (tQ (Cd.ret (ret1_s rfl ?_))))
    exact ⟨A5, c5, (kp.map fun a => q.getD a 0).map fun i => rs5.getD i slNil, by rw [e4], by rw [List.length_map, List.length_map]; exact e4, by rw [List.append_nil]; exact hS6⟩
/-
 Numbers of faces, vectors and characteristics of complexes, walked in the program.
-/
theorem depth_c (Pc : Option Addr) (V : Int) (A : Option Addr) (n c : Nat) (rs : List SlV) (F : List (List Int)) (w : World) (hP : Rd w Pc 2 (fun j => [Value.int .i64 V, .slice A n c].getD j undef)) (hR : RowsI w A n rs F) (hn : n ≤ 1000) (h6 : ∀ f ∈ F, f.length ≤ 1000000) :
  Ret Tryz.prog 71 [.pointer Pc] w (fun v w' => v = .int .i64 (dpt F : Int) ∧ w' = w) := by
 have hFl := hR.len
 refine Ret.of_cd Tryz.func71 rfl Tryz.ntmps71 rfl (post1 rfl) (Cd.seq (Cd.region (Ops.mi rfl rfl rfl (Ops.n (tQ (Cd.seq (Cd.region (Ops.mi rfl rfl rfl (Ops.n ?_)))))))))
 refine tQ (Cd.seq (Cd.seq (Cd.region (Ops.mv_ptr rfl rfl rfl (Ops.nilp hP (by omega) rfl rfl ?_)))))
 skip
 refine Ops.fld hP rfl rfl rfl rfl inferInstance ?_
 skip
 refine Ops.ldf_s hP rfl rfl rfl rfl rfl (Ops.len rfl rfl (Ops.mi rfl rfl rfl (Ops.n (tQ (Cd.block ?_)))))
 refine Cd.loop (α := Nat) (fun i => [(3, .int .i64 ((dpt (F.take i) : Nat) : Int)), (9, .slice A n c), (10, .int .i64 (n : Int)), (11, .int .i64 (i : Int))]) (fun i w' => w' = w ∧ i ≤ n) (fun i => n - i) 0 ⟨rfl, rfl, rfl, rfl, trivial⟩ ⟨rfl, Nat.zero_le _⟩ ?_
 rintro i e w ⟨rfl, hi⟩
 refine Cd.seq (Cd.region (Ops.lss rfl rfl rfl (Ops.n (tQ (Cd.seq ?_)))))
 refine Cd.cond_p _ rfl (fun h3 => ?_) (fun h3 => ?_)
 ·have hiF : i < F.length := by omega
  have hrow := hR.at_ (i := (i : Int)) (by omega) (by omega)
  have hrl0 := hrow.1
  refine Cd.skip (tQ (Cd.seq (Cd.block (Cd.seq (Cd.region (Ops.idx hR.top.2 rfl rfl rfl (by omega) (by omega) (Ops.ld_sl hR.top rfl (by omega) rfl rfl (Ops.ms rfl rfl rfl (Ops.n ?_)))))))))
  refine tQ (Cd.region (Ops.mi rfl rfl rfl (Ops.ms rfl rfl rfl (Ops.call (sizeI_c _ _ _ _) rfl rfl rfl ?_))))
  rintro _ _ ⟨rfl, rfl⟩
  refine Ops.maxI rfl rfl rfl (Ops.mi rfl rfl rfl (Ops.n (blockQ_n (tQ (Cd.region (Ops.add rfl rfl rfl (by omega) (Ops.mi rfl rfl rfl (Ops.n (tQ ?_)))))))))
  exact ⟨i + 1, by show n - (i + 1) < n - i; omega, ⟨by show Value.int .i64 _ = .int .i64 _; rw [dpt_succ hiF]; congr 1; omega, rfl, rfl, rfl, trivial⟩, rfl, by omega⟩
 ·refine Cd.exit (thenQ_x (thenQ_x (blockQ_x (tQ (Cd.seq (Cd.region (Ops.mi rfl rfl rfl (Ops.mi rfl rfl rfl (Ops.n ?_)))))))))
  refine tQ (Cd.ret (ret1_i rfl ?_))
  have hin : i = F.length := by omega
  refine ⟨?_, rfl⟩
  rw [hin, List.take_length]
def fvG (F : List (List Int)) (k : Nat) : List Int := (List.range k).map fun j => ((fcs F j).length : Int)
theorem fvG_succ (F : List (List Int)) (k : Nat) : fvG F (k + 1) = fvG F k ++ [((fcs F k).length : Int)] := by simp [fvG, List.range_succ]
theorem fvP_bd {F : List (List Int)} (hn : F.length ≤ 400) (h6 : ∀ f ∈ F, f.length ≤ 6) : ∀ x ∈ fvP F, 0 ≤ x ∧ x ≤ 30000 := fun x hx => by
 obtain ⟨k, _, rfl⟩ := List.mem_map.1 hx
 have := fcs_num k h6
 omega
theorem fVector_c (Pc : Option Addr) (V : Int) (A : Option Addr) (n c : Nat) (rs : List SlV) (F : List (List Int)) (w : World) (hP : Rd w Pc 2 (fun j => [Value.int .i64 V, .slice A n c].getD j undef)) (hR : RowsI w A n rs F) (hn : n ≤ 1000) (h6 : ∀ f ∈ F, f.length ≤ 6) :
  Ret Tryz.prog 36 [.pointer Pc] w (fun v w' => ∃ A' c', v = .slice A' (dpt F + 1) c' ∧ St w w' [CkI 2 A' (dpt F + 1) c' (fvP F)]) := by
 have hd := dpt_bd h6
 refine Ret.of_cd Tryz.func36 rfl Tryz.ntmps36 rfl (post1 rfl) (Cd.seq (Cd.region (Ops.ms rfl rfl rfl (Ops.n (tQ (Cd.seq (Cd.region (Ops.ms rfl rfl rfl (Ops.n ?_)))))))))
 refine tQ (Cd.seq (Cd.seq (Cd.region (Ops.mv_ptr rfl rfl rfl ?_))))
 refine Ops.call (depth_c Pc V A n c rs F w hP hR hn (fun f hf => by have := h6 f hf; omega)) rfl rfl rfl ?_
 rintro _ w ⟨rfl, rfl⟩
 refine Ops.add rfl rfl rfl (by omega) (Ops.mi rfl rfl rfl (Ops.n (tQ (Cd.block ?_))))
 refine Cd.loop (α := Nat × Option Addr × Nat) (fun z => [(0, .pointer Pc), (3, .slice z.2.1 z.1 z.2.2), (7, .int .i64 ((dpt F : Int) + 1)), (8, .int .i64 (z.1 : Int))]) (fun z w' => z.1 ≤ dpt F + 1 ∧ St w w' [CkI 2 z.2.1 z.1 z.2.2 (fvG F z.1)]) (fun z => dpt F + 1 - z.1) (0, none, 0) ⟨rfl, rfl, rfl, rfl, trivial⟩ ⟨Nat.zero_le _, (St.refl w).nil _⟩ ?_
 rintro ⟨k, A3, c3⟩ e w1 ⟨hk, hS⟩
 dsimp only at hk hS ⊢
 refine Cd.seq (Cd.region (Ops.lss rfl rfl rfl (Ops.n (tQ (Cd.seq ?_)))))
 refine Cd.cond_p _ rfl (fun h1 => ?_) (fun h1 => ?_)
 ·refine Cd.skip (tQ (Cd.seq (Cd.block (Cd.seq (Cd.region (Ops.mi rfl rfl rfl (Ops.mi rfl rfl rfl (Ops.n (tQ ?_)))))))))
  refine Cd.region (Ops.ms rfl rfl rfl (Ops.mv_ptr rfl rfl rfl (Ops.mi rfl rfl rfl (Ops.call (facesWith_c Pc V A n c rs F k _ (hS.old hP) (hS.oldRows hR) hn h6 (by omega)) rfl rfl rfl ?_))))
  rintro _ w2 ⟨A4, c4, rs4, rfl, _, hT⟩
  have hS2 : St w w2 [CkI 2 A3 k c3 (fvG F k)] := hS.later hT.below
  have hnum := fcs_num (F := F) k h6
  refine Ops.call (sizeR_c _ _ _ _) rfl rfl rfl ?_
  rintro _ _ ⟨rfl, rfl⟩
  refine Ops.bs1I hS2 rfl rfl rfl ?_
  intro A5 w3 hS3
  refine Ops.appI 1 hS3 rfl (hS3.rdI 0 rfl) rfl rfl rfl (by omega) (by omega) rfl ?_
  intro A6 c6 w4 hS4
  have hS4 : St w w4 [CkI 2 A6 (k + 1) c6 (fvG F (k + 1))] := by rw [fvG_succ]; exact hS4.tail
  refine Ops.ms rfl rfl rfl (Ops.n (blockQ_n (tQ (Cd.region (Ops.add rfl rfl rfl (by omega) (Ops.mi rfl rfl rfl (Ops.n (tQ ?_))))))))
  exact ⟨(k + 1, A6, c6), by show dpt F + 1 - (k + 1) < dpt F + 1 - k; omega, ⟨rfl, rfl, rfl, rfl, trivial⟩, by show k + 1 ≤ dpt F + 1; omega, hS4⟩
 ·have hke : k = dpt F + 1 := by omega
  subst hke
  refine Cd.exit (thenQ_x (thenQ_x (blockQ_x (tQ (Cd.seq (Cd.region (Ops.ms rfl rfl rfl (Ops.ms rfl rfl rfl (Ops.n ?_)))))))))
  refine tQ (Cd.ret (ret1_s rfl ?_))
  exact ⟨A3, c3, rfl, hS⟩
/-
 Characteristics and h-vectors of complexes, walked in the program.
-/
theorem sumN_bd {g : Nat → Int} {b : Int} (h0 : 0 ≤ b) : ∀ {n : Nat}, (∀ i, i < n → -b ≤ g i ∧ g i ≤ b) → -(n * b) ≤ sumN n g ∧ sumN n g ≤ n * b
 | 0, _ => by simp [sumN]
 | n + 1, h => by
  have h1 := sumN_bd h0 (n := n) fun i hi => h i (by omega)
  have h2 := h n (by omega)
  have e : ((n + 1 : Nat) : Int) * b = n * b + b := by rw [Int.natCast_add, Int.add_mul]; simp
  rw [e]
  unfold sumN
  omega
def altT (f : List Int) (i : Nat) : Int := if i % 2 = 0 then gi f (i : Int) else -gi f (i : Int)
def altS (f : List Int) : Int := sumN f.length (altT f)
theorem gi_bnd {f : List Int} {b : Int} (hb : ∀ x ∈ f, 0 ≤ x ∧ x ≤ b) {i : Nat} (h : i < f.length) : 0 ≤ gi f (i : Int) ∧ gi f (i : Int) ≤ b := by
 rw [gi_mem h]; exact hb _ (List.getElem_mem _)
theorem altT_bd {f : List Int} {b : Int} (hb : ∀ x ∈ f, 0 ≤ x ∧ x ≤ b) {i : Nat} (h : i < f.length) : -b ≤ altT f i ∧ altT f i ≤ b := by
 have := gi_bnd hb h
 unfold altT
 split <;> omega
theorem eulerOf_c (A : Option Addr) (n c : Nat) (f : List Int) (w : World) (hR : RdI w A n f) (hn : n ≤ 100) (hb : ∀ x ∈ f, 0 ≤ x ∧ x ≤ 30000) :
  Ret Tryz.prog 35 [.slice A n c] w (fun v w' => v = .int .i64 (altS f) ∧ w' = w) := by
 have hfl := hR.1
 have hbd : ∀ k, k ≤ n → -3000000 ≤ sumN k (altT f) ∧ sumN k (altT f) ≤ 3000000 := fun k hk => by
  have h1 := sumN_bd (g := altT f) (b := 30000) (by omega) (n := k) fun i hi => altT_bd hb (by omega)
  have h2 : (k : Int) * 30000 ≤ 3000000 := by omega
  omega
 refine Ret.of_cd Tryz.func35 rfl Tryz.ntmps35 rfl (post1 rfl) (Cd.seq (Cd.region (Ops.mi rfl rfl rfl (Ops.n (tQ (Cd.seq (Cd.region (Ops.mi rfl rfl rfl (Ops.n ?_)))))))))
 refine tQ (Cd.seq (Cd.seq (Cd.region (Ops.ms rfl rfl rfl (Ops.len rfl rfl (Ops.mi rfl rfl rfl (Ops.n (tQ (Cd.block ?_)))))))))
 refine Cd.loop (α := Nat) (fun i => [(3, .int .i64 (sumN i (altT f))), (6, .slice A n c), (7, .int .i64 (n : Int)), (8, .int .i64 (i : Int))]) (fun i w' => w' = w ∧ i ≤ n) (fun i => n - i) 0 ⟨rfl, rfl, rfl, rfl, trivial⟩ ⟨rfl, Nat.zero_le _⟩ ?_
 rintro i e w ⟨rfl, hi⟩
 have h0 := hbd i hi
 refine Cd.seq (Cd.region (Ops.lss rfl rfl rfl (Ops.n (tQ (Cd.seq ?_)))))
 refine Cd.cond_p _ rfl (fun h3 => ?_) (fun h3 => ?_)
 ·have h1 := hbd (i + 1) (by omega)
  have h2 : sumN (i + 1) (altT f) = sumN i (altT f) + altT f i := rfl
  have h5 := gi_bnd hb (i := i) (by omega)
  refine Cd.skip (tQ (Cd.seq (Cd.block (Cd.seq (Cd.region (Ops.mi rfl rfl rfl (Ops.idx hR.2 rfl rfl rfl (by omega) (by omega) (Ops.ld_int hR rfl (by omega) rfl rfl (Ops.mi rfl rfl rfl ?_)))))))))
  refine Ops.mi rfl rfl rfl (Ops.n (tQ (Cd.seq (Cd.region (Ops.mi rfl rfl rfl (Ops.rem rfl rfl rfl (by omega) (Ops.eql rfl rfl rfl (Ops.n (tQ ?_)))))))))
  refine Cd.cond_p _ rfl (fun h4 => ?_) (fun h4 => ?_)
  ·have e : altT f i = gi f (i : Int) := by unfold altT; rw [if_pos (by omega)]
   refine Cd.region (Ops.mi rfl rfl rfl (Ops.mi rfl rfl rfl (Ops.add rfl rfl rfl (by omega) (Ops.mi rfl rfl rfl (Ops.n (blockQ_n (tQ (Cd.region (Ops.add rfl rfl rfl (by omega) ?_)))))))))
   refine Ops.mi rfl rfl rfl (Ops.n (tQ ?_))
   exact ⟨i + 1, by show n - (i + 1) < n - i; omega, ⟨by show Value.int .i64 _ = .int .i64 _; rw [h2, e], rfl, rfl, rfl, trivial⟩, rfl, by omega⟩
  ·have e : altT f i = -gi f (i : Int) := by unfold altT; rw [if_neg (by omega)]
   refine Cd.region (Ops.mi rfl rfl rfl (Ops.mi rfl rfl rfl (Ops.sub rfl rfl rfl (by omega) (Ops.mi rfl rfl rfl (Ops.n (blockQ_n (tQ (Cd.region (Ops.add rfl rfl rfl (by omega) ?_)))))))))
   refine Ops.mi rfl rfl rfl (Ops.n (tQ ?_))
   exact ⟨i + 1, by show n - (i + 1) < n - i; omega, ⟨by show Value.int .i64 _ = .int .i64 _; rw [h2, e]; congr 1, rfl, rfl, rfl, trivial⟩, rfl, by omega⟩
 ·have hin : i = f.length := by omega
  refine Cd.exit (thenQ_x (thenQ_x (blockQ_x (tQ (Cd.seq (Cd.region (Ops.mi rfl rfl rfl (Ops.mi rfl rfl rfl (Ops.n ?_)))))))))
  refine tQ (Cd.ret (ret1_i rfl ?_))
  exact ⟨by rw [hin]; rfl, rfl⟩
def chz (m : Nat) : Nat → Int
 | 0 => 1
 | i + 1 => chz m i * ((m : Int) - i) / ((i : Int) + 1)
/-! h-vectors, term by term -/
def hvE (f : List Int) (d k i p : Nat) : Int := pW (f.take k) d p + (if k ≤ p ∧ p - k < i then gi f (k : Int) * pDn (d - k) (p - k) else 0)
def hvL (f : List Int) (d k i : Nat) : List Int := (List.range (d + 1)).map (hvE f d k i)
theorem pDn_bd : ∀ (m n : Nat), -(2 ^ m : Int) ≤ pDn m n ∧ pDn m n ≤ 2 ^ m
 | 0, n => by unfold pDn p1; split <;> decide
 | m + 1, n => by
  have h1 := pDn_bd m n
  have e : (2 ^ (m + 1) : Int) = 2 ^ m + 2 ^ m := by rw [Int.pow_succ]; omega
  show -(2 ^ (m + 1) : Int) ≤ pDn m n - pX (pDn m) n ∧ pDn m n - pX (pDn m) n ≤ 2 ^ (m + 1)
  rw [e]
  have h0 : (0 : Int) ≤ 2 ^ m := Int.pow_nonneg (by decide)
  cases n with
  | zero => simp only [pX]; omega
  | succ n =>
   have h2 := pDn_bd m n
   simp only [pX]
   omega
theorem mul_bd {a b x y : Int} (ha : 0 ≤ a ∧ a ≤ b) (hx : -y ≤ x ∧ x ≤ y) : -(b * y) ≤ a * x ∧ a * x ≤ b * y := by
 have h1 : a * x ≤ a * y := Int.mul_le_mul_of_nonneg_left hx.2 ha.1
 have h2 : a * -y ≤ a * x := Int.mul_le_mul_of_nonneg_left hx.1 ha.1
 have h3 : a * y ≤ b * y := Int.mul_le_mul_of_nonneg_right ha.2 (by omega)
 rw [Int.mul_neg] at h2
 omega
theorem pow_le6 {m : Nat} (h : m ≤ 6) : (2 ^ m : Int) ≤ 64 := by
 have : ∀ m, m < 7 → (2 ^ m : Int) ≤ 64 := by decide
 exact this m (by omega)
def hvV (V : Int) (F : List (List Int)) : List Int := if Cplx V F then hP (fvP F) else []
def hvK (V : Int) (F : List (List Int)) : Int := if Cplx V F then 0 else 1
theorem EulerOfComplex_c (V : Int) (A : Option Addr) (n c : Nat) (rs : List SlV) (F : List (List Int)) (w : World) (hT : Tab w) (hR : RowsI w A n rs F) (hC : Cplx V F) :
  Ret Tryz.prog 10 [.agg #[.int .i64 V, .slice A n c]] w (fun v w' => v = .tuple #[.int .i64 (altS ((fvP F).drop 1)), .int .i64 0] ∧ St w w' []) := by
 have hFl := hR.len
 have hF4 := hC.f
 have h6 : ∀ f ∈ F, f.length ≤ 6 := fun f hf => (hC.row f hf).1.2
 have hd := dpt_bd h6
 refine Ret.of_cd Tryz.func10 rfl Tryz.ntmps10 rfl (post2 rfl) (Cd.seq (Cd.region (Ops.box2 (St.refl w) rfl rfl ?_)))
 intro Ab w1 hS1
 refine Ops.mi rfl rfl rfl (Ops.mi rfl rfl rfl (Ops.n (tQ (Cd.seq (Cd.seq (Cd.region (Ops.ld_agg 1 (hS1.rd 0 rfl) rfl rfl rfl (Ops.call (isComplex_c V A n c rs F _ (hT.later hS1.below) (hS1.oldRows hR) (by omega)) rfl rfl rfl ?_))))))))
 rintro _ w2 ⟨rfl, hst⟩
 have hS2 := hS1.later hst.below
 first | refine Ops.not_p rfl rfl ?_ | refine Ops.not rfl rfl ?_
 refine Ops.n (tQ ?_)
 refine Cd.cond_pf rfl (fun h => h hC) ?_
 refine Cd.skip (tQ (Cd.seq (Cd.region (Ops.call (fVector_c Ab V A n c rs F _ (hS2.rd 0 rfl) (hS2.oldRows hR) (by omega) h6) rfl rfl rfl ?_))))
 rintro _ w3 ⟨A4, c4, rfl, hst3⟩
 have hS3 := hS2.later hst3.below
 have hR3 : RdI w3 A4 (dpt F + 1) (fvP F) := hst3.rdI 0 rfl
 have hc4 : dpt F + 1 ≤ c4 := (hst3.cap 0 rfl).1
 refine Ops.cut_l (l := 1) rfl rfl rfl (by omega) ?_
 refine Ops.call (eulerOf_c _ _ _ ((fvP F).drop 1) _ (hR3.drop (l := 1) (by omega) hc4) (by omega) (fun x hx => fvP_bd (by omega) h6 x (List.mem_of_mem_drop hx))) rfl rfl rfl ?_
 rintro _ _ ⟨rfl, rfl⟩
 refine Ops.mi rfl rfl rfl (Ops.mi rfl rfl rfl (Ops.n (tQ (Cd.ret (ret2_ii rfl rfl ?_)))))
 exact ⟨rfl, hS3.none⟩
/-
 Joins of complexes and vectors, walked on both sides.
-/
def jcV (V : Int) (F : List (List Int)) (W : Int) (G : List (List Int)) : Int := if Cplx V F ∧ Cplx W G then jnV V F G else 0
def jcL (V : Int) (F : List (List Int)) (W : Int) (G : List (List Int)) : List (List Int) := if Cplx V F ∧ Cplx W G then jnLs V F G else []
def jcK (V : Int) (F : List (List Int)) (W : Int) (G : List (List Int)) : Int := if Cplx V F ∧ Cplx W G then jnK V F G else 1
theorem implJoin_c (V : Int) (A : Option Addr) (n c : Nat) (rs : List SlV) (F : List (List Int)) (W : Int) (B : Option Addr) (m d : Nat) (ts : List SlV) (G : List (List Int)) (w : World) (hT : Tab w) (hR : RowsI w A n rs F) (hQ : RowsI w B m ts G) (hn : n ≤ 9223372036854775807) (hm : m ≤ 9223372036854775807) :
  Ret Tryz.prog 15 [.agg #[.int .i64 V, .slice A n c], .agg #[.int .i64 W, .slice B m d]] w (AnsC (jcV V F W G) (jcL V F W G) (jcK V F W G) w) := by
 have hFl := hR.len
 have hGl := hQ.len
 refine Ret.of_cd Tryz.func15 rfl Tryz.ntmps15 rfl (postc2 rfl rfl) (Cd.seq (Cd.region (Ops.box2 (St.refl w) rfl rfl ?_)))
 intro A2 w1 hS1
 refine Ops.box2 hS1 rfl rfl ?_
 intro A3 w2 hS2
 refine Ops.new2 hS2 rfl ?_
 intro A4 w3 hS3
 have hS3 : St w w3 [cxZ A4, cxB A3 W B m d, cxB A2 V A n c] := hS3
 clear hS1 hS2
 refine Ops.mi rfl rfl rfl (Ops.n (tQ (Cd.seq (Cd.seq (Cd.region (Ops.ld_agg 1 (hS3.rd 2 rfl) rfl rfl rfl (Ops.call (isComplex_c V A n c rs F _ (hT.later hS3.below) (hS3.oldRows hR) hn) rfl rfl rfl ?_)))))))
 rintro _ w4 ⟨rfl, hst⟩
 have hS4 := hS3.later hst.below
 clear hS3
 unfold jcV jcL jcK
 first | refine Ops.not_p rfl rfl ?_ | refine Ops.not rfl rfl ?_
 refine Ops.mb rfl rfl rfl ?_
 refine Ops.split_p 9 rfl (fun h1 => ?_) (fun h1 => ?_)
 ·rw [if_neg (fun h => h1 h.1), if_neg (fun h => h1 h.1), if_neg (fun h => h1 h.1)]
  refine Ops.k rfl rfl rfl rfl rfl (Ops.k rfl rfl rfl rfl rfl (Ops.k rfl rfl rfl rfl rfl (Ops.pick_t rfl rfl rfl (Ops.n (tQ (Cd.cond_t rfl (Cd.seq (Cd.region (Ops.bldZ2 (by exact inferInstance) (by exact inferInstance) rfl rfl rfl ?_)))))))))
  refine Ops.st_agg 2 0 hS4 rfl rfl rfl rfl rfl rfl rfl ?_
  intro w9 hS9
  refine Ops.mi rfl rfl rfl (Ops.n (tQ (Cd.ret (thenQ_r ?_))))
  skip
  refine retc2_r rfl (hS9.rd 0 rfl) rfl ?_
  exact AnsC.none hS9
 have hF := Classical.not_not.1 h1
 refine Ops.g rfl rfl rfl (Ops.ld_agg 1 (hS4.rd 1 rfl) rfl rfl rfl (Ops.g rfl rfl rfl (Ops.call (isComplex_c W B m d ts G _ (hT.later hS4.below) (hS4.oldRows hQ) hm) rfl rfl rfl ?_)))
 rintro _ w5 ⟨rfl, hst⟩
 have hS5 := hS4.later hst.below
 clear hS4
 refine Ops.g rfl rfl rfl ?_
 first | refine Ops.not_p rfl rfl ?_ | refine Ops.not rfl rfl ?_
 refine Ops.pick_f rfl rfl rfl (Ops.n (tQ ?_))
 refine Cd.cond_p _ rfl (fun h2 => ?_) (fun h2 => ?_)
 ·rw [if_neg (fun h => h2 h.2), if_neg (fun h => h2 h.2), if_neg (fun h => h2 h.2)]
  refine Cd.seq (Cd.region (Ops.bldZ2 (by exact inferInstance) (by exact inferInstance) rfl rfl rfl (Ops.st_agg 2 0 hS5 rfl rfl rfl rfl rfl rfl rfl ?_)))
  intro w9 hS9
  refine Ops.mi rfl rfl rfl (Ops.n (tQ (Cd.ret (thenQ_r ?_))))
  skip
  refine retc2_r rfl (hS9.rd 0 rfl) rfl ?_
  exact AnsC.none hS9
 have hG := Classical.not_not.1 h2
 rw [if_pos ⟨hF, hG⟩, if_pos ⟨hF, hG⟩, if_pos ⟨hF, hG⟩]
 refine Cd.skip (tQ (Cd.seq (Cd.region (Ops.ld_agg 1 (hS5.rd 2 rfl) rfl rfl rfl ?_))))
 skip
 refine Ops.ld_agg 1 (hS5.rd 1 rfl) rfl rfl rfl ?_
 skip
 refine Ops.call (joined_c V A n c rs F W B m d ts G _ (hT.later hS5.below) (hS5.oldRows hR) (hS5.oldRows hQ) hF hG) rfl rfl rfl ?_
 rintro _ w6 ⟨A6, c6, rs6, rfl, hrl6, hst6⟩
 have hS6 := hS5.call2 hst6
 refine Ops.extract rfl rfl rfl (Ops.extract rfl rfl rfl (Ops.st_agg 2 0 hS6 rfl rfl rfl rfl rfl rfl rfl ?_))
 intro w7 hS7
 refine Ops.mi rfl rfl rfl (Ops.n (tQ (Cd.ret ?_)))
 skip
 refine retc2_r rfl (hS7.rd 0 rfl) rfl ?_
 exact ⟨A6, c6, rs6, rfl, hrl6, hS7.tail.tail.tail⟩
theorem l17Size_c (V : Int) (A : Option Addr) (n c : Nat) (rs : List SlV) (F : List (List Int)) (w : World) (hR : RowsI w A n rs F) (hn : n ≤ 1000) (h6 : ∀ f ∈ F, f.length ≤ 1000000) :
  Ret Tryz.prog 31 [.agg #[.int .i64 V, .slice A n c]] w (fun v w' => v = .int .i64 (dpt F : Int) ∧ St w w' []) := by
 have hFl := hR.len
 refine Ret.of_cd Tryz.func31 rfl Tryz.ntmps31 rfl (post1 rfl) (Cd.seq (Cd.region (Ops.box2 (St.refl w) rfl rfl ?_)))
 intro Ab w1 hS1
 have hS1 : St w w1 [cxB Ab V A n c] := hS1
 refine Ops.mi rfl rfl rfl (Ops.n (tQ (Cd.seq (Cd.region (Ops.mi rfl rfl rfl (Ops.n (tQ (Cd.seq (Cd.seq ?_)))))))))
 refine Cd.region (Ops.mi rfl rfl rfl (Ops.n (tQ (Cd.block ?_))))
 refine Cd.loop (α := Nat) (fun i => [(1, .pointer Ab), (3, .int .i64 ((dpt (F.take i) : Nat) : Int)), (4, .int .i64 (i : Int))]) (fun i w' => St w w' [cxB Ab V A n c] ∧ i ≤ n) (fun i => n - i) 0 ⟨rfl, rfl, rfl, trivial⟩ ⟨hS1, Nat.zero_le _⟩ ?_
 rintro i e w2 ⟨hS, hi⟩
 refine Cd.seq (Cd.seq (Cd.region (Ops.mi rfl rfl rfl (Ops.fld (hS.rd 0 rfl) rfl rfl rfl rfl inferInstance (Ops.ldf_s (hS.rd 0 rfl) rfl rfl rfl rfl rfl (Ops.len rfl rfl (Ops.lss rfl rfl rfl (Ops.n (tQ ?_)))))))))
 refine Cd.cond_p _ rfl (fun h3 => ?_) (fun h3 => ?_)
 ·have hiF : i < F.length := by omega
  have hM := hS.oldRows hR
  have hrow := hM.at_ (i := (i : Int)) (by omega) (by omega)
  have hrl0 := hrow.1
  refine Cd.skip (tQ (Cd.seq (Cd.block (Cd.region (Ops.mi rfl rfl rfl (Ops.fld (hS.rd 0 rfl) rfl rfl rfl rfl inferInstance (Ops.ldf_s (hS.rd 0 rfl) rfl rfl rfl rfl rfl (Ops.mi rfl rfl rfl (Ops.idx hM.top.2 rfl rfl rfl (by omega) (by omega) ?_)))))))))
  refine Ops.ld_sl hM.top rfl (by omega) rfl rfl (Ops.len rfl rfl (Ops.maxI rfl rfl rfl (Ops.mi rfl rfl rfl (Ops.n (blockQ_n (tQ (Cd.region (Ops.mi rfl rfl rfl (Ops.add rfl rfl rfl (by omega) ?_)))))))))
  refine Ops.mi rfl rfl rfl (Ops.n (tQ ?_))
  exact ⟨i + 1, by show n - (i + 1) < n - i; omega, ⟨rfl, by show Value.int .i64 _ = .int .i64 _; rw [dpt_succ hiF]; congr 1; omega, rfl, trivial⟩, hS, by omega⟩
 ·have hin : i = F.length := by omega
  refine Cd.exit (thenQ_x (thenQ_x (blockQ_x (tQ (Cd.seq (Cd.region (Ops.mi rfl rfl rfl (Ops.mi rfl rfl rfl (Ops.n ?_)))))))))
  refine tQ (Cd.ret (ret1_i rfl ?_))
  refine ⟨?_, hS.none⟩
  rw [hin, List.take_length]
/-! the reference's polynomial -/
def plH (f : List Int) (k : Nat) : List Int := (List.range k).map fun i => pW (f.take k) (k - 1) (k - 1 - i)
def nxE (p : List Int) (i j : Nat) : Int := (if 1 ≤ j ∧ j ≤ i then gi p ((j - 1 : Nat) : Int) else 0) - (if j < i then gi p (j : Int) else 0)
def nxL (p : List Int) (i : Nat) : List Int := (List.range (p.length + 1)).map (nxE p i)
/-
 Draws of two complexes; products of polynomials and sums, walked.
-/
section
variable {P : Program} {N : Nat} {ops : Array Oper} {K : Env → World → Prop} {rest : List Oper} {e : Env} {w0 w w' : World} {ks : List Ck} {d : Nat} {ty : TypeId} {pos : String} {af : Array Edge}
def retcc (a n u m : Nat) (R : Value → World → Prop) : Post
 | .normal, e, w => ∃ A f B g, e a = .pointer A ∧ Rd w A n f ∧ e u = .pointer B ∧ Rd w B m g ∧ R (.tuple #[.agg ((List.range n).map f).toArray, .agg ((List.range m).map g).toArray]) w
 | .ret, e, w => ∃ A f B g, e a = .pointer A ∧ Rd w A n f ∧ e u = .pointer B ∧ Rd w B m g ∧ R (.tuple #[.agg ((List.range n).map f).toArray, .agg ((List.range m).map g).toArray]) w
 | _, _, _ => False
end
/-! sums and products -/
theorem sumq_c (A : Option Addr) (n c : Nat) (f : List Int) (w : World) (hR : RdI w A n f) (hn : n ≤ 1000) (hb : ∀ i, i < n → -1000000000 ≤ gi f (i : Int) ∧ gi f (i : Int) ≤ 1000000000) :
  Ret Tryz.prog 17 [.slice A n c] w (fun v w' => v = .int .i64 (sumN n fun i => gi f (i : Int)) ∧ w' = w) := by
 have hfl := hR.1
 have hbd : ∀ k, k ≤ n → -1000000000000 ≤ sumN k (fun i => gi f (i : Int)) ∧ sumN k (fun i => gi f (i : Int)) ≤ 1000000000000 := fun k hk => by
  have h1 := sumN_bd (g := fun i => gi f (i : Int)) (b := 1000000000) (by omega) (n := k) fun i hi => hb i (by omega)
  have h2 : (k : Int) * 1000000000 ≤ 1000000000000 := by omega
  omega
 refine Ret.of_cd Tryz.func17 rfl Tryz.ntmps17 rfl (post1 rfl) (Cd.seq (Cd.region (Ops.mi rfl rfl rfl (Ops.n (tQ (Cd.seq (Cd.region (Ops.mi rfl rfl rfl (Ops.n ?_)))))))))
 refine tQ (Cd.seq (Cd.seq (Cd.region (Ops.mi rfl rfl rfl (Ops.n (tQ (Cd.block ?_)))))))
 refine Cd.loop (α := Nat) (fun i => [(0, .slice A n c), (3, .int .i64 (sumN i fun i => gi f (i : Int))), (4, .int .i64 (i : Int))]) (fun i w' => w' = w ∧ i ≤ n) (fun i => n - i) 0 ⟨rfl, rfl, rfl, trivial⟩ ⟨rfl, Nat.zero_le _⟩ ?_
 rintro i e w ⟨rfl, hi⟩
 have h0 := hbd i hi
 refine Cd.seq (Cd.seq (Cd.region (Ops.mi rfl rfl rfl (Ops.ms rfl rfl rfl (Ops.len rfl rfl (Ops.lss rfl rfl rfl (Ops.n (tQ ?_))))))))
 refine Cd.cond_p _ rfl (fun h3 => ?_) (fun h3 => ?_)
 ·have h1 := hbd (i + 1) (by omega)
  have h2 : sumN (i + 1) (fun i => gi f (i : Int)) = sumN i (fun i => gi f (i : Int)) + gi f (i : Int) := rfl
  refine Cd.skip (tQ (Cd.seq (Cd.block (Cd.region (Ops.mi rfl rfl rfl (Ops.ms rfl rfl rfl (Ops.mi rfl rfl rfl (Ops.idx hR.2 rfl rfl rfl (by omega) (by omega) (Ops.ld_int hR rfl (by omega) rfl rfl ?_)))))))))
  refine Ops.add rfl rfl rfl (by omega) (Ops.mi rfl rfl rfl (Ops.n (blockQ_n (tQ (Cd.region (Ops.mi rfl rfl rfl (Ops.add rfl rfl rfl (by omega) (Ops.mi rfl rfl rfl (Ops.n ?_)))))))))
  refine tQ ?_
  exact ⟨i + 1, by show n - (i + 1) < n - i; omega, ⟨rfl, rfl, rfl, trivial⟩, rfl, by omega⟩
 ·have hin : i = n := by omega
  subst hin
  refine Cd.exit (thenQ_x (thenQ_x (blockQ_x (tQ (Cd.seq (Cd.region (Ops.mi rfl rfl rfl (Ops.mi rfl rfl rfl (Ops.n ?_)))))))))
  refine tQ (Cd.ret (ret1_i rfl ?_))
  exact ⟨rfl, rfl⟩
def pdG (a b : List Int) (p i : Nat) : Int := a.getD i 0 * (if i ≤ p then b.getD (p - i) 0 else 0)
def pdE (a b : List Int) (i k p : Nat) : Int := sumN i (pdG a b p) + (if i ≤ p ∧ p - i < k then gi a (i : Int) * gi b ((p - i : Nat) : Int) else 0)
def pdL (a b : List Int) (i k : Nat) : List Int := (List.range (a.length + b.length - 1)).map (pdE a b i k)
/-
 The walk of the law FnVectors: it returns true. Conditions: the library's table of powers of ten holds what the program's text lays there.
-/
theorem jnK_cases (V : Int) (F G : List (List Int)) : jnK V F G = 0 ∨ jnK V F G = 3 := by
 unfold jnK
 split
 ·exact .inr rfl
 ·unfold cxK
  split
  ·exact .inr rfl
  ·exact .inl rfl
theorem jnLs_bd (V : Int) (F G : List (List Int)) : (jnLs V F G).length ≤ 1000 ∧ ∀ x ∈ jnLs V F G, x.length ≤ 1000 := by
 unfold jnLs
 split
 ·simp
 ·unfold cxL
  split
  ·simp
  ·rename_i h
   have h1 : ¬ (∃ l ∈ jnS V F G, 6 < l.length) := fun h' => h (.inl h')
   have h2 : (facP (jnS V F G)).length ≤ 400 := Nat.le_of_not_lt fun h' => h (.inr (.inr h'))
   unfold cxF
   refine ⟨by rw [List.length_map]; omega, fun x hx => ?_⟩
   obtain ⟨l, hl, rfl⟩ := List.mem_map.1 hx
   rw [List.length_map]
   have : ¬ 6 < l.length := fun h' => h1 ⟨l, (facP_mem.1 hl).1, h'⟩
   omega
/-
 The capacity of a slice, and zeros appended to nothing.
-/
section
variable {P : Program} {N : Nat} {ops : Array Oper} {K : Env → World → Prop} {rest : List Oper} {e : Env} {w0 w w' : World} {ks : List Ck} {d : Nat} {ty : TypeId} {pos : String} {af : Array Edge}
theorem Ops.cpc {x : Operand} {t el : TypeId} {A : Option Addr} {n c : Nat} [Und P t (.slice el)] (hx : ev e x = .slice A n c) (hb : Nat.blt d N = true) (hK : Ops P N ops K rest (upd e d (.int .i64 (c : Int))) w) :
  Ops P N ops K (⟨some d, .call ⟨.builtin .cap, #[x], #[t]⟩, ty, pos, af, none⟩ :: rest) e w :=
 .val (by simp [execOp, resolve, invoke, builtin, hx, Builtin.cap_, run_underlying (Und.out (P := P) (t := t)), goInt]) hb hK
theorem Ops.appZ {t tn el : TypeId} {kn : IntKind} {z : Value} {b : Nat} [hU : Und P t (.slice el)] [hN : Und P tn (.int kn)] [Inf P el z 1 b] {x y : Operand} {k : IntKind} (n : Nat) (h0 : 0 < n) (hS : St w0 w ks) (hx : ev e x = .slice none 0 0) (hy : ev e y = .int k (n : Int)) (hz : z.cells = #[z]) (hz1 : z.oneCell' = true) (hm : n ≤ maxLen) (hbytes : n * b ≤ 281474976710656) (hb : Nat.blt d N = true)
    (hK : ∀ A c w', n ≤ c → St w0 w' (⟨A, 0, c, el, []⟩ :: ks) → Ops P N ops K rest (upd e d (.slice A n c)) w') :
    Ops P N ops K (⟨some d, .call ⟨.builtin .append, #[x, y], #[t, tn]⟩, ty, pos, af, none⟩ :: rest) e w := by
  obtain ⟨inf, hi, hz0, hs, hby⟩ := Inf.get P el
  have hge := grownCap_ge w n 0 el
  have hle := grownCap_le_maxLen w n 0 el hm
  have hr := Go.Lib.run_append_nil_zeros (P := P) w t tn ty el inf z k kn hU.out hN.out hi hz0 n h0 (by omega) (by simp only [maxLen] at hm; omega) (by rw [hby]; exact hbytes)
  have hA := hS.drew.allocP (List.replicate (grownCap w n 0 el) z) el 0 (grownCap w n 0 el) (Nat.zero_le _) (by simp) hle (isM_rep _ hz1)
  have hzc : Builtin.zeroCells z.cells n ++ Builtin.zeroCells z.cells (grownCap w n 0 el - n) = (List.replicate (grownCap w n 0 el) z).toArray := by
    have gen : ∀ m, Builtin.zeroCells z.cells m = (List.replicate m z).toArray := fun m => by
      rw [hz]; simp only [Builtin.zeroCells]
      exact (show _ = _ from by have := madeCells_one z m; simpa [madeCells] using this)
    rw [gen, gen, List.append_toArray, List.replicate_append_replicate, Nat.add_sub_cancel' hge]
  rw [hzc] at hr
  refine .val (w' := w.drew.alloc (.cells (List.replicate (grownCap w n 0 el) z).toArray el)) ?_ hb (hK _ _ _ hge hA)
  simp [execOp, resolve, invoke, builtin, hx, hy, hr]
end
end Go.Proofs.YtiblelgfkakmiaaGreatDoor.Vc
/-
 Plain mathematics: spans over two elements, as numbers under xor; a span has one rank.
-/
namespace Go.Proofs.YtiblelgfkakmiaaGreatDoor.Vc
def sums : List Nat → List Nat
 | [] => [0]
 | b :: B => sums B ++ (sums B).map (b ^^^ ·)
theorem sums_len : ∀ B, (sums B).length = 2 ^ B.length
 | [] => rfl
 | b :: B => by simp [sums, sums_len B, Nat.pow_succ]; omega
theorem sums_zero : ∀ B, 0 ∈ sums B
 | [] => by simp [sums]
 | b :: B => by simp only [sums, List.mem_append]; exact .inl (sums_zero B)
theorem xor_cancel (a b : Nat) : a ^^^ (a ^^^ b) = b := by rw [← Nat.xor_assoc, Nat.xor_self, Nat.zero_xor]
theorem mem_sums {b v : Nat} {B : List Nat} : v ∈ sums (b :: B) ↔ v ∈ sums B ∨ b ^^^ v ∈ sums B := by
 simp only [sums, List.mem_append, List.mem_map]
 constructor
 ·rintro (h | ⟨u, h, rfl⟩)
  ·exact .inl h
  ·exact .inr (by rw [xor_cancel]; exact h)
 ·rintro (h | h)
  ·exact .inl h
  ·exact .inr ⟨_, h, xor_cancel _ _⟩
theorem sums_xor : ∀ {B : List Nat} {u v : Nat}, u ∈ sums B → v ∈ sums B → u ^^^ v ∈ sums B
 | [], u, v, hu, hv => by
  simp only [sums, List.mem_singleton] at hu hv ⊢
  subst hu hv; rfl
 | b :: B, u, v, hu, hv => by
  rw [mem_sums] at hu hv ⊢
  rcases hu with hu | hu <;> rcases hv with hv | hv
  ·exact .inl (sums_xor hu hv)
  ·right
   have := sums_xor hu hv
   rwa [← Nat.xor_assoc, Nat.xor_comm u b, Nat.xor_assoc] at this
  ·right
   have := sums_xor hu hv
   rwa [Nat.xor_assoc] at this
  ·left
   have := sums_xor hu hv
   rwa [Nat.xor_comm b u, Nat.xor_assoc, xor_cancel] at this
theorem sums_self : ∀ {B : List Nat} {b : Nat}, b ∈ B → b ∈ sums B
 | a :: B, b, h => by
  rw [mem_sums]
  rcases List.mem_cons.1 h with rfl | h
  ·exact .inr (by rw [Nat.xor_self]; exact sums_zero B)
  ·exact .inl (sums_self h)
theorem sums_le {S : Nat → Prop} (h0 : S 0) (hx : ∀ u v, S u → S v → S (u ^^^ v)) : ∀ {B : List Nat}, (∀ b ∈ B, S b) → ∀ v ∈ sums B, S v
 | [], _, v, h => by simp only [sums, List.mem_singleton] at h; subst h; exact h0
 | b :: B, hb, v, h => by
  rw [mem_sums] at h
  rcases h with h | h
  ·exact sums_le h0 hx (fun x hx => hb x (List.mem_cons_of_mem _ hx)) v h
  ·have h1 := sums_le h0 hx (fun x hx => hb x (List.mem_cons_of_mem _ hx)) _ h
   have h2 := hx _ _ (hb b (by simp)) h1
   rwa [xor_cancel] at h2
theorem sums_sub {B C : List Nat} (h : ∀ b ∈ B, b ∈ sums C) : ∀ v ∈ sums B, v ∈ sums C := sums_le (sums_zero C) (fun _ _ => sums_xor) h
theorem sums_mono {B C : List Nat} (h : ∀ b ∈ B, b ∈ C) : ∀ v ∈ sums B, v ∈ sums C := sums_sub fun b hb => sums_self (h b hb)
def Eqs (B C : List Nat) : Prop := ∀ v, v ∈ sums B ↔ v ∈ sums C
theorem Eqs.of {B C : List Nat} (h1 : ∀ b ∈ B, b ∈ sums C) (h2 : ∀ b ∈ C, b ∈ sums B) : Eqs B C := fun v => ⟨sums_sub h1 v, sums_sub h2 v⟩
theorem Eqs.refl (B : List Nat) : Eqs B B := fun _ => .rfl
theorem Eqs.trans {A B C : List Nat} (h : Eqs A B) (h' : Eqs B C) : Eqs A C := fun v => (h v).trans (h' v)
theorem Eqs.symm {A B : List Nat} (h : Eqs A B) : Eqs B A := fun v => (h v).symm
theorem Eqs.mem {B C : List Nat} (h : ∀ v, v ∈ B ↔ v ∈ C) : Eqs B C := .of (fun b hb => sums_self ((h b).1 hb)) (fun b hb => sums_self ((h b).2 hb))
theorem sums_nodup {b : Nat} {B : List Nat} (hB : (sums B).Nodup) (hb : b ∉ sums B) : (sums (b :: B)).Nodup := by
 rw [sums, List.nodup_append]
 refine ⟨hB, ?_, ?_⟩
 ·rw [List.Nodup, List.pairwise_map]
  refine hB.imp fun {u v} h e => h ?_
  have := congrArg (b ^^^ ·) e
  simpa only [xor_cancel] using this
 ·rintro u hu v hv rfl
  obtain ⟨x, hx, rfl⟩ := List.mem_map.1 hv
  have := sums_xor hu hx
  rw [Nat.xor_assoc, Nat.xor_self, Nat.xor_zero] at this
  exact hb this
def IsRk (L : List Nat) (r : Nat) : Prop := ∃ B, B.length = r ∧ (sums B).Nodup ∧ Eqs L B
theorem IsRk.eq {L : List Nat} {r s : Nat} (h : IsRk L r) (h' : IsRk L s) : r = s := by
 obtain ⟨B, rfl, hB, hE⟩ := h
 obtain ⟨C, rfl, hC, hF⟩ := h'
 have hEF := hE.symm.trans hF
 have h1 := sub_len _ _ hB fun x hx => (hEF x).1 hx
 have h2 := sub_len _ _ hC fun x hx => (hEF x).2 hx
 rw [sums_len, sums_len] at h1 h2
 have h3 : 2 ^ B.length = 2 ^ C.length := by omega
 rcases Nat.lt_trichotomy B.length C.length with h | h | h
 ·have := Nat.pow_lt_pow_right (a := 2) (by omega) h; omega
 ·exact h
 ·have := Nat.pow_lt_pow_right (a := 2) (by omega) h; omega
theorem IsRk.congr {L M : List Nat} {r : Nat} (h : IsRk L r) (e : Eqs M L) : IsRk M r := by
 obtain ⟨B, hl, hB, hE⟩ := h
 exact ⟨B, hl, hB, e.trans hE⟩
def Stp : List Nat → Prop
 | [] => True
 | b :: B => (∃ p, b.testBit p = true ∧ ∀ x ∈ B, x.testBit p = false) ∧ Stp B
theorem Stp.nodup : ∀ {B : List Nat}, Stp B → (sums B).Nodup
 | [], _ => by simp [sums]
 | b :: B, ⟨⟨p, hp, hB⟩, h⟩ => by
  refine sums_nodup h.nodup fun hb => ?_
  have := sums_le (S := fun v => v.testBit p = false) (by simp) (fun u v hu hv => by simp [Nat.testBit_xor, hu, hv]) hB b hb
  rw [this] at hp; cases hp
def Top (v t : Nat) : Prop := v.testBit t = true ∧ ∀ j, t < j → v.testBit j = false
theorem Top.eq {v s t : Nat} (h : Top v s) (h' : Top v t) : s = t := by
 rcases Nat.lt_trichotomy s t with hl | e | hl
 ·have := h.2 t hl; rw [h'.1] at this; cases this
 ·exact e
 ·have := h'.2 s hl; rw [h.1] at this; cases this
theorem Top.ne {v t : Nat} (h : Top v t) : v ≠ 0 := by rintro rfl; simp [Top] at h
theorem Top.xor {u v s t : Nat} (h : Top u s) (h' : Top v t) (hl : s < t) : Top (u ^^^ v) t := by
 refine ⟨by rw [Nat.testBit_xor, h.2 t hl, h'.1]; rfl, fun j hj => ?_⟩
 rw [Nat.testBit_xor, h.2 j (by omega), h'.2 j hj]; rfl
theorem top_sums : ∀ {B : List (Nat × Nat)}, (∀ p ∈ B, Top p.2 p.1) → (B.map (·.1)).Nodup → ∀ v ∈ sums (B.map (·.2)), v ≠ 0 → ∃ t ∈ B.map (·.1), Top v t
 | [], _, _, v, hv, hne => by simp [sums] at hv; exact absurd hv hne
 | p :: B, hT, hn, v, hv, hne => by
  simp only [List.map_cons, List.nodup_cons] at hn
  rw [List.map_cons, mem_sums] at hv
  have hT' : ∀ q ∈ B, Top q.2 q.1 := fun q hq => hT q (List.mem_cons_of_mem _ hq)
  rcases hv with hv | hv
  ·obtain ⟨t, ht, h⟩ := top_sums hT' hn.2 v hv hne
   exact ⟨t, List.mem_cons_of_mem _ ht, h⟩
  ·by_cases e : p.2 ^^^ v = 0
   ·have e2 : v = p.2 := by
     have := congrArg (p.2 ^^^ ·) e
     simpa only [xor_cancel, Nat.xor_zero] using this
    exact ⟨p.1, by simp, by rw [e2]; exact hT p (by simp)⟩
   ·obtain ⟨t, ht, h⟩ := top_sums hT' hn.2 _ hv e
    have hpt : p.1 ≠ t := fun e => hn.1 (by rw [e]; exact ht)
    have hp := hT p (by simp)
    have e3 : v = p.2 ^^^ (p.2 ^^^ v) := (xor_cancel _ _).symm
    rcases Nat.lt_or_gt_of_ne hpt with hl | hl
    ·exact ⟨t, by simp [ht], by rw [e3]; exact hp.xor h hl⟩
    ·exact ⟨p.1, by simp, by rw [e3, Nat.xor_comm]; exact h.xor hp hl⟩
theorem top_nodup : ∀ {B : List (Nat × Nat)}, (∀ p ∈ B, Top p.2 p.1) → (B.map (·.1)).Nodup → (sums (B.map (·.2))).Nodup
 | [], _, _ => by simp [sums]
 | p :: B, hT, hn => by
  simp only [List.map_cons, List.nodup_cons] at hn
  rw [List.map_cons]
  refine sums_nodup (top_nodup (fun q hq => hT q (List.mem_cons_of_mem _ hq)) hn.2) fun hb => ?_
  obtain ⟨t, ht, h⟩ := top_sums (fun q hq => hT q (List.mem_cons_of_mem _ hq)) hn.2 _ hb (hT p (by simp)).ne
  exact hn.1 (by rw [(hT p (by simp)).eq h]; exact ht)
/-
 Plain mathematics of complexes: pure ones, and the faces with one element less than facets.
-/
theorem fcs_iff' {F : List (List Int)} (hne : F ≠ []) {k : Nat} {x : List Int} : x ∈ fcs F k ↔ (∃ f ∈ F, x.Sublist f) ∧ x.length = k := by
 rw [fcs_mem, faL_mem]
 constructor
 ·rintro (⟨h0, rfl⟩ | ⟨_, f, hf, h1, h2⟩)
  ·match F, hne with
   | f :: _, _ => exact ⟨⟨f, by simp, List.nil_sublist f⟩, h0.symm⟩
  ·exact ⟨⟨f, hf, h1⟩, h2⟩
 ·rintro ⟨⟨f, hf, h1⟩, h2⟩
  by_cases h : k = 0
  ·exact .inl ⟨h, List.eq_nil_of_length_eq_zero (by omega)⟩
  ·exact .inr ⟨by omega, f, hf, h1, h2⟩
def Pure (F : List (List Int)) : Prop := ∀ f ∈ F, f.length = dpt F
instance (F : List (List Int)) : Decidable (Pure F) := by unfold Pure; exact inferInstance
theorem Pure.first {F : List (List Int)} : Pure F ↔ ∀ f ∈ F, f.length = (gl F 0).length := by
 match F with
 | [] => simp [Pure]
 | a :: r =>
  have e : gl (a :: r) 0 = a := rfl
  rw [e]
  constructor
  ·intro h f hf
   rw [h f hf, h a (by simp)]
  ·intro h f hf
   obtain ⟨g, hg, h1⟩ := dpt_ex (F := a :: r) (by simp)
   rw [← h1, h f hf, h g hg]
/-! faces told with the facets that have them, in the order in which they are met -/
def rdS (R : List (List Int × List Int)) (q : List Int × Int) : List (List Int × List Int) :=
 if q.1 ∈ R.map (·.1) then R.map fun p => if p.1 = q.1 then (p.1, p.2 ++ [q.2]) else p else R ++ [(q.1, [q.2])]
def rdF (Q : List (List Int × Int)) : List (List Int × List Int) := Q.foldl rdS []
theorem rdF_snoc (Q : List (List Int × Int)) (q : List Int × Int) : rdF (Q ++ [q]) = rdS (rdF Q) q := by simp [rdF, List.foldl_append]
theorem rdS_keys (R : List (List Int × List Int)) (q : List Int × Int) : (rdS R q).map (·.1) = if q.1 ∈ R.map (·.1) then R.map (·.1) else R.map (·.1) ++ [q.1] := by
 unfold rdS
 split
 ·rw [List.map_map]
  refine List.map_congr_left fun p _ => ?_
  show (if p.1 = q.1 then (p.1, p.2 ++ [q.2]) else p).1 = p.1
  split <;> rfl
 ·simp
theorem rdF_inv : ∀ (n : Nat) (Q : List (List Int × Int)), Q.length = n → ((rdF Q).map (·.1)).Nodup ∧ (∀ x, x ∈ (rdF Q).map (·.1) ↔ ∃ i, (x, i) ∈ Q) ∧ ∀ p ∈ rdF Q, p.2 = (Q.filter fun q => decide (q.1 = p.1)).map (·.2)
 | 0, Q, h => by
  obtain rfl := List.eq_nil_of_length_eq_zero h
  simp [rdF]
 | n + 1, Q, h => by
  obtain ⟨Q0, q, rfl⟩ : ∃ Q0 q, Q = Q0 ++ [q] := ⟨Q.dropLast, Q.getLast (fun e => by rw [e] at h; simp at h), (List.dropLast_concat_getLast _).symm⟩
  obtain ⟨h1, h2, h3⟩ := rdF_inv n Q0 (by simpa using h)
  rw [rdF_snoc, rdS_keys]
  refine ⟨?_, ?_, ?_⟩
  ·split
   ·exact h1
   ·rename_i hq
    refine List.nodup_append.2 ⟨h1, by simp, fun a ha b hb e => hq ?_⟩
    obtain rfl : b = q.1 := by simpa using hb
    rw [← e]; exact ha
  ·intro x
   have key : (∃ i, (x, i) ∈ Q0 ++ [q]) ↔ (∃ i, (x, i) ∈ Q0) ∨ x = q.1 := by
    constructor
    ·rintro ⟨i, hi⟩
     rcases List.mem_append.1 hi with hi | hi
     ·exact .inl ⟨i, hi⟩
     ·have : (x, i) = q := by simpa using hi
      exact .inr (by rw [← this])
    ·rintro (⟨i, hi⟩ | rfl)
     ·exact ⟨i, List.mem_append_left _ hi⟩
     ·exact ⟨q.2, by simp⟩
   rw [key]
   split
   ·rename_i hq
    rw [h2]
    constructor
    ·exact .inl
    ·rintro (h | rfl)
     ·exact h
     ·exact (h2 _).1 hq
   ·rw [List.mem_append, h2]; simp
  ·intro p hp
   rw [List.filter_append, List.map_append]
   unfold rdS at hp
   by_cases hq : q.1 ∈ (rdF Q0).map (·.1)
   ·rw [if_pos hq] at hp
    obtain ⟨p0, hp0, rfl⟩ := List.mem_map.1 hp
    have := h3 p0 hp0
    by_cases e : p0.1 = q.1
    ·rw [if_pos e]
     show p0.2 ++ [q.2] = (Q0.filter fun q => decide (q.1 = p0.1)).map (·.2) ++ _
     rw [this]
     congr 1
     simp [e]
    ·rw [if_neg e]
     rw [this]
     have e2 : ¬ q.1 = p0.1 := fun h => e h.symm
     simp [e2]
   ·rw [if_neg hq] at hp
    rcases List.mem_append.1 hp with hp | hp
    ·have := h3 p hp
     rw [this]
     have e2 : ¬ q.1 = p.1 := fun h => hq (by rw [h]; exact List.mem_map.2 ⟨p, hp, rfl⟩)
     simp [e2]
    ·obtain rfl : p = (q.1, [q.2]) := by simpa using hp
     have e0 : Q0.filter (fun r => decide (r.1 = q.1)) = [] := by
      rw [List.filter_eq_nil_iff]
      intro r hr h
      exact hq ((h2 _).2 ⟨r.2, by rw [← of_decide_eq_true h]; exact hr⟩)
     show [q.2] = (Q0.filter fun r => decide (r.1 = q.1)).map (·.2) ++ _
     rw [e0]; simp
def sqR (F : List (List Int)) (i : Nat) : List (List Int × Int) := (List.range i).flatMap fun k : Nat => (ptsP (gl F (k : Int)) ((gl F (k : Int)).length - 1)).map fun x => (x, (k : Int))
def sqJ (F : List (List Int)) (i j : Nat) : List (List Int × Int) := sqR F i ++ ((ptsP (gl F (i : Int)) ((gl F (i : Int)).length - 1)).take j).map fun x => (x, (i : Int))
theorem sqJ_zero (F : List (List Int)) (i : Nat) : sqJ F i 0 = sqR F i := by simp [sqJ]
theorem sqJ_all (F : List (List Int)) (i : Nat) : sqJ F i (ptsP (gl F (i : Int)) ((gl F (i : Int)).length - 1)).length = sqR F (i + 1) := by
 unfold sqJ sqR
 rw [List.take_length, List.range_succ, List.flatMap_append]; simp
theorem sqJ_succ {F : List (List Int)} {i j : Nat} (h : j < (ptsP (gl F (i : Int)) ((gl F (i : Int)).length - 1)).length) : sqJ F i (j + 1) = sqJ F i j ++ [(gl (ptsP (gl F (i : Int)) ((gl F (i : Int)).length - 1)) (j : Int), (i : Int))] := by
 unfold sqJ
 rw [take_succ_gl h, List.map_append, List.append_assoc]; rfl
def rdgs (F : List (List Int)) : List (List Int × List Int) := rdF (sqR F F.length)
def hasI (F : List (List Int)) (x : List Int) : List Int := ((List.range F.length).filter fun k : Nat => decide (Ins x (gl F (k : Int)))).map fun k : Nat => (k : Int)
theorem mem_sqR {F : List (List Int)} {n : Nat} {x : List Int} {i : Int} : (x, i) ∈ sqR F n ↔ ∃ k : Nat, k < n ∧ i = k ∧ x.Sublist (gl F (k : Int)) ∧ x.length = (gl F (k : Int)).length - 1 := by
 unfold sqR
 rw [List.mem_flatMap]
 constructor
 ·rintro ⟨k, hk, h⟩
  obtain ⟨y, hy, e⟩ := List.mem_map.1 h
  obtain ⟨rfl, rfl⟩ : y = x ∧ (k : Int) = i := by simpa using e
  exact ⟨k, List.mem_range.1 hk, rfl, ptsP_mem.1 hy⟩
 ·rintro ⟨k, hk, rfl, h⟩
  exact ⟨k, List.mem_range.2 hk, List.mem_map.2 ⟨x, ptsP_mem.2 h, rfl⟩⟩
theorem rdgs_mem {V : Int} {F : List (List Int)} (hc : Cplx V F) (hp : Pure F) {x : List Int} : x ∈ (rdgs F).map (·.1) ↔ x ∈ fcs F (dpt F - 1) ∧ F ≠ [] := by
 rw [rdgs, (rdF_inv _ _ rfl).2.1]
 simp only [mem_sqR]
 constructor
 ·rintro ⟨i, k, hk, rfl, h1, h2⟩
  have hm : gl F (k : Int) ∈ F := by rw [gl_mem hk]; exact List.getElem_mem _
  have hne : F ≠ [] := fun e => by rw [e] at hk; simp at hk
  refine ⟨(fcs_iff' hne).2 ⟨⟨_, hm, h1⟩, by rw [h2, hp _ hm]⟩, hne⟩
 ·rintro ⟨h, hne⟩
  obtain ⟨⟨f, hf, h1⟩, h2⟩ := (fcs_iff' hne).1 h
  obtain ⟨k, hk, rfl⟩ := List.mem_iff_getElem.1 hf
  exact ⟨(k : Int), k, hk, rfl, by rw [gl_mem hk]; exact h1, by rw [gl_mem hk, h2, hp _ hf]⟩
theorem rdgs_nums {V : Int} {F : List (List Int)} (hc : Cplx V F) (hp : Pure F) {p : List Int × List Int} (h : p ∈ rdgs F) : p.2 = hasI F p.1 := by
 have h1 := (rdF_inv _ _ rfl).2.2 p h
 have hk : p.1 ∈ (rdgs F).map (·.1) := List.mem_map.2 ⟨p, h, rfl⟩
 obtain ⟨hk, hne⟩ := (rdgs_mem hc hp).1 hk
 have hl := fcs_len hk
 have hs := fcs_sa (fun f hf => (hc.row f hf).2.1) hk
 rw [h1]
 unfold hasI
 generalize p.1 = x at *
 have key : ∀ n, n ≤ F.length → ((sqR F n).filter fun q => decide (q.1 = x)).map (·.2) = ((List.range n).filter fun k : Nat => decide (Ins x (gl F (k : Int)))).map fun k : Nat => (k : Int) := by
  intro n
  induction n with
  | zero => intro _; rfl
  | succ n ih =>
   intro hn
   have hm : gl F (n : Int) ∈ F := by rw [gl_mem (by omega)]; exact List.getElem_mem _
   have hrow := hc.row _ hm
   have e : sqR F (n + 1) = sqR F n ++ (ptsP (gl F (n : Int)) ((gl F (n : Int)).length - 1)).map fun y => (y, (n : Int)) := by
    unfold sqR
    rw [List.range_succ, List.flatMap_append]; simp
   rw [e, List.filter_append, List.map_append, ih (by omega), List.range_succ, List.filter_append, List.map_append]
   congr 1
   have hnd := (ptsP_SL (k := (gl F (n : Int)).length - 1) hrow.2.1).nodup
   by_cases hi : Ins x (gl F (n : Int))
   ·have hx : x ∈ ptsP (gl F (n : Int)) ((gl F (n : Int)).length - 1) := ptsP_mem.2 ⟨Ins.sub hs hrow.2.1 hi, by rw [hl, hp _ hm]⟩
    rw [List.filter_map, List.map_map]
    have e2 : (ptsP (gl F (n : Int)) ((gl F (n : Int)).length - 1)).filter ((fun q => decide (q.1 = x)) ∘ fun y => (y, (n : Int))) = [x] := by
     have h3 : ∀ l : List (List Int), l.Nodup → x ∈ l → l.filter (fun y => decide (y = x)) = [x] := by
      intro l
      induction l with
      | nil => intro _ h; cases h
      | cons a r ih =>
       intro hn h
       rw [List.nodup_cons] at hn
       by_cases e : a = x
       ·subst e
        rw [List.filter_cons_of_pos (by simp)]
        congr 1
        rw [List.filter_eq_nil_iff]
        intro y hy h
        exact hn.1 (by rw [← of_decide_eq_true h]; exact hy)
       ·rw [List.filter_cons_of_neg (by simpa using e)]
        exact ih hn.2 ((List.mem_cons.1 h).resolve_left fun h => e h.symm)
     exact h3 _ hnd hx
    rw [e2]
    simp [hi]
   ·have e2 : ((ptsP (gl F (n : Int)) ((gl F (n : Int)).length - 1)).map fun y => (y, (n : Int))).filter (fun q => decide (q.1 = x)) = [] := by
     rw [List.filter_eq_nil_iff]
     intro q hq h
     obtain ⟨y, hy, rfl⟩ := List.mem_map.1 hq
     have : y = x := of_decide_eq_true h
     subst this
     exact hi (Ins.of_sub (ptsP_mem.1 hy).1)
    rw [e2]
    simp [hi]
 exact key F.length (Nat.le_refl _)
def bdS (F : List (List Int)) : List (List Int) := (fcs F (dpt F - 1)).filter fun x => decide ((hasI F x).length % 2 = 1)
def bdR (F : List (List Int)) : List (List Int) := ((rdgs F).filter fun p => decide (p.2.length % 2 = 1)).map (·.1)
theorem bdR_mem {V : Int} {F : List (List Int)} (hc : Cplx V F) (hp : Pure F) (x : List Int) : x ∈ bdR F ↔ x ∈ bdS F := by
 unfold bdR bdS
 rw [List.mem_map, List.mem_filter]
 constructor
 ·rintro ⟨p, hp1, rfl⟩
  obtain ⟨h1, h2⟩ := List.mem_filter.1 hp1
  have h3 := (rdgs_mem hc hp).1 (List.mem_map.2 ⟨p, h1, rfl⟩)
  rw [rdgs_nums hc hp h1] at h2
  exact ⟨h3.1, h2⟩
 ·rintro ⟨h1, h2⟩
  have hne : F ≠ [] := fun e => by
   subst e
   have := of_decide_eq_true h2; simp [hasI] at this
  obtain ⟨p, hp1, rfl⟩ := List.mem_map.1 ((rdgs_mem hc hp).2 ⟨h1, hne⟩)
  exact ⟨p, List.mem_filter.2 ⟨hp1, by rw [rdgs_nums hc hp hp1]; exact h2⟩, rfl⟩
end Go.Proofs.YtiblelgfkakmiaaGreatDoor.Vc
