/-
  The texts Rk2, Rk3, Rk4, Rk5, Ptr, Co34, Drs, Co35, El1, El2, El4, El5, El6, E6, Rk7, Rk8, Rk9, Pm1, Pm2, Co36, Pm3 in one. Conditions: as each part states them.
-/
import Derived.Test.YtiblelgfkakmiaaGreatDoorZg
import Derived.Test.YtiblelgfkakmiaaGreatDoorZf
import Derived.Test.YtiblelgfkakmiaaGreatDoorZe
import Derived.Test.YtiblelgfkakmiaaGreatDoorZd
import Derived.Test.YtiblelgfkakmiaaGreatDoorZb
import Derived.Test.YtiblelgfkakmiaaGreatDoorZa
import Derived.Test.YtiblelgfkakmiaaGreatDoorZc
/-
 Plain mathematics: lists of numbers as sets modulo two, boundaries of faces, their matrix.
-/
namespace Go.Proofs.YtiblelgfkakmiaaGreatDoor.Vc
def mkb (l : List Int) : Nat := l.foldr (fun e a => 2 ^ e.toNat ^^^ a) 0
theorem mkb_cons (a : Int) (l : List Int) : mkb (a :: l) = 2 ^ a.toNat ^^^ mkb l := rfl
theorem mkb_append : ∀ (a b : List Int), mkb (a ++ b) = mkb a ^^^ mkb b
 | [], b => by simp [mkb]
 | x :: a, b => by rw [List.cons_append, mkb_cons, mkb_cons, mkb_append a b, Nat.xor_assoc]
def odS (out : List Int) (e : Int) : List Int := if out.getLast? = some e then out.dropLast else out ++ [e]
def oddP (l : List Int) : List Int := l.foldl odS []
theorem oddP_snoc (l : List Int) (e : Int) : oddP (l ++ [e]) = odS (oddP l) e := by simp [oddP]
theorem getLast_snoc {l : List Int} {e : Int} (h : l.getLast? = some e) : l = l.dropLast ++ [e] := by
 have hne : l ≠ [] := fun h' => by rw [h'] at h; cases h
 rw [List.getLast?_eq_some_getLast hne] at h
 injection h with h
 rw [← h]; exact (List.dropLast_concat_getLast hne).symm
def OkX (x : List Int) : Prop := SA x ∧ ∀ e ∈ x, 0 ≤ e
def stX (x y : List Int) : List Int := oddP (srt (x ++ y))
def numF (G : List (List Int)) : List (ByteArray × Int) := (List.range G.length).map fun (i : Nat) => (keyB (gl G (i : Int)), (i : Int))
theorem nodup_at {G : List (List Int)} (hn : G.Nodup) {i j : Nat} (hi : i < G.length) (hj : j < G.length) (h : gl G (i : Int) = gl G (j : Int)) : i = j := by
 rw [gl_mem hi, gl_mem hj] at h
 exact (List.getElem_inj hn).1 h
def nmb (G : List (List Int)) (x : List Int) : Int := (getA (numF G) (keyB x)).getD 0
def bdN (G : List (List Int)) (x : List Int) : List Int := (ptsP x (x.length - 1)).map (nmb G)
def rwB (G : List (List Int)) (x : List Int) : List Int := G.map fun y => if Ins y x then 1 else 0
def rowM : List Int → Nat
 | [] => 0
 | a :: l => (if a = 1 then 1 else 0) + 2 * rowM l
end Go.Proofs.YtiblelgfkakmiaaGreatDoor.Vc
/-
 Lists modulo two and lists joined, walked.
-/
namespace Go.Proofs.YtiblelgfkakmiaaGreatDoor.Vc
open Go.RowKit
/-
 A chain's boundary made small, walked.
-/
section
variable {P : Program} {N : Nat} {ops : Array Oper} {K : Env → World → Prop} {rest : List Oper} {e : Env} {w0 w w' : World} {ks : List Ck} {d : Nat} {ty : TypeId} {pos : String} {af : Array Edge}
end
abbrev KE := Int × (SlV × List Int)
def redV (u : SlV × List Int) : Value := .agg #[.slice none 0 0, .slice u.1.a u.1.n u.1.c]
def KpE (b : Nat) (p : KE) : Prop := (OkX p.2.2 ∧ ∀ e ∈ p.2.2, e < b) ∧ p.2.2.getLast? = some p.1
def spK (M : List KE) : List Nat := M.map fun p => mkb p.2.2
def muX (x : List Int) : Nat := match x.getLast? with | some t => t.toNat + 1 | none => 0
abbrev bxR (A : Option Addr) (s : SlV) : Ck := Bx 111 2 A [.slice none 0 0, .slice s.a s.n s.c]
theorem mem_rd {w0 w : World} {ks : List Ck} {t : TypeId} {A : Option Addr} {n c : Nat} {xs : List Int} (h : St w0 w ks) (hm : CkI t A n c xs ∈ ks) : RdI w A n xs := by
 obtain ⟨i, hi⟩ := List.mem_iff_getElem?.1 hm
 exact h.rdI i hi
/-
 The rank of faces' boundaries, walked in the program.
-/
section
variable {P : Program} {N : Nat} {ops : Array Oper} {K : Env → World → Prop} {rest : List Oper} {e : Env} {w0 w w' : World} {ks : List Ck} {d : Nat} {ty : TypeId} {pos : String} {af : Array Edge}
end
def matF (F : List (List Int)) (k : Nat) : List Nat := (fcs F (k + 1)).map fun x => rowM (rwB (fcs F k) x)
abbrev stK (g2 g1 : Nat) (M : List KE) (G : List (List Int)) (Y : List Ck) : List Ck := CkM 109 g2 (prV (Value.int .i64) redV M) :: CkM 95 g1 (prV Value.string (Value.int .i64) (numF G)) :: Y
/-
 Rows of pointers, and pointers compared with none.
-/
section
variable {P : Program} {N : Nat} {ops : Array Oper} {K : Env → World → Prop} {rest : List Oper} {e : Env} {w0 w w' : World} {ks : List Ck} {d : Nat} {ty : TypeId} {pos : String} {af : Array Edge}
theorem Ops.eqNilP {t t' el : TypeId} [Und P t (.pointer el)] {x y : Operand} {A : Option Addr} (hx : ev e x = .pointer A) (hy : ev e y = .pointer none) (hb : Nat.blt d N = true) (hK : Ops P N ops K rest (upd e d (.bool A.isNone)) w) :
  Ops P N ops K (⟨some d, .binOp .eql t x y t', ty, pos, af, none⟩ :: rest) e w := by
 have hr : (Op.equal t (.pointer A) (.pointer none)).run P w = .ok A.isNone w := by
  show (Op.equalIn (9999 + 1) t (.pointer A) (.pointer none)).run P w = _
  rw [Op.equalIn]
  cases A <;> simp [run_underlying (Und.out (P := P) (t := t))]
 exact .val (by simp [execOp, hx, hy, eqGuard, binOp, hr]) hb hK
theorem Ops.lookP {κ : Type} [DecidableEq κ] {kd : TypeDesc} {kv : κ → Value} {t kt et : TypeId} {b : Nat} [Und P t (.map kt et)] [Und P kt kd] [Inf P et (.pointer none) 1 b] (KT : KeyT kd kv) {g : Nat} {L : List (κ × Option Addr)} {m ix : Operand} (x : κ) (hR : RdM w g (prV kv Value.pointer L)) (hx : ev e m = .map (some g)) (hy : ev e ix = kv x) (hb : Nat.blt d N = true)
    (hK : Ops P N ops K rest (upd e d (.pointer ((getA L x).getD none))) w) : Ops P N ops K (⟨some d, .lookup t m ix false, ty, pos, af, none⟩ :: rest) e w :=
  .look KT hR hx hy (by cases getA L x <;> rfl) hb hK
theorem Ops.lookP' {κ : Type} [DecidableEq κ] {kd : TypeDesc} {kv : κ → Value} {t kt et : TypeId} {b : Nat} [Und P t (.map kt et)] [Und P kt kd] [Inf P et (.pointer none) 1 b] (KT : KeyT kd kv) {g : Nat} {L : List (κ × Option Addr)} {m ix : Operand} (x : κ) {p : Option Addr} (hp : getA L x = some p) (hR : RdM w g (prV kv Value.pointer L)) (hx : ev e m = .map (some g)) (hy : ev e ix = kv x) (hb : Nat.blt d N = true)
    (hK : Ops P N ops K rest (upd e d (.pointer p)) w) : Ops P N ops K (⟨some d, .lookup t m ix false, ty, pos, af, none⟩ :: rest) e w :=
  .look KT hR hx hy (by rw [hp]; rfl) hb hK
end
abbrev CkP (t : TypeId) (A : Option Addr) (n c : Nat) (ps : List (Option Addr)) : Ck := ⟨A, n, c, t, ps.map Value.pointer⟩
theorem isM_P (ps : List (Option Addr)) : isM (ps.map Value.pointer) = false := isM_all fun v hv => by obtain ⟨_, _, rfl⟩ := List.mem_map.1 hv; rfl
def RdP (w : World) (A : Option Addr) (n : Nat) (ps : List (Option Addr)) : Prop := ps.length = n ∧ Rd w A n fun j => .pointer (ps.getD j none)
theorem St.rdP {w0 w : World} {ks : List Ck} {t : TypeId} {A : Option Addr} {n c : Nat} {ps : List (Option Addr)} (h : St w0 w ks) (i : Nat) (hk : ks[i]? = some (CkP t A n c ps)) : RdP w A n ps := by
 have hl : ps.length = n := by have := (h.getC hk (isM_P ps)).1; simpa [CkP] using this
 refine ⟨hl, (h.rd i hk).congr fun j hj => ?_⟩
 have hj : j < n := hj
 show (ps.map Value.pointer).getD j undef = _
 simp [List.getD_eq_getElem?_getD, List.getElem?_eq_getElem (show j < ps.length by omega)]
theorem map_range_P {ps : List (Option Addr)} {n : Nat} (h : ps.length = n) : ((List.range n).map fun j => Value.pointer (ps.getD j none)) = ps.map Value.pointer := by
 subst h
 apply List.ext_getElem
 ·simp
 ·intro j h1 h2
  have hj : j < ps.length := by simpa using h2
  simp [List.getD_eq_getElem?_getD, List.getElem?_eq_getElem hj]
section
variable {P : Program} {N : Nat} {ops : Array Oper} {K : Env → World → Prop} {rest : List Oper} {e : Env} {w0 w w' : World} {ks : List Ck} {d : Nat} {ty : TypeId} {pos : String} {af : Array Edge}
theorem Ops.appP {t el : TypeId} {z : Value} {b : Nat} [hU : Und P t (.slice el)] [Inf P el z 1 b] {x y : Operand} (i : Nat) {A : Option Addr} {n c : Nat} {ps : List (Option Addr)} {A' : Option Addr} {m c' : Nat} {qs : List (Option Addr)} (hS : St w0 w ks) (hk : ks[i]? = some (CkP el A n c ps)) (hR : RdP w A' m qs) (hx : ev e x = .slice A n c) (hy : ev e y = .slice A' m c') {z0 : Value} (hz : z.cells = #[z0])
    (h63 : n + m ≤ 9223372036854775807) (hbytes : (n + m) * b ≤ 140737488355328) (hb : Nat.blt d N = true)
    (hK : ∀ A2 c2 w', St w0 w' (ks.set i (CkP el A2 (n + m) c2 (ps ++ qs))) → Ops P N ops K rest (upd e d (.slice A2 (n + m) c2)) w') :
    Ops P N ops K (⟨some d, .call ⟨.builtin .append, #[x, y], #[t, t]⟩, ty, pos, af, none⟩ :: rest) e w :=
  .app i hS hk hR.2 hx hy rfl hz (fun _ _ => rfl) (by simpa [maxLen] using h63) hbytes hb (fun A2 c2 w' h => hK A2 c2 w' (by
    rw [map_range_P hR.1] at h
    simpa [CkP] using h)) (isM_P _)
end
/-
 The faces with one element less than facets, walked in the program.
-/
structure RV where
 P : Option Addr
 s : SlV
 x : List Int
 B : Option Addr
 c : Nat
 ns : List Int
def RV.pr (r : RV) : List Int × List Int := (r.x, r.ns)
def RV.bx (r : RV) : Ck := Bx 57 2 r.P [.slice r.s.a r.s.n r.s.c, .slice r.B r.ns.length r.c]
def RV.fa (r : RV) : Ck := CkI 2 r.B r.ns.length r.c r.ns
def RV.ck (r : RV) : List Ck := [r.bx, r.fa]
def RV.row (r : RV) : Ck := CkI 2 r.s.a r.s.n r.s.c r.x
def mpR (rvs : List RV) : List (ByteArray × Option Addr) := rvs.map fun r => (keyB r.x, r.P)
abbrev cksR (A : Option Addr) (c g : Nat) (rvs : List RV) (X : List Ck) : List Ck := CkP 55 A rvs.length c (rvs.map (·.P)) :: CkM 86 g (prV Value.string Value.pointer (mpR rvs)) :: (rvs.flatMap RV.ck ++ X)
theorem getA_mp : ∀ {rvs : List RV} {x : List Int} {p : Option Addr}, getA (mpR rvs) (keyB x) = some p → ∃ pre r post, rvs = pre ++ r :: post ∧ r.x = x ∧ r.P = p
 | [], _, _, h => by cases h
 | r :: rest, x, p, h => by
  unfold mpR at h
  simp only [List.map_cons, getA] at h
  by_cases e : keyB r.x = keyB x
  ·rw [if_pos e] at h
   exact ⟨[], r, rest, rfl, keyB_inj e, Option.some.inj h⟩
  ·rw [if_neg e] at h
   obtain ⟨pre, q, post, h1, h2, h3⟩ := getA_mp (rvs := rest) h
   exact ⟨r :: pre, q, post, by rw [h1]; rfl, h2, h3⟩
theorem getA_mp_none : ∀ {rvs : List RV} {x : List Int}, getA (mpR rvs) (keyB x) = none → ∀ r ∈ rvs, r.x ≠ x
 | [], _, _ => by simp
 | r :: rest, x, h => by
  unfold mpR at h
  simp only [List.map_cons, getA] at h
  by_cases e : keyB r.x = keyB x
  ·rw [if_pos e] at h; cases h
  ·rw [if_neg e] at h
   intro q hq
   rcases List.mem_cons.1 hq with rfl | hq
   ·exact fun h => e (by rw [h])
   ·exact getA_mp_none (rvs := rest) h q hq
theorem getA_mp_at {pre post : List RV} {r : RV} (h : ∀ q ∈ pre, q.x ≠ r.x) : getA (mpR (pre ++ r :: post)) (keyB r.x) = some r.P := by
 induction pre with
 | nil => simp [mpR, getA]
 | cons a t ih =>
  unfold mpR at ih ⊢
  simp only [List.cons_append, List.map_cons, getA]
  rw [if_neg fun e => h a (by simp) (keyB_inj e)]
  exact ih fun q hq => h q (by simp [hq])
theorem putA_mp {rvs : List RV} {r : RV} (h : ∀ q ∈ rvs, q.x ≠ r.x) : putA (mpR rvs) (keyB r.x) r.P = mpR (rvs ++ [r]) := by
 induction rvs with
 | nil => rfl
 | cons a t ih =>
  unfold mpR at ih ⊢
  simp only [List.cons_append, List.map_cons, putA]
  rw [if_neg fun e => h a (by simp) (keyB_inj e), ih fun q hq => h q (by simp [hq])]
theorem perm4 {a b m p : Ck} {U V : List Ck} : (a :: b :: m :: p :: (U ++ V)).Perm (p :: m :: (U ++ (a :: b :: V))) := by
 have h1 : ([a, b] ++ [m, p]).Perm ([p, m] ++ [a, b]) := (List.perm_append_comm (l₁ := [a, b])).trans ((List.Perm.swap p m []).append_right [a, b])
 refine (h1.append_right (U ++ V)).trans ?_
 show (p :: m :: (a :: b :: (U ++ V))).Perm _
 refine List.Perm.cons _ (List.Perm.cons _ ?_)
 refine (List.Perm.cons a (List.perm_middle (a := b) (l₁ := U) (l₂ := V)).symm).trans ?_
 exact (List.perm_middle (a := a) (l₁ := U) (l₂ := b :: V)).symm
theorem rdS_len (R : List (List Int × List Int)) (q : List Int × Int) : (rdS R q).length ≤ R.length + 1 := by
 unfold rdS; split <;> simp
theorem rdF_len : ∀ (n : Nat) (Q : List (List Int × Int)), Q.length = n → (rdF Q).length ≤ n
 | 0, Q, h => by obtain rfl := List.eq_nil_of_length_eq_zero h; simp [rdF]
 | n + 1, Q, h => by
  obtain ⟨Q0, q, rfl⟩ : ∃ Q0 q, Q = Q0 ++ [q] := ⟨Q.dropLast, Q.getLast (fun e => by rw [e] at h; simp at h), (List.dropLast_concat_getLast _).symm⟩
  have := rdF_len n Q0 (by simpa using h)
  have := rdS_len (rdF Q0) q
  rw [rdF_snoc]; omega
theorem sqR_len {F : List (List Int)} (h6 : ∀ f ∈ F, f.length ≤ 6) : ∀ i, i ≤ F.length → (sqR F i).length ≤ 64 * i
 | 0, _ => by simp [sqR]
 | i + 1, h => by
  have h1 := sqR_len h6 i (by omega)
  have h2 := ptsP_small (l := gl F (i : Int)) ((gl F (i : Int)).length - 1) (h6 _ (by rw [gl_mem (by omega)]; exact List.getElem_mem _))
  have e : sqR F (i + 1) = sqR F i ++ (ptsP (gl F (i : Int)) ((gl F (i : Int)).length - 1)).map fun y => (y, (i : Int)) := by
   unfold sqR
   rw [List.range_succ, List.flatMap_append]; simp
  rw [e, List.length_append, List.length_map]; omega
theorem rdF_ns {Q : List (List Int × Int)} {p : List Int × List Int} (h : p ∈ rdF Q) : p.2.length ≤ Q.length := by
 rw [(rdF_inv _ _ rfl).2.2 p h, List.length_map]
 exact List.length_filter_le _ _
theorem rdS_at {pre post : List RV} {r : RV} {i : Int} (h1 : ∀ q ∈ pre, q.x ≠ r.x) (h2 : ∀ q ∈ post, q.x ≠ r.x) : rdS ((pre ++ r :: post).map RV.pr) (r.x, i) = pre.map RV.pr ++ (r.x, r.ns ++ [i]) :: post.map RV.pr := by
 have hk : r.x ∈ ((pre ++ r :: post).map RV.pr).map (·.1) := List.mem_map.2 ⟨r.pr, List.mem_map.2 ⟨r, by simp, rfl⟩, rfl⟩
 have key : ∀ l : List RV, (∀ q ∈ l, q.x ≠ r.x) → (l.map RV.pr).map (fun p => if p.1 = r.x then (p.1, p.2 ++ [i]) else p) = l.map RV.pr := fun l h => by
  rw [List.map_map]
  exact List.map_congr_left fun q hq => if_neg (h q hq)
 unfold rdS
 rw [if_pos hk, List.map_append, List.map_cons, List.map_append, List.map_cons, key pre h1, key post h2]
 congr 2
 exact if_pos rfl
theorem rdS_new {rvs : List RV} {x : List Int} {i : Int} (h : ∀ q ∈ rvs, q.x ≠ x) : rdS (rvs.map RV.pr) (x, i) = rvs.map RV.pr ++ [(x, [i])] := by
 unfold rdS
 rw [if_neg]
 intro hk
 obtain ⟨p, hp, e⟩ := List.mem_map.1 hk
 obtain ⟨r, hr, rfl⟩ := List.mem_map.1 hp
 exact h r hr e
theorem Rd.some_of {w : World} {A : Option Addr} {n : Nat} {f : Nat → Value} (h : Rd w A n f) (hn : 0 < n) : A.isNone = false := by
 obtain ⟨p, hp, _⟩ := h 0 hn
 cases A with
 | none => simp [ptrAt] at hp
 | some q => rfl
def AnsR4 (R : List (List Int × List Int)) (w : World) (v : Value) (w' : World) : Prop := ∃ (A : Option Addr) (c : Nat) (rvs : List RV) (X : List Ck), v = .slice A rvs.length c ∧ rvs.map RV.pr = R ∧ (∀ r ∈ rvs, r.row ∈ X) ∧ St w w' (CkP 55 A rvs.length c (rvs.map (·.P)) :: (rvs.flatMap RV.ck ++ X))
set_option maxHeartbeats 2000000 in
theorem ridges_c (Pc : Option Addr) (V : Int) (A : Option Addr) (n c : Nat) (rs : List SlV) (F : List (List Int)) (w : World) (hT : Tab w) (hP : Rd w Pc 2 (fun j => [Value.int .i64 V, .slice A n c].getD j undef)) (hR : RowsI w A n rs F) (hC : Cplx V F) :
    Ret Tryz.prog 38 [.pointer Pc] w (AnsR4 (rdgs F) w) := by
  have hFl := hR.len
  have hF4 := hC.f
  have hf6 : ∀ f ∈ F, f.length ≤ 6 := fun f hf => (hC.row f hf).1.2
  refine Ret.of_cd Tryz.func38 rfl Tryz.ntmps38 rfl (post1 rfl) (Cd.seq (Cd.region (Ops.ms rfl rfl rfl (Ops.n (tQ (Cd.seq (Cd.region (Ops.ms rfl rfl rfl (Ops.n ?_)))))))))
  refine tQ (Cd.seq (Cd.region (Ops.mkmap (St.refl w) rfl ?_)))
  intro g w1 hS1
  refine Ops.mv_map rfl rfl rfl (Ops.n (tQ (Cd.seq (Cd.seq (Cd.region (Ops.mv_ptr rfl rfl rfl (Ops.nilp (hS1.old hP) (by omega) rfl rfl ?_)))))))
  skip
  refine Ops.fld (hS1.old hP) rfl rfl rfl rfl inferInstance ?_
  skip
  refine Ops.ldf_s (hS1.old hP) rfl rfl rfl rfl rfl (Ops.len rfl rfl (Ops.mi rfl rfl rfl (Ops.n (tQ (Cd.block ?_)))))
  have hS2 : St w w1 (cksR none 0 g [] []) := hS1.nil 55
  refine Cd.loop (α := Nat × (Option Addr × Nat) × List RV × List Ck) (fun z => [(3, .slice z.2.1.1 z.2.2.1.length z.2.1.2), (4, .map (some g)), (14, .slice A n c), (15, .int .i64 (n : Int)), (16, .int .i64 (z.1 : Int))])
    (fun z w' => z.1 ≤ n ∧ z.2.2.1.map RV.pr = rdF (sqR F z.1) ∧ (∀ r ∈ z.2.2.1, r.row ∈ z.2.2.2) ∧ St w w' (cksR z.2.1.1 z.2.1.2 g z.2.2.1 z.2.2.2)) (fun z => n - z.1) (0, (none, 0), [], []) ⟨rfl, rfl, rfl, rfl, rfl, trivial⟩ ⟨Nat.zero_le _, rfl, (fun _ h => by cases h), hS2⟩ ?_
  clear hS2 hS1
  rintro ⟨i, ⟨A3, c3⟩, rvs, X⟩ e w2 ⟨hi, hpr, hrow, hS⟩
  dsimp only at hi hpr hrow hS ⊢
  refine Cd.seq (Cd.region (Ops.lss rfl rfl rfl (Ops.n (tQ (Cd.seq ?_)))))
  refine Cd.cond_p _ rfl (fun h1 => ?_) (fun h1 => ?_)
  · have hiF : i < F.length := by omega
    have hM := hS.oldRows hR
    have hr0 := hM.at_ (i := (i : Int)) (by omega) (by omega)
    have hcap := hM.cap_ (i := (i : Int)) (by omega) (by omega)
    have hrl := hr0.1
    have hfr := hC.at_ hiF
    refine Cd.skip (tQ (Cd.seq (Cd.block (Cd.seq (Cd.region (Ops.mi rfl rfl rfl (Ops.idx hM.top.2 rfl rfl rfl (by omega) (by omega) (Ops.ld_sl hM.top rfl (by omega) rfl rfl (Ops.mi rfl rfl rfl ?_)))))))))
    refine Ops.ms rfl rfl rfl (Ops.n (tQ (Cd.seq (Cd.region (Ops.ms rfl rfl rfl (Ops.ms rfl rfl rfl (Ops.call (sizeI_c _ _ _ _) rfl rfl rfl ?_)))))))
    rintro _ w2 ⟨rfl, rfl⟩
    refine Ops.sub rfl rfl rfl (by omega) ?_
    refine Ops.call (partsOf_c ((gl F (i : Int)).length - 1) _ _ _ (gl F (i : Int)) _ hr0 hcap.1 (by omega) (by omega)) rfl (by show [_, Value.int .i64 (((rg rs (i : Int)).n : Int) - 1)] = _; congr 3; omega) rfl ?_
    rintro _ w3 ⟨A25, c25, rs25, rfl, hrl25, hT3⟩
    have hN6 : ∀ x ∈ ptsP (gl F (i : Int)) ((gl F (i : Int)).length - 1), x.length ≤ 6 ∧ ∀ y ∈ x, -9223372036854775808 ≤ y ∧ y ≤ 9223372036854775807 := fun x hx => by
      have h1 := (ptsP_mem.1 hx).1
      have h2 := h1.length_le
      exact ⟨by omega, fun y hy => by have := hfr.2.2 y (h1.subset hy); have := hC.v; omega⟩
    have hNl := ptsP_small (l := gl F (i : Int)) ((gl F (i : Int)).length - 1) hfr.1.2
    have hsl := sqR_len hf6 i (by omega)
    have hj0 := sqJ_zero F i
    have hjn := sqJ_all F i
    have hjs := fun j => sqJ_succ (F := F) (i := i) (j := j)
    have hjl : ∀ j, (sqJ F i j).length ≤ 64 * i + 64 := fun j => by
      unfold sqJ
      rw [List.length_append, List.length_map, List.length_take]; omega
    rw [← hj0] at hpr
    generalize hN : ptsP (gl F (i : Int)) ((gl F (i : Int)).length - 1) = N at *
    have hS3 : St w w3 (cksR A3 c3 g rvs (X ++ (CkR 28 A25 N.length c25 rs25 :: rowsCk 2 rs25 N))) := by
      have h := hS.call2 hT3
      rw [List.append_nil] at h
      unfold cksR at h ⊢
      rw [← List.append_assoc]
      exact h
    have hin : ∀ k ∈ CkR 28 A25 N.length c25 rs25 :: rowsCk 2 rs25 N, k ∈ X ++ (CkR 28 A25 N.length c25 rs25 :: rowsCk 2 rs25 N) := fun k hk => List.mem_append_right _ hk
    have hrow3 : ∀ r ∈ rvs, r.row ∈ X ++ (CkR 28 A25 N.length c25 rs25 :: rowsCk 2 rs25 N) := fun r hr => List.mem_append_left _ (hrow r hr)
    generalize hX : X ++ (CkR 28 A25 N.length c25 rs25 :: rowsCk 2 rs25 N) = Y at *
    clear hS hrow hT3 hM hr0
    refine Ops.len rfl rfl (Ops.mi rfl rfl rfl (Ops.n (tQ (Cd.block ?_))))
    refine Cd.loop (α := Nat × (Option Addr × Nat) × List RV) (fun z => [(3, .slice z.2.1.1 z.2.2.length z.2.1.2), (4, .map (some g)), (5, .int .i64 (i : Int)), (14, .slice A n c), (15, .int .i64 (n : Int)), (16, .int .i64 (i : Int)), (25, .slice A25 N.length c25), (26, .int .i64 (N.length : Int)), (27, .int .i64 (z.1 : Int))])
      (fun z w' => z.1 ≤ N.length ∧ z.2.2.map RV.pr = rdF (sqJ F i z.1) ∧ (∀ r ∈ z.2.2, r.row ∈ Y) ∧ St w w' (cksR z.2.1.1 z.2.1.2 g z.2.2 Y)) (fun z => N.length - z.1) (0, (A3, c3), rvs) ⟨rfl, rfl, rfl, rfl, rfl, rfl, rfl, rfl, rfl, trivial⟩ ⟨Nat.zero_le _, hpr, hrow3, hS3⟩ ?_
    clear hS3 hrow3 hpr
    rintro ⟨j, ⟨A3, c3⟩, rvs⟩ e w4 ⟨hj, hpr, hrow, hS⟩
    dsimp only at hj hpr hrow hS ⊢
    refine Cd.seq (Cd.region (Ops.lss rfl rfl rfl (Ops.n (tQ (Cd.seq ?_)))))
    refine Cd.cond_p _ rfl (fun h2 => ?_) (fun h2 => ?_)
    · have hjN : j < N.length := by omega
      have hY : ∀ k ∈ Y, ∃ q, (cksR A3 c3 g rvs Y)[q]? = some k := fun k hk => List.mem_iff_getElem?.1 (List.mem_cons_of_mem _ (List.mem_cons_of_mem _ (List.mem_append_right _ hk)))
      obtain ⟨q0, hq0⟩ := hY _ (hin _ (List.mem_cons_self))
      have hR25 : RdR w4 A25 N.length rs25 := hS.rdR q0 hq0
      have hrowj : CkI 2 (rg rs25 (j : Int)).a (rg rs25 (j : Int)).n (rg rs25 (j : Int)).c (gl N (j : Int)) ∈ Y := hin _ (List.mem_cons_of_mem _ (List.mem_iff_getElem?.2 ⟨j, rowsCk_get hrl25 (by omega)⟩))
      obtain ⟨q1, hq1⟩ := hY _ hrowj
      have hface : RdI w4 (rg rs25 (j : Int)).a (rg rs25 (j : Int)).n (gl N (j : Int)) := hS.rdI q1 hq1
      have hx6 := hN6 (gl N (j : Int)) (by rw [gl_mem hjN]; exact List.getElem_mem _)
      have hfl := hface.1
      have hsucc := hjs j hjN
      have hrvl : rvs.length ≤ 64 * i + 64 := by
        have h3 := rdF_len _ (sqJ F i j) rfl
        have h4 := congrArg List.length hpr
        rw [List.length_map] at h4
        have := hjl j
        omega
      have hnsl : ∀ r ∈ rvs, r.ns.length ≤ 64 * i + 64 := fun r hr => by
        have h3 := rdF_ns (Q := sqJ F i j) (p := r.pr) (by rw [← hpr]; exact List.mem_map.2 ⟨r, hr, rfl⟩)
        have := hjl j
        have e : r.pr.2 = r.ns := rfl
        rw [e] at h3
        omega
      have hnd : (rvs.map (·.x)).Nodup := by
        have h3 := (rdF_inv _ (sqJ F i j) rfl).1
        rw [← hpr, List.map_map] at h3
        exact h3
      have hnext : rdF (sqJ F i (j + 1)) = rdS (rvs.map RV.pr) (gl N (j : Int), (i : Int)) := by rw [hsucc, rdF_snoc, hpr]
      generalize gl N (j : Int) = x at *
      refine Cd.skip (tQ (Cd.seq (Cd.block (Cd.seq (Cd.region (Ops.idx hR25.2 rfl rfl rfl (by omega) (by omega) (Ops.ld_sl hR25 rfl (by omega) rfl rfl (Ops.ms rfl rfl rfl (Ops.n ?_)))))))))
      refine tQ (Cd.seq (Cd.region (Ops.ms rfl rfl rfl (Ops.call (keyOf_c _ _ _ x _ (hT.later hS.below) hface hx6.2 (by omega)) rfl rfl rfl ?_))))
      rintro _ w5 ⟨rfl, hst⟩
      have hS5 := hS.later hst.below
      clear hS hR25 hface hst
      refine Ops.mv_str rfl rfl rfl (Ops.n (tQ ?_))
      refine Cd.join (α := (Option Addr × Nat) × List RV × RV × List RV) (fun z => [(3, .slice z.1.1 (z.2.1 ++ z.2.2.1 :: z.2.2.2).length z.1.2), (4, .map (some g)), (5, .int .i64 (i : Int)), (9, .string (keyB x)), (14, .slice A n c), (15, .int .i64 (n : Int)), (16, .int .i64 (i : Int)), (25, .slice A25 N.length c25), (26, .int .i64 (N.length : Int)), (27, .int .i64 (j : Int))])
        (fun z w' => z.2.2.1.x = x ∧ z.2.2.1.ns.length ≤ 64 * i + 64 ∧ (∀ r ∈ z.2.1 ++ z.2.2.1 :: z.2.2.2, r.row ∈ Y) ∧ (∀ q ∈ z.2.1, q.x ≠ x) ∧ z.2.1.map RV.pr ++ (x, z.2.2.1.ns ++ [(i : Int)]) :: z.2.2.2.map RV.pr = rdF (sqJ F i (j + 1)) ∧ St w w' (cksR z.1.1 z.1.2 g (z.2.1 ++ z.2.2.1 :: z.2.2.2) Y)) ?_ ?_
      · refine Cd.seq (Cd.region (Ops.mv_map rfl rfl rfl (Ops.mv_str rfl rfl rfl (Ops.lookP keyS (keyB x) (hS5.rdM 1 rfl) rfl rfl rfl (Ops.eqNilP rfl rfl rfl (Ops.n (tQ ?_)))))))
        cases hg : getA (mpR rvs) (keyB x) with
        | none => --dup 2
          have hnew := getA_mp_none hg
          refine Cd.cond_t rfl (Cd.seq (Cd.region (Ops.mv_map rfl rfl rfl (Ops.mv_str rfl rfl rfl (Ops.ms rfl rfl rfl (Ops.bldF2 (by exact inferInstance) (by exact inferInstance) rfl rfl rfl rfl rfl (Ops.box2 hS5 rfl rfl ?_)))))))
          intro P w6 hS6
          refine Ops.upm rfl keyS 2 (u := P) (a := keyB x) hS6 rfl rfl rfl rfl ?_
          intro w7 hS7
          have hput : putA (mpR rvs) (keyB x) P = mpR (rvs ++ [⟨P, rg rs25 (j : Int), x, none, 0, []⟩]) := putA_mp (r := ⟨P, rg rs25 (j : Int), x, none, 0, []⟩) hnew
          have hgt : getA (putA (mpR rvs) (keyB x) P) (keyB x) = some P := by rw [getA_put, if_pos rfl]
          refine Ops.n (tQ (Cd.region (Ops.ms rfl rfl rfl (Ops.mv_map rfl rfl rfl (Ops.mv_str rfl rfl rfl (Ops.lookP' keyS (keyB x) hgt (hS7.rdM 2 rfl) rfl rfl rfl (Ops.bs1 hS7 rfl rfl rfl rfl ?_)))))))
          intro A46 w8 hS8
          have hP8 : RdP w8 A46 1 [P] := St.rdP (show St w w8 (CkP 55 A46 1 1 [P] :: _) from hS8) 0 rfl
          refine Ops.appP 2 hS8 rfl hP8 rfl rfl rfl (by omega) (by omega) rfl ?_
          intro A47 c47 w9 hS9
          refine Ops.ms rfl rfl rfl (Ops.n (tQ ?_))
          refine ⟨((A47, c47), rvs, ⟨P, rg rs25 (j : Int), x, none, 0, []⟩, []), ⟨by show Value.slice A47 (rvs.length + 1) c47 = .slice A47 (rvs ++ [_]).length c47; simp, rfl, rfl, rfl, rfl, rfl, rfl, rfl, rfl, rfl, trivial⟩, rfl, Nat.zero_le _, fun r hr => ?_, hnew, by show rvs.map RV.pr ++ [(x, [] ++ [(i : Int)])] = _; rw [hnext, rdS_new hnew]; rfl, ?_⟩
          · rcases List.mem_append.1 hr with hr | hr
            · exact hrow r hr
            · obtain rfl : r = ⟨P, rg rs25 (j : Int), x, none, 0, []⟩ := by simpa using hr
              exact hrowj
          · have h9 := (St.tail hS9).nil 2
            show St w w9 (CkP 55 A47 (rvs ++ [(⟨P, rg rs25 (j : Int), x, none, 0, []⟩ : RV)]).length c47 ((rvs ++ [(⟨P, rg rs25 (j : Int), x, none, 0, []⟩ : RV)]).map (·.P)) :: CkM 86 g (prV Value.string Value.pointer (mpR (rvs ++ [(⟨P, rg rs25 (j : Int), x, none, 0, []⟩ : RV)]))) :: ((rvs ++ [(⟨P, rg rs25 (j : Int), x, none, 0, []⟩ : RV)]).flatMap RV.ck ++ Y))
            rw [← hput, List.length_append, List.map_append, List.flatMap_append, List.append_assoc]
            exact h9.perm ((List.Perm.swap _ _ _).trans (((List.Perm.swap _ _ _).cons _).cons _) |>.trans perm4)
        | some p =>
          obtain ⟨pre, r, post, rfl, hrx, hrP⟩ := getA_mp hg
          have hrm : r ∈ pre ++ r :: post := by simp
          obtain ⟨q, hq⟩ := List.mem_iff_getElem?.1 (show r.bx ∈ cksR A3 c3 g (pre ++ r :: post) Y from List.mem_cons_of_mem _ (List.mem_cons_of_mem _ (List.mem_append_left _ (List.mem_flatMap.2 ⟨r, hrm, by simp [RV.ck]⟩))))
          have hpn : p.isNone = false := by rw [← hrP]; exact Rd.some_of (hS5.rd q hq) (by show 0 < 2; omega)
          have hnp : (∀ a ∈ pre, a.x ≠ r.x) ∧ ∀ a ∈ post, a.x ≠ r.x := by
            rw [List.map_append, List.map_cons, List.nodup_append, List.nodup_cons] at hnd
            exact ⟨fun a ha h => hnd.2.2 a.x (List.mem_map.2 ⟨a, ha, rfl⟩) r.x (by simp) h, fun a ha h => hnd.2.1.1 (by rw [← h]; exact List.mem_map.2 ⟨a, ha, rfl⟩)⟩
          refine Cd.cond_f (by show Value.bool p.isNone = .bool false; rw [hpn]) ?_
          refine Cd.skip (tQ ?_)
          exact ⟨((A3, c3), pre, r, post), ⟨rfl, rfl, rfl, rfl, rfl, rfl, rfl, rfl, rfl, rfl, trivial⟩, hrx, hnsl r hrm, hrow, fun a ha => by rw [← hrx]; exact hnp.1 a ha, by show pre.map RV.pr ++ (x, r.ns ++ [(i : Int)]) :: post.map RV.pr = _; rw [hnext, ← hrx]; exact (rdS_at hnp.1 hnp.2).symm, hS5⟩
      clear hS5 hnsl hrvl hnd hnext hpr hrow
      rintro ⟨⟨A3, c3⟩, pre, r, post⟩ e w6 ⟨hrx, hnl, hrow, hpre, hpr, hS6⟩
      dsimp only at hrx hnl hrow hpre hpr hS6 ⊢
      have hget : getA (mpR (pre ++ r :: post)) (keyB x) = some r.P := by rw [← hrx]; exact getA_mp_at fun q hq => by rw [hrx]; exact hpre q hq
      have hB : St w w6 (r.bx :: r.fa :: CkM 86 g (prV Value.string Value.pointer (mpR (pre ++ r :: post))) :: CkP 55 A3 (pre ++ r :: post).length c3 ((pre ++ r :: post).map (·.P)) :: (pre.flatMap RV.ck ++ (post.flatMap RV.ck ++ Y))) := by
        refine hS6.perm ?_
        show (CkP _ _ _ _ _ :: CkM _ _ _ :: ((pre ++ r :: post).flatMap RV.ck ++ Y)).Perm _
        rw [List.flatMap_append, List.flatMap_cons, List.append_assoc, List.append_assoc]
        exact perm4.symm
      clear hS6
      skip
      refine Cd.drawN [11, 14] [.ex (.map (some g)), .ex (.string (keyB x)), .ex (.pointer (r.P)), .ex (.map (some g)), .ex (.string (keyB x)), .ex (.pointer (r.P)), .ex (.pointer (r.P)), .ex (.pointer (ptrAt r.P 1)), .ex (.slice (r.B) (r.ns.length) (r.c)), .ex (.int .i64 ((i : Int))), .pr (fun v w' => ∃ A9, v = .slice A9 1 1 ∧ RdI w' A9 1 [(i : Int)]), .pr (fun v w' => ∃ A5 c5, v = .slice A5 (r.ns.length + 1) c5 ∧ St w w' (r.bx :: CkI 2 A5 (r.ns.length + 1) c5 (r.ns ++ [(i : Int)]) :: CkM 86 g (prV Value.string Value.pointer (mpR (pre ++ r :: post))) :: CkP 55 A3 (pre ++ r :: post).length c3 ((pre ++ r :: post).map (·.P)) :: (pre.flatMap RV.ck ++ (post.flatMap RV.ck ++ Y)))), .ex (.pointer (r.P)), .ex (.pointer (ptrAt r.P 1)), .pr (fun _ w' => ∃ A5 c5, St w w' (Bx 57 2 r.P [.slice r.s.a r.s.n r.s.c, .slice A5 (r.ns.length + 1) c5] :: CkI 2 A5 (r.ns.length + 1) c5 (r.ns ++ [(i : Int)]) :: CkM 86 g (prV Value.string Value.pointer (mpR (pre ++ r :: post))) :: CkP 55 A3 (pre ++ r :: post).length c3 ((pre ++ r :: post).map (·.P)) :: (pre.flatMap RV.ck ++ (post.flatMap RV.ck ++ Y))))] (by kernel_rfl) (by kernel_rfl) (lx (lx (lx (lx (lx (lx (lx (lx (lx (lx (List.forall_mem_cons.2 ⟨Yd.lasts_pr (fun v w w' h hb => by obtain ⟨A9, hv, hT⟩ := h; exact ⟨A9, hv, hT.later hb⟩), (List.forall_mem_cons.2 ⟨Yd.lasts_pr (fun v w w' h hb => by obtain ⟨A5, c5, hv, hT⟩ := h; exact ⟨A5, c5, hv, hT.later hb⟩), (lx (lx (List.forall_mem_cons.2 ⟨Yd.lasts_pr (fun v w w' h hb => by obtain ⟨A5, c5, hT⟩ := h; exact ⟨A5, c5, hT.later hb⟩), (fun _ h => by cases h)⟩)))⟩)⟩))))))))))) ⟨?_, ?_, ?_, ?_, ?_, ?_, ?_, ?_, ?_, ?_, ?_, ?_, ?_, ?_, ?_, trivial⟩ ?_
      · intro e1 w1 cc hlo hhi hb0 hp hun hq
        show Ops _ _ _ _ _ _ _
        refine Ops.mv_map rfl rfl rfl (Ops.n (n0 rfl (by exact rfl)))
      · intro e1 w1 cc hlo hhi hb0 hp hun hq
        show Ops _ _ _ _ _ _ _
        refine Ops.mv_str rfl rfl rfl (Ops.n (n0 rfl (by exact rfl)))
      · intro e1 w1 cc hlo hhi hb0 hp hun hq
        show Ops _ _ _ _ _ _ _
        have hX : RdM w1 g (prV Value.string Value.pointer (mpR (pre ++ r :: post))) := by { have hhi := le_of_hi hhi (b := 1) (by kernel_rfl); rcases (show cc = 0 ∨ cc = 1 by omega) with h | h; { exact (hB.later (hb0 h)).rdM 2 rfl }; { subst h; obtain ⟨A5, c5, _, hT⟩ := hq 11 _ _ (by kernel_rfl) (by kernel_rfl) (by kernel_rfl) rfl rfl (by kernel_rfl); exact hT.rdM 2 rfl } }
        refine Ops.lookP' keyS (keyB x) hget hX rfl rfl rfl (Ops.n (n0 rfl (by exact rfl)))
      · intro e1 w1 cc hlo hhi hb0 hp hun hq
        show Ops _ _ _ _ _ _ _
        refine Ops.mv_map rfl rfl rfl (Ops.n (n0 rfl (by exact rfl)))
      · intro e1 w1 cc hlo hhi hb0 hp hun hq
        show Ops _ _ _ _ _ _ _
        refine Ops.mv_str rfl rfl rfl (Ops.n (n0 rfl (by exact rfl)))
      · intro e1 w1 cc hlo hhi hb0 hp hun hq
        show Ops _ _ _ _ _ _ _
        obtain rfl := cc_of hlo hhi (b := 0) (by kernel_rfl) (by kernel_rfl)
        have hb := hb0 rfl
        refine Ops.lookP' keyS (keyB x) hget ((hB.later hb).rdM 2 rfl) rfl rfl rfl (Ops.n (n0 rfl (by exact rfl)))
      · intro e1 w1 cc hlo hhi hb0 hp hun hq
        show Ops _ _ _ _ _ _ _
        obtain rfl := cc_of hlo hhi (b := 0) (by kernel_rfl) (by kernel_rfl)
        have hb := hb0 rfl
        refine Ops.nilp ((hB.later hb).rd 0 rfl) (Nat.succ_pos _) rfl rfl (Ops.n (n0 rfl (by exact rfl)))
      · intro e1 w1 cc hlo hhi hb0 hp hun hq
        show Ops _ _ _ _ _ _ _
        obtain rfl := cc_of hlo hhi (b := 0) (by kernel_rfl) (by kernel_rfl)
        have hb := hb0 rfl
        refine Ops.fld ((hB.later hb).rd 0 rfl) rfl rfl rfl rfl inferInstance (Ops.n (n0 rfl (by exact rfl)))
      · intro e1 w1 cc hlo hhi hb0 hp hun hq
        show Ops _ _ _ _ _ _ _
        obtain rfl := cc_of hlo hhi (b := 0) (by kernel_rfl) (by kernel_rfl)
        have hb := hb0 rfl
        refine Ops.ldf_s ((hB.later hb).rd 0 rfl) rfl rfl rfl rfl rfl (Ops.n (n0 rfl (by exact rfl)))
      · intro e1 w1 cc hlo hhi hb0 hp hun hq
        show Ops _ _ _ _ _ _ _
        refine Ops.mi rfl rfl rfl (Ops.n (n0 rfl (by exact rfl)))
      · intro e1 w1 cc hlo hhi hb0 hp hun hq
        show Ops _ _ _ _ _ _ _
        refine Ops.bs1I (St.refl _) rfl rfl rfl ?_
        intro A9 w9 hst
        refine Ops.n ?_
        exact AfterN.dn rfl hst.below ⟨A9, rfl, hst.rdI 0 rfl⟩
      · intro e1 w1 cc hlo hhi hb0 hp hun hq
        show Ops _ _ _ _ _ _ _
        obtain rfl := cc_of hlo hhi (b := 0) (by kernel_rfl) (by kernel_rfl)
        have hb := hb0 rfl
        obtain ⟨A9, h58, hT2⟩ := (hp 10 _ _ (by kernel_rfl) rfl rfl (by kernel_rfl))
        refine Ops.appI 1 (hB.later hb) rfl hT2 rfl (by exact h58) rfl (by omega) (by omega) rfl ?_
        intro A5 c5 w10 hT10
        refine Ops.n ?_
        exact AfterT.dn rfl ⟨A5, c5, rfl, hT10⟩
      · intro e1 w1 cc hlo hhi hb0 hp hun hq
        show Ops _ _ _ _ _ _ _
        obtain rfl := cc_of hlo hhi (b := 1) (by kernel_rfl) (by kernel_rfl)
        have hph := hp 11 _ _ (by kernel_rfl) rfl rfl (by kernel_rfl)
        obtain ⟨A5, c5, _, hT⟩ := hph
        refine Ops.nilp (hT.rd 0 rfl) (Nat.succ_pos _) rfl rfl (Ops.n (n0 rfl (by exact rfl)))
      · intro e1 w1 cc hlo hhi hb0 hp hun hq
        show Ops _ _ _ _ _ _ _
        obtain rfl := cc_of hlo hhi (b := 1) (by kernel_rfl) (by kernel_rfl)
        have hph := hp 11 _ _ (by kernel_rfl) rfl rfl (by kernel_rfl)
        obtain ⟨A5, c5, _, hT⟩ := hph
        refine Ops.fld (hT.rd 0 rfl) rfl rfl rfl rfl inferInstance (Ops.n (n0 rfl (by exact rfl)))
      · intro e1 w1 cc hlo hhi hb0 hp hun hq
        show Ops _ _ _ _ _ _ _
        obtain rfl := cc_of hlo hhi (b := 1) (by kernel_rfl) (by kernel_rfl)
        have hph := hp 11 _ _ (by kernel_rfl) rfl rfl (by kernel_rfl)
        obtain ⟨A5, c5, h59, hT⟩ := (hp 11 _ _ (by kernel_rfl) rfl rfl (by kernel_rfl))
        refine Ops.stf 0 hT rfl rfl (by exact h59) rfl rfl ?_
        intro w9 hS9
        refine Ops.n ?_
        exact AfterT.st rfl ⟨A5, c5, hS9⟩
      intro u w7 _ hu
      obtain ⟨A5, c5, hT⟩ := hu 14 _ rfl (by kernel_rfl)
      have hln : (r.ns ++ [(i : Int)]).length = r.ns.length + 1 := by simp
      refine blockQ_n (tQ (Cd.region (Ops.add rfl rfl rfl (by omega) (Ops.mi rfl rfl rfl (Ops.n (tQ ?_))))))
      refine ⟨(j + 1, (A3, c3), pre ++ ⟨r.P, r.s, r.x, A5, c5, r.ns ++ [(i : Int)]⟩ :: post), by show N.length - (j + 1) < N.length - j; omega, ⟨by show Value.slice A3 (pre ++ r :: post).length c3 = .slice A3 (pre ++ _ :: post).length c3; simp, rfl, rfl, rfl, rfl, rfl, rfl, rfl, rfl, trivial⟩, by show j + 1 ≤ N.length; omega, ?_, fun q hq => ?_, ?_⟩
      · show (pre ++ _ :: post).map RV.pr = _
        rw [List.map_append, List.map_cons, ← hpr, ← hrx]; rfl
      · rcases List.mem_append.1 hq with hq | hq
        · exact hrow q (List.mem_append_left _ hq)
        · rcases List.mem_cons.1 hq with rfl | hq
          · exact hrow r (by simp)
          · exact hrow q (List.mem_append_right _ (List.mem_cons_of_mem _ hq))
      · have e1 : mpR (pre ++ r :: post) = mpR (pre ++ (⟨r.P, r.s, r.x, A5, c5, r.ns ++ [(i : Int)]⟩ : RV) :: post) := by simp [mpR]
        have e2 : (pre ++ r :: post).map (·.P) = (pre ++ (⟨r.P, r.s, r.x, A5, c5, r.ns ++ [(i : Int)]⟩ : RV) :: post).map (·.P) := by simp
        have e3 : (pre ++ r :: post).length = (pre ++ (⟨r.P, r.s, r.x, A5, c5, r.ns ++ [(i : Int)]⟩ : RV) :: post).length := by simp
        rw [e1, e2, e3, ← hln] at hT
        show St w w7 (CkP _ _ _ _ _ :: CkM _ _ _ :: ((pre ++ (⟨r.P, r.s, r.x, A5, c5, r.ns ++ [(i : Int)]⟩ : RV) :: post).flatMap RV.ck ++ Y))
        rw [List.flatMap_append, List.flatMap_cons, List.append_assoc, List.append_assoc]
        exact hT.perm perm4
    · have hje : j = N.length := by omega
      rw [hje, hjn] at hpr
      refine Cd.exit (thenQ_x (thenQ_x (blockQ_x (blockQ_n (tQ (Cd.region (Ops.add rfl rfl rfl (by omega) (Ops.mi rfl rfl rfl (Ops.n ?_)))))))))
      refine tQ ?_
      exact ⟨(i + 1, (A3, c3), rvs, Y), by show n - (i + 1) < n - i; omega, ⟨rfl, rfl, rfl, rfl, rfl, trivial⟩, by show i + 1 ≤ n; omega, hpr, hrow, hS⟩
  · have hin : i = F.length := by omega
    rw [hin] at hpr
    refine Cd.exit (thenQ_x (thenQ_x (blockQ_x (tQ (Cd.seq (Cd.region (Ops.ms rfl rfl rfl (Ops.ms rfl rfl rfl (Ops.n ?_)))))))))
    refine tQ (Cd.ret (ret1_s rfl ?_))
    exact ⟨A3, c3, rvs, X, rfl, hpr, hrow, hS.sub (List.Sublist.cons_cons _ (List.sublist_cons_self _ _))⟩
/-
 A statement whose order Go leaves open, by a property of what is done so far.
-/
def backB (l : List Oper) : Bool := l.zipIdx.all fun p => (aft p.1).all fun ed => Nat.blt ed.on p.2
theorem deps_of {o : Oper} {S : Nat → Bool} (h : ∀ ed ∈ aft o, S ed.on = true) (k : Nat) (hk : (aft o).any (fun ed => Nat.beq ed.on k) = true) : S k = true := by
 obtain ⟨ed, hed, hb⟩ := List.any_eq_true.1 hk
 rw [← Nat.eq_of_beq_eq_true hb]
 exact h ed hed
theorem thenQ_ext {K : Env → World → Prop} {Q : Post} {e : Env} {w : World} {F : List (Nat × Value)} (hM : Mt e F) (h : thenQ K Q .normal (ext e F) w) : thenQ K Q .normal e w := by rwa [ext_of_mt hM] at h
section
variable {P : Program} {N : Nat} {e : Env} {w : World}
theorem Cd.drawS {id : Nat} {l : List Oper} {Q : Post} (hm : P.follows .mixedOrders = true) (hbk : backB l = true) (I : (Nat → Bool) → Env → World → Prop) (h0 : ∀ w1, Below w.heap.size w w1 → I (fun _ => false) e w1)
    (hstep : ∀ (S : Nat → Bool) (i : Nat) (o : Oper) (e1 : Env) (w1 : World), l[i]? = some o → S i = false → (∀ ed ∈ aft o, S ed.on = true) → (∀ (k : Nat) (o' : Oper), S k = true → l[k]? = some o' → ∀ ed ∈ aft o', S ed.on = true) → I S e1 w1 → Ops P N l.toArray (fun e2 w2 => I (fun k => Nat.beq k i || S k) e2 w2) [o] e1 w1)
    (hend : ∀ (S : Nat → Bool) (e1 : Env) (w1 : World), (∀ i, i < l.length → S i = true) → I S e1 w1 → Q .normal e1 w1) : Cd P N (.region id l.toArray true) Q e w := .mk' fun a ha => by
  have hback : ∀ (i : Nat) (o : Oper), l[i]? = some o → ∀ ed ∈ aft o, ed.on < i := by
    intro i o ho ed hed
    simp only [backB, List.all_eq_true] at hbk
    have := hbk (o, i) (by
      obtain ⟨hi, hio⟩ := List.getElem?_eq_some_iff.1 ho
      rw [List.mem_iff_getElem?]
      exact ⟨i, by simp [ho]⟩)
    simpa [Nat.blt_eq] using this ed hed
  refine wp_region_any hm ?_
  have key : ∀ (fuel : Nat) (listed : Array Bool) (a1 : Act) (e1 : Env) (w1 : World), Rep N a1 e1 → listed.size = l.length →
      (∀ (i : Nat) (o : Oper), listed.getD i false = true → l[i]? = some o → ∀ ed ∈ aft o, listed.getD ed.on false = true) → I (fun k => listed.getD k false) e1 w1 → (l.length - fuel ≤ (List.range l.length).countP fun i => listed.getD i false) →
      wpAny P .any l.toArray (low N Q) fuel listed a1 w1 := by
    have hfin : ∀ (listed : Array Bool) (a1 : Act) (e1 : Env) (w1 : World), Rep N a1 e1 → I (fun k => listed.getD k false) e1 w1 → (∀ i, i < l.length → listed.getD i false = true) → low N Q .normal a1 w1 :=
      fun listed a1 e1 w1 hr hI hall => ⟨e1, hr, hend _ e1 w1 hall hI⟩
    have hready : ∀ (listed : Array Bool), listed.size = l.length → Region.ready .any l.toArray listed = [] → ∀ i, i < l.length → listed.getD i false = true := by
      intro listed hsz hnil i
      induction i using Nat.strongRecOn with
      | _ i ih =>
        intro hi
        cases hli : listed.getD i false with
        | true => rfl
        | false =>
          exfalso
          have : i ∈ Region.ready .any l.toArray listed := by
            rw [mem_ready]
            refine ⟨?_, l[i], by simp [hi], fun ed hed hbd => ih ed.on (hback i _ (List.getElem?_eq_getElem hi) ed (mem_aft.2 ⟨hed, hbd⟩)) (by have := hback i _ (List.getElem?_eq_getElem hi) ed (mem_aft.2 ⟨hed, hbd⟩); omega)⟩
            rw [Array.getD_eq_getD_getElem?, Array.getElem?_eq_getElem (by omega)] at hli ⊢
            exact hli
          rw [hnil] at this
          cases this
    intro fuel
    induction fuel with
    | zero =>
      intro listed a1 e1 w1 hr hsz hcl hI hcnt
      have hall : ∀ i, i < l.length → listed.getD i false = true := by
        have h4 : (List.range l.length).countP (fun i => listed.getD i false) = (List.range l.length).length := by
          have := List.countP_le_length (p := fun i => listed.getD i false) (l := List.range l.length)
          simp at this hcnt ⊢; omega
        rw [List.countP_eq_length] at h4
        intro i hi
        exact h4 i (by simpa using hi)
      refine ⟨?_, hfin listed a1 e1 w1 hr hI hall⟩
      rw [List.eq_nil_iff_forall_not_mem]
      intro i hi
      obtain ⟨h5, o, ho, _⟩ := mem_ready.1 hi
      have hil : i < l.length := by
        rcases Nat.lt_or_ge i l.length with h | h
        · exact h
        · simp [List.getElem?_eq_none h] at ho
      have h6 := hall i hil
      rw [Array.getD_eq_getD_getElem?, Array.getElem?_eq_getElem (by omega)] at h5 h6
      simp at h5 h6
      rw [h5] at h6; cases h6
    | succ fuel ih =>
      intro listed a1 e1 w1 hr hsz hcl hI hcnt
      refine ⟨fun hnil => hfin listed a1 e1 w1 hr hI (hready listed hsz hnil), fun i hi => ?_⟩
      obtain ⟨hun, o, ho, haf⟩ := mem_ready.1 hi
      have ho' : l[i]? = some o := by simpa using ho
      have hil : i < l.length := (List.getElem?_eq_some_iff.1 ho').1
      have hrd : ∀ ed ∈ aft o, listed.getD ed.on false = true := fun ed hed => haf ed (mem_aft.1 hed).1 (mem_aft.1 hed).2
      have hun' : listed.getD i false = false := by
        have h5 := hun
        rw [Array.getD_eq_getD_getElem?, Array.getElem?_eq_getElem (by omega)] at h5 ⊢
        exact h5
      have hgs : ∀ k, (listed.setIfInBounds i true).getD k false = if k = i then true else listed.getD k false := by
        intro k
        rw [Array.getD_eq_getD_getElem?, Array.getElem?_setIfInBounds]
        by_cases hki : k = i
        · subst hki; rw [if_pos rfl, if_pos (by omega), if_pos rfl]; rfl
        · rw [if_neg (fun e => hki e.symm), if_neg hki, ← Array.getD_eq_getD_getElem?]
      have hS : (fun k => (listed.setIfInBounds i true).getD k false) = fun k => Nat.beq k i || listed.getD k false := by
        funext k
        rw [hgs]
        by_cases hki : k = i
        · subst hki; rw [if_pos rfl, Nat.beq_refl]; rfl
        · rw [if_neg hki]
          have : Nat.beq k i = false := by
            cases hb : Nat.beq k i with
            | false => rfl
            | true => exact absurd (Nat.eq_of_beq_eq_true hb) hki
          rw [this]; rfl
      have hst := hstep (fun k => listed.getD k false) i o e1 w1 ho' hun' hrd (fun k o' hk hok => hcl k o' hk hok) hI
      have hwl := hst.run a1 hr
      have hnext : ∀ a2 w2, (∃ e2, Rep N a2 e2 ∧ I (fun k => Nat.beq k i || listed.getD k false) e2 w2) → wpAny P .any l.toArray (low N Q) fuel (listed.setIfInBounds i true) a2 w2 := by
        intro a2 w2 ⟨e2, hr2, hI2⟩
        refine ih _ a2 e2 w2 hr2 (by simpa using hsz) (fun k o' hk hok ed hed => ?_) (by rw [hS]; exact hI2) ?_
        · rw [hgs]
          by_cases hei : ed.on = i
          · rw [if_pos hei]
          · rw [if_neg hei]
            by_cases hki : k = i
            · subst hki
              rw [ho'] at hok; cases hok
              exact hrd ed hed
            · rw [hgs, if_neg hki] at hk
              exact hcl k o' hk hok ed hed
        · have hcount : (List.range l.length).countP (fun k => (listed.setIfInBounds i true).getD k false) = (List.range l.length).countP (fun k => listed.getD k false) + 1 :=
            countP_one (fun k => listed.getD k false) (fun k => (listed.setIfInBounds i true).getD k false) i hun' hgs _ List.nodup_range (by simpa using hil)
          rw [hcount]; omega
      unfold wpOp
      rw [ho]
      unfold wpList at hwl
      show if _ then _ else _
      by_cases hw : Region.wanted o (yielded l.toArray a1.tmps) = true
      · rw [if_pos hw] at hwl ⊢
        rcases hwl with h5 | ⟨_, a0, w0, h5⟩
        · refine .inl (Oper.wp_conv h5 (fun a2 w2 hx => ?_) (fun x a w hx hq => hx hq.1))
          exact hnext a2 w2 hx.2
        · exact absurd h5.1 (by simp)
      · rw [if_neg hw] at hwl ⊢
        exact hnext _ _ hwl.2
  refine key l.length (Array.replicate l.length false) a e _ ha (by simp) (fun i o hi => ?_) (by
    have : (fun k => (Array.replicate l.length false).getD k false) = fun _ => false := by
      funext k
      rw [Array.getD_eq_getD_getElem?, Array.getElem?_replicate]
      split <;> rfl
    rw [this]; exact h0 _ ⟨⟨rfl, rfl, rfl, Nat.le_refl _, fun _ _ => rfl⟩, fun _ => Nat.le_add_right _ _⟩) (by omega)
  exfalso
  rw [Array.getD_eq_getD_getElem?, Array.getElem?_replicate] at hi
  split at hi <;> simp at hi
end
/-
 Boundaries of complexes, walked on both sides.
-/
/-! pure complexes -/
theorem isPure1_c (A : Option Addr) (n c : Nat) (P3 : Option Addr) (d : Int) (w : World) (hP : Rd w P3 1 (fun _ => .int .i64 d)) :
  Ret Tryz.prog 75 [.slice A n c, .pointer P3] w (fun v w' => v = .bool (decide (¬ (n : Int) = d)) ∧ St w w' []) := by
 refine Ret.of_cd Tryz.func75 rfl Tryz.ntmps75 rfl (post1 rfl) (Cd.seq (Cd.region (Ops.mb rfl rfl rfl (Ops.n (tQ (Cd.seq ?_))))))
 refine Cd.draw [.ex (.slice (A) (n) (c)), .ex (.int .i64 (n : Int)), .ex (.int .i64 (d)), .ex (.bool (decide (¬ (n : Int) = (d)))), .ex (.bool (decide (¬ (n : Int) = (d))))] (by kernel_rfl) (by kernel_rfl) rfl (lx (lx (lx (lx (lx (fun _ h => by cases h)))))) ⟨?_, ?_, ?_, ?_, ?_, trivial⟩ ?_
 ·intro e1 w1 hb hp hun; refine Ops.ms rfl rfl rfl (Ops.n (d0 (by exact rfl)))
 ·intro e1 w1 hb hp hun; refine Ops.call (sizeI_c _ _ _ _) rfl rfl rfl ?_
  rintro _ w2 ⟨rfl, hst⟩
  subst hst
  refine Ops.n (d0 (by exact rfl))
 ·intro e1 w1 hb hp hun; refine Ops.ld (hP.below hb) (j := 0) (by exact congrArg Value.pointer (ptrAt_zero P3).symm) (by omega) rfl rfl rfl (Ops.n (d0 (by exact rfl)))
 ·intro e1 w1 hb hp hun; refine Ops.neq rfl rfl rfl (Ops.n (d0 (by exact rfl)))
 ·intro e1 w1 hb hp hun; refine Ops.mb rfl rfl rfl (Ops.n (d0 (by exact rfl)))
 intro u w2 hb _
 refine tQ (Cd.ret (ret1_b rfl ?_))
 exact ⟨rfl, (St.refl w).later hb⟩
theorem isPure_c (Pc : Option Addr) (V : Int) (A : Option Addr) (n c : Nat) (rs : List SlV) (F : List (List Int)) (w : World) (hP : Rd w Pc 2 (fun j => [Value.int .i64 V, .slice A n c].getD j undef)) (hR : RowsI w A n rs F) (hn : n ≤ 1000) (h6 : ∀ f ∈ F, f.length ≤ 1000000) :
  Ret Tryz.prog 37 [.pointer Pc] w (fun v w' => v = .bool (decide (Pure F)) ∧ St w w' []) := by
 have hFl := hR.len
 refine Ret.of_cd Tryz.func37 rfl Tryz.ntmps37 rfl (post1 rfl) (Cd.seq (Cd.region (Ops.mb rfl rfl rfl (Ops.n (tQ (Cd.seq (Cd.region (Ops.mv_ptr rfl rfl rfl (Ops.call (depth_c Pc V A n c rs F w hP hR hn h6) rfl rfl rfl ?_)))))))))
 rintro _ w ⟨rfl, rfl⟩
 refine Ops.new (z := .int .i64 0) (St.refl w) rfl rfl ?_
 intro P3 w1 hS1
 have hS1 : St w w1 [CkI 2 P3 1 1 [0]] := hS1
 refine Ops.st_int 0 (i := 0) hS1 rfl (by exact congrArg Value.pointer (ptrAt_zero P3).symm) rfl (by decide) ?_
 intro w2 hS2
 have hS2 : St w w2 [CkI 2 P3 1 1 [(dpt F : Int)]] := hS2
 have h3 : Rd w2 P3 1 (fun _ => Value.int .i64 (dpt F : Int)) := (hS2.rd 0 rfl).congr fun j hj => by obtain rfl : j = 0 := by { have : j < 1 := hj; omega }; rfl
 refine Ops.n (tQ (Cd.seq (Cd.region (Ops.mv_ptr rfl rfl rfl (Ops.nilp (hS2.old hP) (by omega) rfl rfl ?_)))))
 skip
 refine Ops.fld (hS2.old hP) rfl rfl rfl rfl inferInstance ?_
 skip
 refine Ops.ldf_s (hS2.old hP) rfl rfl rfl rfl rfl ?_
 skip
 refine Ops.fn1 rfl rfl ?_
 skip
 have hM := hS2.oldRows hR
 refine Ops.call (containsRF_c A n c rs 75 [.pointer P3] (fun i => decide (¬ ((rg rs (i : Int)).n : Int) = (dpt F : Int))) w2 hM.top (by omega) (fun w' i hb hi => isPure1_c _ _ _ P3 _ w' (h3.below hb))) rfl rfl rfl ?_
 rintro _ w3 ⟨rfl, hst⟩
 first | refine Ops.not_p rfl rfl ?_ | refine Ops.not rfl rfl ?_
 refine Ops.mb rfl rfl rfl (Ops.n (tQ (Cd.ret (ret1_b rfl ?_))))
 refine ⟨congrArg Value.bool (decide_eq_decide.2 ?_), hS2.none.later hst.below⟩
 constructor
 ·intro h f hf
  obtain ⟨j, hj, rfl⟩ := List.mem_iff_getElem.1 hf
  have hr := (hR.at_ (i := (j : Int)) (by omega) (by omega)).1
  rw [gl_mem hj] at hr
  have : ¬ ¬ ((rg rs (j : Int)).n : Int) = (dpt F : Int) := fun h2 => h ⟨j, by omega, decide_eq_true h2⟩
  omega
 ·rintro h ⟨j, hj, h2⟩
  have h2 := of_decide_eq_true h2
  have hr := (hR.at_ (i := (j : Int)) (by omega) (by omega)).1
  have := h (gl F (j : Int)) (by rw [gl_mem (by omega)]; exact List.getElem_mem _)
  omega
theorem l17Pure_c (V : Int) (A : Option Addr) (n c : Nat) (rs : List SlV) (F : List (List Int)) (w : World) (hR : RowsI w A n rs F) (hn : n ≤ 1000) :
  Ret Tryz.prog 40 [.agg #[.int .i64 V, .slice A n c]] w (fun v w' => v = .bool (decide (Pure F)) ∧ St w w' []) := by
 have hFl := hR.len
 refine Ret.of_cd Tryz.func40 rfl Tryz.ntmps40 rfl (post1 rfl) (Cd.seq (Cd.region (Ops.box2 (St.refl w) rfl rfl ?_)))
 intro Ab w1 hS1
 have hS1 : St w w1 [cxB Ab V A n c] := hS1
 refine Ops.mb rfl rfl rfl (Ops.n (tQ (Cd.seq (Cd.seq (Cd.region (Ops.mi rfl rfl rfl (Ops.n (tQ (Cd.block ?_)))))))))
 refine Cd.loop (α := Nat) (fun i => [(1, .pointer Ab), (3, .int .i64 (i : Int))]) (fun i w' => St w w' [cxB Ab V A n c] ∧ i ≤ n ∧ ∀ f ∈ F.take i, f.length = (gl F 0).length) (fun i => n - i) 0 ⟨rfl, rfl, trivial⟩ ⟨hS1, Nat.zero_le _, by simp⟩ ?_
 rintro i e w2 ⟨hS, hi, hall⟩
 have hB := hS.rd 0 rfl
 refine Cd.seq (Cd.seq (Cd.region (Ops.mi rfl rfl rfl (Ops.fld hB rfl rfl rfl rfl inferInstance (Ops.ldf_s hB rfl rfl rfl rfl rfl (Ops.len rfl rfl (Ops.lss rfl rfl rfl (Ops.n (tQ ?_)))))))))
 refine Cd.cond_p _ rfl (fun h3 => ?_) (fun h3 => ?_)
 ·have hiF : i < F.length := by omega
  have hM := hS.oldRows hR
  have hrow := hM.at_ (i := (i : Int)) (by omega) (by omega)
  have hrow0 := hM.at_ (i := 0) (by omega) (by omega)
  have hl1 := hrow.1
  have hl2 := hrow0.1
  refine Cd.skip (tQ (Cd.seq (Cd.block (Cd.seq ?_))))
  refine Cd.draw [.ex (.pointer (ptrAt (Ab) 1)), .ex (.slice (A) (n) (c)), .ex (.int .i64 ((i : Int))), .ex (.pointer (ptrAt (A) ((i : Int)).toNat)), .ex (.slice ((rg (rs) ((i : Int))).a) ((rg (rs) ((i : Int))).n) ((rg (rs) ((i : Int))).c)), .ex (.int .i64 ((((rg (rs) ((i : Int))).n : Nat) : Int))), .ex (.pointer (ptrAt (Ab) 1)), .ex (.slice (A) (n) (c)), .ex (.pointer (ptrAt (A) ((0 : Int)).toNat)), .ex (.slice ((rg (rs) ((0 : Int))).a) ((rg (rs) ((0 : Int))).n) ((rg (rs) ((0 : Int))).c)), .ex (.int .i64 ((((rg (rs) ((0 : Int))).n : Nat) : Int))), .ex (.bool (decide (¬ ((((rg (rs) ((i : Int))).n : Nat) : Int)) = ((((rg (rs) ((0 : Int))).n : Nat) : Int)))))] (by kernel_rfl) (by kernel_rfl) rfl (lx (lx (lx (lx (lx (lx (lx (lx (lx (lx (lx (lx (fun _ h => by cases h))))))))))))) ⟨?_, ?_, ?_, ?_, ?_, ?_, ?_, ?_, ?_, ?_, ?_, ?_, trivial⟩ ?_
  ·intro e1 w1 hb hp hun; refine Ops.fld (hB.below hb) rfl rfl rfl rfl inferInstance (Ops.n (d0 (by exact rfl)))
  ·intro e1 w1 hb hp hun; refine Ops.ldf_s (hB.below hb) rfl rfl rfl rfl rfl (Ops.n (d0 (by exact rfl)))
  ·intro e1 w1 hb hp hun; refine Ops.mi rfl rfl rfl (Ops.n (d0 (by exact rfl)))
  ·intro e1 w1 hb hp hun; refine Ops.idx (hM.top.later hb).2 rfl rfl rfl (by omega) (by omega) (Ops.n (d0 (by exact rfl)))
  ·intro e1 w1 hb hp hun; refine Ops.ld_sl (hM.top.later hb) rfl (by omega) rfl rfl (Ops.n (d0 (by exact rfl)))
  ·intro e1 w1 hb hp hun; refine Ops.len rfl rfl (Ops.n (d0 (by exact rfl)))
  ·intro e1 w1 hb hp hun; refine Ops.fld (hB.below hb) rfl rfl rfl rfl inferInstance (Ops.n (d0 (by exact rfl)))
  ·intro e1 w1 hb hp hun; refine Ops.ldf_s (hB.below hb) rfl rfl rfl rfl rfl (Ops.n (d0 (by exact rfl)))
  ·intro e1 w1 hb hp hun; refine Ops.idx (hM.top.later hb).2 rfl rfl rfl (by omega) (by omega) (Ops.n (d0 (by exact rfl)))
  ·intro e1 w1 hb hp hun; refine Ops.ld_sl (hM.top.later hb) rfl (by omega) rfl rfl (Ops.n (d0 (by exact rfl)))
  ·intro e1 w1 hb hp hun; refine Ops.len rfl rfl (Ops.n (d0 (by exact rfl)))
  ·intro e1 w1 hb hp hun; refine Ops.neq rfl rfl rfl (Ops.n (d0 (by exact rfl)))
  intro u w3 hb _
  have hS3 := hS.later hb
  refine tQ ?_
  refine Cd.cond_p _ rfl (fun h4 => ?_) (fun h4 => ?_)
  ·refine Cd.seq (Cd.region (Ops.mb rfl rfl rfl (Ops.n (tQ (Cd.ret (blockQ_r (thenQ_r (thenQ_r (blockQ_r ?_)))))))))
   refine thenQ_r (ret1_b rfl ?_)
   refine ⟨by rw [decide_eq_false (fun h => h4 (by have := Pure.first.1 h (gl F (i : Int)) (by rw [gl_mem hiF]; exact List.getElem_mem _); omega))], hS3.none⟩
  ·refine Cd.skip (blockQ_n (tQ (Cd.region (Ops.mi rfl rfl rfl (Ops.add rfl rfl rfl (by omega) (Ops.mi rfl rfl rfl (Ops.n (tQ ?_))))))))
   refine ⟨i + 1, by show n - (i + 1) < n - i; omega, ⟨rfl, rfl, trivial⟩, hS3, by omega, ?_⟩
   rw [take_succ_gl hiF]
   intro f hf
   rcases List.mem_append.1 hf with hf | hf
   ·exact hall f hf
   ·obtain rfl : f = gl F (i : Int) := by simpa using hf
    omega
 ·rw [List.take_of_length_le (by omega)] at hall
  refine Cd.exit (thenQ_x (thenQ_x (blockQ_x (tQ (Cd.seq (Cd.region (Ops.mb rfl rfl rfl (Ops.n (tQ ?_)))))))))
  refine Cd.ret (ret1_b rfl ?_)
  exact ⟨by rw [decide_eq_true (Pure.first.2 hall)], hS.none⟩
/-! the reference's ridges -/
def cntI (F : List (List Int)) (x : List Int) (i : Nat) : Nat := ((List.range i).filter fun k : Nat => decide (Ins x (gl F (k : Int)))).length
theorem cntI_succ (F : List (List Int)) (x : List Int) (i : Nat) : cntI F x (i + 1) = if Ins x (gl F (i : Int)) then cntI F x i + 1 else cntI F x i := by
 unfold cntI
 rw [List.range_succ, List.filter_append, List.length_append]
 by_cases h : Ins x (gl F (i : Int)) <;> simp [h]
theorem cntI_le (F : List (List Int)) (x : List Int) (i : Nat) : cntI F x i ≤ i := by
 have := List.length_filter_le (fun k : Nat => decide (Ins x (gl F (k : Int)))) (List.range i)
 rwa [List.length_range] at this
theorem cntI_all (F : List (List Int)) (x : List Int) : cntI F x F.length = (hasI F x).length := by unfold cntI hasI; rw [List.length_map]
def cnE (F D : List (List Int)) (r i q : Nat) : Int := if q < r then ((cntI F (gl D (q : Int)) F.length : Nat) : Int) else if q = r then ((cntI F (gl D (q : Int)) i : Nat) : Int) else 0
def cnL (F D : List (List Int)) (r i : Nat) : List Int := (List.range D.length).map (cnE F D r i)
theorem cnL_len (F D : List (List Int)) (r i : Nat) : (cnL F D r i).length = D.length := by simp [cnL]
theorem cnL_at {F D : List (List Int)} {r i q : Nat} (h : q < D.length) : gi (cnL F D r i) (q : Int) = cnE F D r i q := by
 rw [gi_mem (by rw [cnL_len]; exact h)]; simp [cnL]
theorem cnL_zero (F D : List (List Int)) : List.replicate D.length 0 = cnL F D 0 0 := by
 unfold cnL
 rw [List.map_congr_left (g := fun _ => (0 : Int)) fun q _ => by unfold cnE; rw [if_neg (by omega)]; split <;> rfl, List.map_const', List.length_range]
theorem cnL_next (F D : List (List Int)) (r : Nat) : cnL F D r F.length = cnL F D (r + 1) 0 := by
 refine List.map_congr_left fun q _ => ?_
 unfold cnE
 by_cases h1 : q < r
 ·rw [if_pos h1, if_pos (by omega)]
 ·rw [if_neg h1]
  by_cases h2 : q = r
  ·rw [if_pos h2, if_pos (by omega)]
  ·rw [if_neg h2, if_neg (by omega)]
   split <;> rfl
theorem cnL_same {F D : List (List Int)} {r i : Nat} (h : ¬ Ins (gl D (r : Int)) (gl F (i : Int))) : cnL F D r i = cnL F D r (i + 1) := by
 refine List.map_congr_left fun q _ => ?_
 unfold cnE
 by_cases h2 : q = r
 ·subst h2; rw [cntI_succ, if_neg h]
 ·rw [if_neg h2, if_neg h2]
theorem cnL_set {F D : List (List Int)} {r i : Nat} (h : Ins (gl D (r : Int)) (gl F (i : Int))) : (cnL F D r i).set r (cnE F D r i r + 1) = cnL F D r (i + 1) := by
 apply List.ext_getElem
 ·rw [List.length_set, cnL_len, cnL_len]
 ·intro q h1 h2
  rw [List.getElem_set]
  simp only [cnL, List.getElem_map, List.getElem_range]
  by_cases hq : r = q
  ·subst hq
   rw [if_pos rfl]
   unfold cnE
   rw [if_neg (Nat.lt_irrefl _), if_pos rfl, if_neg (Nat.lt_irrefl _), if_pos rfl, cntI_succ, if_pos h]; rfl
  ·rw [if_neg hq]
   unfold cnE
   have hq2 : ¬ q = r := fun e => hq e.symm
   rw [if_neg hq2, if_neg hq2]
theorem cnE_bd (F D : List (List Int)) {r i q : Nat} (hi : i ≤ F.length) : 0 ≤ cnE F D r i q ∧ cnE F D r i q ≤ F.length := by
 unfold cnE
 have h1 := cntI_le F (gl D (q : Int)) F.length
 have h2 := cntI_le F (gl D (q : Int)) i
 split
 ·omega
 ·split <;> omega
theorem ret2_sq {R : Value → World → Prop} {t u : Nat} {A A' : Option Addr} {n c n' c' : Nat} {e : Env} {w : World} (h : e t = .slice A n c) (h2 : e u = .slice A' n' c') (hR : R (.tuple #[.slice A n c, .slice A' n' c']) w) : ret2 t u R .ret e w := by show R (.tuple #[e t, e u]) w; rw [h, h2]; exact hR
def AnsRC (D : List (List Int)) (L : List Int) (w : World) (v : Value) (w' : World) : Prop := ∃ A c rs B d, v = .tuple #[.slice A D.length c, .slice B D.length d] ∧ rs.length = D.length ∧ St w w' (CkI 2 B D.length d L :: (mat 28 2 A D.length c rs D ++ []))
set_option maxHeartbeats 1000000 in
theorem l17Ridges_c (V : Int) (A : Option Addr) (n c : Nat) (rs : List SlV) (F : List (List Int)) (w : World) (hR : RowsI w A n rs F) (hn : n ≤ 1000) (h6 : ∀ f ∈ F, f.length ≤ 6) (hd : 1 ≤ dpt F) :
  Ret Tryz.prog 41 [.agg #[.int .i64 V, .slice A n c]] w (AnsRC (fcs F (dpt F - 1)) (cnL F (fcs F (dpt F - 1)) (fcs F (dpt F - 1)).length 0) w) := by
 have hFl := hR.len
 have hd6 := dpt_bd h6
 have hl6 : ∀ f ∈ F, f.length ≤ 1000000 := fun f hf => by have := h6 f hf; omega
 have hnum := fcs_num (dpt F - 1) h6
 have hfl : ∀ x ∈ fcs F (dpt F - 1), x.length ≤ 6 := fun x hx => by rw [fcs_len hx]; omega
 refine Ret.of_cd Tryz.func41 rfl Tryz.ntmps41 rfl (post2 rfl) (Cd.seq (Cd.region (Ops.box2 (St.refl w) rfl rfl ?_)))
 intro Ab wB hB
 have hB : St w wB [cxB Ab V A n c] := hB
 refine Ops.ms rfl rfl rfl (Ops.ms rfl rfl rfl (Ops.n (tQ (Cd.seq ?_))))
 refine Cd.drawN [] [.ex (.agg #[.int .i64 (V), .slice (A) (n) (c)]), .ex (.agg #[.int .i64 (V), .slice (A) (n) (c)]), .ex (.int .i64 (dpt F : Int)), .ex (.int .i64 ((dpt F : Int) - ((1 : Int)))), .pr (fun v w' => ∃ A2 c2 rs2, v = .slice A2 (fcs F (dpt F - 1)).length c2 ∧ rs2.length = (fcs F (dpt F - 1)).length ∧ St w w' (cxB Ab V A n c :: (mat 28 2 A2 (fcs F (dpt F - 1)).length c2 rs2 (fcs F (dpt F - 1)) ++ []))), .pr (fun v w' => ∃ A2 c2 rs2, v = .slice A2 (fcs F (dpt F - 1)).length c2 ∧ rs2.length = (fcs F (dpt F - 1)).length ∧ St w w' (cxB Ab V A n c :: (mat 28 2 A2 (fcs F (dpt F - 1)).length c2 rs2 (fcs F (dpt F - 1)) ++ [])))] (by kernel_rfl) (by kernel_rfl) (lx (lx (lx (lx (List.forall_mem_cons.2 ⟨Yd.lasts_pr (fun v w w' h hb => by obtain ⟨A2, c2, rs2, hv, hl, hT⟩ := h; exact ⟨A2, c2, rs2, hv, hl, hT.later hb⟩), (List.forall_mem_cons.2 ⟨Yd.lasts_pr (fun v w w' h hb => by obtain ⟨A2, c2, rs2, hv, hl, hT⟩ := h; exact ⟨A2, c2, rs2, hv, hl, hT.later hb⟩), (fun _ h => by cases h)⟩)⟩))))) ⟨?_, ?_, ?_, ?_, ?_, ?_, trivial⟩ ?_
 ·intro e1 w1 cc hlo hhi hb0 hp hun hq; show Ops _ _ _ _ _ _ _
  obtain rfl := cc_of hlo hhi (b := 0) (by kernel_rfl) (by kernel_rfl)
  have hb := hb0 rfl
  refine Ops.ld_agg 1 ((hB.rd 0 rfl).below hb) rfl rfl rfl (Ops.n (n0 rfl (by exact rfl)))
 ·intro e1 w1 cc hlo hhi hb0 hp hun hq; show Ops _ _ _ _ _ _ _
  obtain rfl := cc_of hlo hhi (b := 0) (by kernel_rfl) (by kernel_rfl)
  have hb := hb0 rfl
  refine Ops.ld_agg 1 ((hB.rd 0 rfl).below hb) rfl rfl rfl (Ops.n (n0 rfl (by exact rfl)))
 ·intro e1 w1 cc hlo hhi hb0 hp hun hq; show Ops _ _ _ _ _ _ _
  obtain rfl := cc_of hlo hhi (b := 0) (by kernel_rfl) (by kernel_rfl)
  have hb := hb0 rfl
  refine Ops.call (l17Size_c V A n c rs F _ ((hB.later hb).oldRows hR) hn hl6) rfl rfl rfl ?_
  rintro _ w2 ⟨rfl, hst⟩
  refine Ops.n ?_
  exact AfterN.dn rfl hst.below (by exact rfl)
 ·intro e1 w1 cc hlo hhi hb0 hp hun hq; show Ops _ _ _ _ _ _ _
  refine Ops.sub rfl rfl rfl (by omega) (Ops.n (n0 rfl (by exact rfl)))
 ·intro e1 w1 cc hlo hhi hb0 hp hun hq; show Ops _ _ _ _ _ _ _
  obtain rfl := cc_of hlo hhi (b := 0) (by kernel_rfl) (by kernel_rfl)
  have hb := hb0 rfl
  refine Ops.call (l17Faces_c V A n c rs F (dpt F - 1) _ ((hB.later hb).oldRows hR) hn h6 (by omega)) rfl (by show [_, Value.int .i64 ((dpt F : Int) - 1)] = _; congr 3; omega) rfl ?_
  rintro _ w2 ⟨A2, c2, rs2, rfl, hrl2, hst⟩
  refine Ops.n ?_
  exact AfterN.dn rfl hst.below ⟨A2, c2, rs2, rfl, hrl2, (hB.later hb).call2 hst⟩
 ·intro e1 w1 cc hlo hhi hb0 hp hun hq; show Ops _ _ _ _ _ _ _
  obtain rfl := cc_of hlo hhi (b := 0) (by kernel_rfl) (by kernel_rfl)
  have hb := hb0 rfl
  obtain ⟨A2, c2, rs2, h12, hl, hT⟩ := (hp 4 _ _ (by kernel_rfl) rfl rfl (by kernel_rfl))
  refine Ops.ms rfl (by exact h12) rfl (Ops.n ?_)
  exact AfterN.dn rfl (Below.refl _ _) ⟨A2, c2, rs2, rfl, hl, hT⟩
 intro u w2 _ hu
 obtain ⟨A2, c2, rs2, h4, hrl2, hS2⟩ := hu 5 _ rfl (by kernel_rfl)
 generalize hD : fcs F (dpt F - 1) = D at *
 have hS2 : St w w2 (cxB Ab V A n c :: mat 28 2 A2 D.length c2 rs2 D) := by rw [List.append_nil] at hS2; exact hS2
 refine thenQ_ext (F := [(1, .pointer Ab), (4, .slice A2 D.length c2)]) ⟨rfl, h4, trivial⟩ (tQ (Cd.seq (Cd.region (Ops.ms rfl rfl rfl (Ops.len rfl rfl (Ops.mkI D.length hS2 rfl rfl (by omega) ?_))))))
 intro A5 w3 hS3
 have hS3 : St w w3 (CkI 2 A5 D.length D.length (cnL F D 0 0) :: cxB Ab V A n c :: mat 28 2 A2 D.length c2 rs2 D) := by rw [← cnL_zero]; exact hS3
 refine Ops.ms rfl rfl rfl (Ops.n (tQ (Cd.seq (Cd.seq (Cd.region (Ops.mi rfl rfl rfl (Ops.n (tQ (Cd.block ?_)))))))))
 refine Cd.loop (α := Nat) (fun r => [(1, .pointer Ab), (4, .slice A2 D.length c2), (5, .slice A5 D.length D.length), (6, .int .i64 (r : Int))]) (fun r w' => r ≤ D.length ∧ St w w' (CkI 2 A5 D.length D.length (cnL F D r 0) :: cxB Ab V A n c :: mat 28 2 A2 D.length c2 rs2 D)) (fun r => D.length - r) 0 ⟨rfl, rfl, rfl, rfl, trivial⟩ ⟨Nat.zero_le _, hS3⟩ ?_
 clear hS3 hS2 hB
 rintro r e w4 ⟨hr, hS4⟩
 refine Cd.seq (Cd.seq (Cd.region (Ops.mi rfl rfl rfl (Ops.ms rfl rfl rfl (Ops.len rfl rfl (Ops.lss rfl rfl rfl (Ops.n (tQ ?_))))))))
 refine Cd.cond_p _ rfl (fun h1 => ?_) (fun h1 => ?_)
 ·have hrD : r < D.length := by omega
  refine Cd.skip (tQ (Cd.seq (Cd.block (Cd.seq (Cd.region (Ops.mi rfl rfl rfl (Ops.n (tQ (Cd.block ?_)))))))))
  refine Cd.loop (α := Nat) (fun i => [(1, .pointer Ab), (4, .slice A2 D.length c2), (5, .slice A5 D.length D.length), (6, .int .i64 (r : Int)), (7, .int .i64 (i : Int))]) (fun i w' => i ≤ n ∧ St w w' (CkI 2 A5 D.length D.length (cnL F D r i) :: cxB Ab V A n c :: mat 28 2 A2 D.length c2 rs2 D)) (fun i => n - i) 0 ⟨rfl, rfl, rfl, rfl, rfl, trivial⟩ ⟨Nat.zero_le _, hS4⟩ ?_
  clear hS4
  rintro i e w5 ⟨hi, hS5⟩
  have hB5 := hS5.rd 1 rfl
  refine Cd.seq (Cd.seq (Cd.region (Ops.mi rfl rfl rfl (Ops.fld hB5 rfl rfl rfl rfl inferInstance (Ops.ldf_s hB5 rfl rfl rfl rfl rfl (Ops.len rfl rfl (Ops.lss rfl rfl rfl (Ops.n (tQ ?_)))))))))
  refine Cd.cond_p _ rfl (fun h2 => ?_) (fun h2 => ?_)
  ·have hiF : i < F.length := by omega
   have hM := hS5.oldRows hR
   have hQ : RowsI w5 A2 D.length rs2 D := St.rowsI (ks := []) (by rw [List.append_nil]; exact hS5.tail.tail) rfl
   have hra := hQ.at_ (i := (r : Int)) (by omega) (by omega)
   have hrb := hM.at_ (i := (i : Int)) (by omega) (by omega)
   have hla := hra.1
   have hlb := hrb.1
   have hx6 := hfl (gl D (r : Int)) (by rw [gl_mem hrD]; exact List.getElem_mem _)
   have hf6 := h6 (gl F (i : Int)) (by rw [gl_mem hiF]; exact List.getElem_mem _)
   refine Cd.skip (tQ (Cd.seq (Cd.block (Cd.seq ?_))))
   refine Cd.draw [.ex (.slice (A2) (D.length) (c2)), .ex (.int .i64 ((r : Int))), .ex (.pointer (ptrAt (A2) ((r : Int)).toNat)), .ex (.slice ((rg (rs2) ((r : Int))).a) ((rg (rs2) ((r : Int))).n) ((rg (rs2) ((r : Int))).c)), .ex (.pointer (ptrAt (Ab) 1)), .ex (.slice (A) (n) (c)), .ex (.int .i64 ((i : Int))), .ex (.pointer (ptrAt (A) ((i : Int)).toNat)), .ex (.slice ((rg (rs) ((i : Int))).a) ((rg (rs) ((i : Int))).n) ((rg (rs) ((i : Int))).c)), .ex (.bool (decide (Ins (gl D (r : Int)) (gl F (i : Int)))))] (by kernel_rfl) (by kernel_rfl) rfl (lx (lx (lx (lx (lx (lx (lx (lx (lx (lx (fun _ h => by cases h))))))))))) ⟨?_, ?_, ?_, ?_, ?_, ?_, ?_, ?_, ?_, ?_, trivial⟩ ?_
   ·intro e1 w1 hb hp hun; refine Ops.ms rfl rfl rfl (Ops.n (d0 (by exact rfl)))
   ·intro e1 w1 hb hp hun; refine Ops.mi rfl rfl rfl (Ops.n (d0 (by exact rfl)))
   ·intro e1 w1 hb hp hun; refine Ops.idx (hQ.top.later hb).2 rfl rfl rfl (by omega) (by omega) (Ops.n (d0 (by exact rfl)))
   ·intro e1 w1 hb hp hun; refine Ops.ld_sl (hQ.top.later hb) rfl (by omega) rfl rfl (Ops.n (d0 (by exact rfl)))
   ·intro e1 w1 hb hp hun; refine Ops.fld (hB5.below hb) rfl rfl rfl rfl inferInstance (Ops.n (d0 (by exact rfl)))
   ·intro e1 w1 hb hp hun; refine Ops.ldf_s (hB5.below hb) rfl rfl rfl rfl rfl (Ops.n (d0 (by exact rfl)))
   ·intro e1 w1 hb hp hun; refine Ops.mi rfl rfl rfl (Ops.n (d0 (by exact rfl)))
   ·intro e1 w1 hb hp hun; refine Ops.idx (hM.top.later hb).2 rfl rfl rfl (by omega) (by omega) (Ops.n (d0 (by exact rfl)))
   ·intro e1 w1 hb hp hun; refine Ops.ld_sl (hM.top.later hb) rfl (by omega) rfl rfl (Ops.n (d0 (by exact rfl)))
   ·intro e1 w1 hb hp hun; refine Ops.call (l17Within_c _ _ _ _ _ _ _ _ _ (hra.later hb) (hrb.later hb) (by omega) (by omega)) rfl rfl rfl ?_
    rintro _ w2 ⟨rfl, hst⟩
    subst hst
    refine Ops.n (d0 (by exact rfl))
   intro u w6 hb _
   have hS6 := hS5.later hb
   have hO : RdI w6 A5 D.length (cnL F D r i) := hS6.rdI 0 rfl
   have hat := cnL_at (F := F) (D := D) (r := r) (i := i) hrD
   have hbd := cnE_bd F D (r := r) (i := i) (q := r) (by omega)
   have hcl := cnL_len F D r i
   refine tQ ?_
   refine Cd.cond_p _ rfl (fun h3 => ?_) (fun h3 => ?_)
   ·have hset := cnL_set h3
    refine Cd.region (Ops.ms rfl rfl rfl (Ops.mi rfl rfl rfl (Ops.idx hO.2 rfl rfl rfl (by omega) (by omega) (Ops.ld_int hO rfl (by omega) rfl rfl ?_))))
    rw [hat]
    refine Ops.add rfl rfl rfl (by omega) (Ops.idx hO.2 rfl rfl rfl (by omega) (by omega) (Ops.st_int 0 hS6 rfl rfl rfl (by omega) ?_))
    intro w7 hS7
    refine Ops.n (blockQ_n (tQ (Cd.region (Ops.mi rfl rfl rfl (Ops.add rfl rfl rfl (by omega) (Ops.mi rfl rfl rfl (Ops.n (tQ ?_))))))))
    exact ⟨i + 1, by show n - (i + 1) < n - i; omega, ⟨rfl, rfl, rfl, rfl, rfl, trivial⟩, by omega, by rw [← hset]; exact hS7⟩
   ·rw [cnL_same h3] at hS6
    refine Cd.skip (blockQ_n (tQ (Cd.region (Ops.mi rfl rfl rfl (Ops.add rfl rfl rfl (by omega) (Ops.mi rfl rfl rfl (Ops.n (tQ ?_))))))))
    exact ⟨i + 1, by show n - (i + 1) < n - i; omega, ⟨rfl, rfl, rfl, rfl, rfl, trivial⟩, by omega, hS6⟩
  ·have hie : i = F.length := by omega
   rw [hie, cnL_next] at hS5
   refine Cd.exit (thenQ_x (thenQ_x (blockQ_x (blockQ_n (tQ (Cd.region (Ops.mi rfl rfl rfl (Ops.add rfl rfl rfl (by omega) (Ops.mi rfl rfl rfl ?_)))))))))
   refine Ops.n (tQ ?_)
   exact ⟨r + 1, by show D.length - (r + 1) < D.length - r; omega, ⟨rfl, rfl, rfl, rfl, trivial⟩, by omega, hS5⟩
 ·have hre : r = D.length := by omega
  subst hre
  refine Cd.exit (thenQ_x (thenQ_x (blockQ_x (tQ (Cd.seq (Cd.region (Ops.ms rfl rfl rfl (Ops.ms rfl rfl rfl (Ops.ms rfl rfl rfl ?_)))))))))
  refine Ops.ms rfl rfl rfl (Ops.n (tQ (Cd.ret (ret2_sq rfl rfl ?_))))
  exact ⟨A2, c2, rs2, A5, D.length, rfl, hrl2, hS4.sub (List.Sublist.cons_cons _ (by rw [List.append_nil]; exact List.sublist_cons_self _ _))⟩
/-
 Eulerian complexes: the program's test, walked.
-/
def evP : List (List Int × Int) → List Int → Int
 | [], _ => 0
 | q :: r, x => (if q.1 = x then q.2 else 0) + evP r x
theorem evP_append : ∀ (a b : List (List Int × Int)) (x : List Int), evP (a ++ b) x = evP a x + evP b x
 | [], b, x => by simp [evP]
 | q :: r, b, x => by rw [List.cons_append, evP, evP, evP_append r b x]; omega
theorem evP_bd : ∀ {Q : List (List Int × Int)} (x : List Int), (∀ q ∈ Q, -1 ≤ q.2 ∧ q.2 ≤ 1) → -(Q.length : Int) ≤ evP Q x ∧ evP Q x ≤ Q.length
 | [], x, _ => by simp [evP]
 | q :: r, x, h => by
  have h1 := evP_bd (Q := r) x fun p hp => h p (List.mem_cons_of_mem _ hp)
  have h2 := h q (by simp)
  rw [evP, List.length_cons]
  split <;> omega
def sgE (n k : Nat) : Int := if ((n : Int) - (k : Int)) % 2 = 1 then 1 else -1
def qD (x : List Int) (n k j : Nat) : List (List Int × Int) := ((ptsP x k).take j).map fun p => (p, sgE n k)
def qC (x : List Int) (n k : Nat) : List (List Int × Int) := (List.range k).flatMap fun k' => qD x n k' (ptsP x k').length
def qB (F : List (List Int)) (n i : Nat) : List (List Int × Int) := ((fcs F n).take i).flatMap fun x => qC x n n
def qA (F : List (List Int)) (n : Nat) : List (List Int × Int) := (List.range n).flatMap fun n' => qB F n' (fcs F n').length
theorem qD_succ {x : List Int} {n k j : Nat} (h : j < (ptsP x k).length) : qD x n k (j + 1) = qD x n k j ++ [(gl (ptsP x k) (j : Int), sgE n k)] := by
 unfold qD; rw [take_succ_gl h, List.map_append]; rfl
theorem qC_succ (x : List Int) (n k : Nat) : qC x n (k + 1) = qC x n k ++ qD x n k (ptsP x k).length := by unfold qC; rw [List.range_succ, List.flatMap_append]; simp
theorem qB_succ {F : List (List Int)} {n i : Nat} (h : i < (fcs F n).length) : qB F n (i + 1) = qB F n i ++ qC (gl (fcs F n) (i : Int)) n n := by unfold qB; rw [take_succ_gl h, List.flatMap_append]; simp
theorem qA_succ (F : List (List Int)) (n : Nat) : qA F (n + 1) = qA F n ++ qB F n (fcs F n).length := by unfold qA; rw [List.range_succ, List.flatMap_append]; simp
theorem qA_one (F : List (List Int)) : qA F 1 = [] := by
 unfold qA
 simp [qB, fcs_zero, qC]
theorem flat_len {α β : Type} {f : α → List β} {b : Nat} : ∀ {l : List α}, (∀ a ∈ l, (f a).length ≤ b) → (l.flatMap f).length ≤ b * l.length
 | [], _ => by simp
 | a :: r, h => by
  have h1 := flat_len (l := r) fun x hx => h x (List.mem_cons_of_mem _ hx)
  have h2 := h a (by simp)
  rw [List.flatMap_cons, List.length_append, List.length_cons, Nat.mul_succ]; omega
theorem qD_len (x : List Int) (n k j : Nat) (h : x.length ≤ 6) : (qD x n k j).length ≤ 64 := by
 have := ptsP_small (l := x) k h
 unfold qD
 rw [List.length_map, List.length_take]; omega
theorem qC_len (x : List Int) (n k : Nat) (h : x.length ≤ 6) : (qC x n k).length ≤ 64 * k := by
 have := flat_len (f := fun k' => qD x n k' (ptsP x k').length) (b := 64) (l := List.range k) fun a _ => qD_len x n a _ h
 simpa [qC] using this
theorem qB_len {F : List (List Int)} {n i : Nat} (hn : n ≤ 6) : (qB F n i).length ≤ 384 * (fcs F n).length := by
 have := flat_len (f := fun x => qC x n n) (b := 384) (l := (fcs F n).take i) fun x hx => by
  have h1 := fcs_len (List.mem_of_mem_take hx)
  have := qC_len x n n (by omega)
  omega
 have h2 : ((fcs F n).take i).length ≤ (fcs F n).length := by simp; omega
 have h3 : 384 * ((fcs F n).take i).length ≤ 384 * (fcs F n).length := Nat.mul_le_mul_left _ h2
 exact Nat.le_trans this h3
theorem qA_len {F : List (List Int)} {n : Nat} (hn : n ≤ 7) (hF : F.length ≤ 400) (h6 : ∀ f ∈ F, f.length ≤ 6) : (qA F n).length ≤ 10000000 * n := by
 have := flat_len (f := fun n' => qB F n' (fcs F n').length) (b := 10000000) (l := List.range n) fun a ha => by
  have ha := List.mem_range.1 ha
  have h1 := qB_len (F := F) (n := a) (i := (fcs F a).length) (by omega)
  have h2 := fcs_num a h6
  omega
 simpa [qA] using this
theorem sgE_bd (n k : Nat) : -1 ≤ sgE n k ∧ sgE n k ≤ 1 := by unfold sgE; split <;> omega
theorem qD_sg {x : List Int} {n k j : Nat} : ∀ q ∈ qD x n k j, -1 ≤ q.2 ∧ q.2 ≤ 1 := fun q hq => by
 obtain ⟨p, _, rfl⟩ := List.mem_map.1 hq
 exact sgE_bd n k
theorem qC_sg {x : List Int} {n k : Nat} : ∀ q ∈ qC x n k, -1 ≤ q.2 ∧ q.2 ≤ 1 := fun q hq => by
 obtain ⟨a, _, h⟩ := List.mem_flatMap.1 hq
 exact qD_sg q h
theorem qB_sg {F : List (List Int)} {n i : Nat} : ∀ q ∈ qB F n i, -1 ≤ q.2 ∧ q.2 ≤ 1 := fun q hq => by
 obtain ⟨a, _, h⟩ := List.mem_flatMap.1 hq
 exact qC_sg q h
theorem qA_sg {F : List (List Int)} {n : Nat} : ∀ q ∈ qA F n, -1 ≤ q.2 ∧ q.2 ≤ 1 := fun q hq => by
 obtain ⟨a, _, h⟩ := List.mem_flatMap.1 hq
 exact qB_sg q h
def MpE (L : List (ByteArray × Int)) (Q : List (List Int × Int)) : Prop := ∀ x, (getA L (keyB x)).getD 0 = evP Q x
theorem MpE.put {L : List (ByteArray × Int)} {Q : List (List Int × Int)} (h : MpE L Q) (p : List Int) {s v : Int} (hv : v = evP Q p + s) : MpE (putA L (keyB p) v) (Q ++ [(p, s)]) := fun x => by
 rw [getA_put, evP_append]
 by_cases e : keyB p = keyB x
 ·have e2 := keyB_inj e
  subst e2
  rw [if_pos rfl]
  simp [evP, hv]
 ·have e2 : ¬ p = x := fun h => e (by rw [h])
  rw [if_neg e, h x]
  simp [evP, e2]
def elT (d k : Nat) : Int := 2 * (((d : Int) - (k : Int)) % 2)
def EulI (F : List (List Int)) : Prop := Pure F ∧ ∀ k, k < dpt F → ∀ x ∈ fcs F k, evP (qA F (dpt F + 1)) x = elT (dpt F) k
instance (F : List (List Int)) : Decidable (EulI F) := by unfold EulI; exact inferInstance
abbrev cmE (g : Nat) (L : List (ByteArray × Int)) : Ck := CkM 95 g (prV Value.string (Value.int .i64) L)
set_option maxHeartbeats 4000000 in
theorem isEulerian_c (Pc : Option Addr) (V : Int) (A : Option Addr) (n c : Nat) (rs : List SlV) (F : List (List Int)) (w : World) (hT : Tab w) (hP : Rd w Pc 2 (fun j => [Value.int .i64 V, .slice A n c].getD j undef)) (hR : RowsI w A n rs F) (hC : Cplx V F) :
    Ret Tryz.prog 46 [.pointer Pc] w (fun v w' => v = .bool (decide (EulI F)) ∧ St w w' []) := by
  have hFl := hR.len
  have hF4 := hC.f
  have h6 : ∀ f ∈ F, f.length ≤ 6 := fun f hf => (hC.row f hf).1.2
  have hd := dpt_bd h6
  have h6' : ∀ f ∈ F, f.length ≤ 1000000 := fun f hf => by have := h6 f hf; omega
  have hGb : ∀ q, ∀ y ∈ fcs F q, ∀ a ∈ y, -9223372036854775808 ≤ a ∧ a ≤ 9223372036854775807 := fun q y hy a ha => by
    by_cases e : q = 0
    · subst e; have := fcs_len hy; rw [List.eq_nil_of_length_eq_zero this] at ha; cases ha
    obtain ⟨f, hf, hs, _⟩ := (fcs_pos (by omega)).1 hy
    have := (hC.row f hf).2.2 a (hs.subset ha)
    have := hC.v
    omega
  refine Ret.of_cd Tryz.func46 rfl Tryz.ntmps46 rfl (post1 rfl) (Cd.seq (Cd.region (Ops.mb rfl rfl rfl (Ops.n (tQ (Cd.seq (Cd.seq (Cd.region (Ops.mv_ptr rfl rfl rfl ?_)))))))))
  refine Ops.call (isPure_c Pc V A n c rs F _ hP hR (by omega) h6') rfl rfl rfl ?_
  rintro _ w1 ⟨rfl, hst1⟩
  first | refine Ops.not_p rfl rfl ?_ | refine Ops.not rfl rfl ?_
  refine Ops.n (tQ ?_)
  refine Cd.cond_p _ rfl (fun h1 => ?_) (fun h1 => ?_)
  · refine Cd.seq (Cd.region (Ops.mb rfl rfl rfl (Ops.n (tQ (Cd.ret (thenQ_r (ret1_b rfl ?_)))))))
    exact ⟨by rw [decide_eq_false fun h : EulI F => h1 h.1], hst1⟩
  have hpu := Classical.not_not.1 h1
  refine Cd.skip (tQ (Cd.seq (Cd.region (Ops.mv_ptr rfl rfl rfl (Ops.call (depth_c Pc V A n c rs F _ (hst1.old hP) (hst1.oldRows hR) (by omega) h6') rfl rfl rfl ?_)))))
  rintro _ w1 ⟨rfl, rfl⟩
  refine Ops.mi rfl rfl rfl (Ops.n (tQ (Cd.seq (Cd.region (Ops.mkmap hst1 rfl ?_)))))
  intro g w2 hS2
  have hS2 : St w w2 [cmE g []] := hS2
  clear hst1
  refine Ops.mv_map rfl rfl rfl (Ops.n (tQ (Cd.seq (Cd.seq (Cd.region (Ops.mi rfl rfl rfl (Ops.n (tQ (Cd.block ?_)))))))))
  refine Cd.loop (α := Nat × List (ByteArray × Int)) (fun z => [(0, .pointer Pc), (3, .int .i64 (dpt F : Int)), (4, .map (some g)), (5, .int .i64 (z.1 : Int))])
    (fun z w' => z.1 ≤ dpt F + 1 ∧ 1 ≤ z.1 ∧ MpE z.2 (qA F z.1) ∧ St w w' [cmE g z.2]) (fun z => dpt F + 1 - z.1) (1, []) ⟨rfl, rfl, rfl, rfl, trivial⟩ ⟨by show 1 ≤ dpt F + 1; omega, Nat.le_refl _, by show MpE [] (qA F 1); rw [qA_one]; exact fun _ => rfl, hS2⟩ ?_
  clear hS2
  rintro ⟨n2, L⟩ e w3 ⟨hn2, hn1, hL, hS⟩
  dsimp only at hn2 hn1 hL hS ⊢
  refine Cd.seq (Cd.seq (Cd.region (Ops.mi rfl rfl rfl (Ops.mi rfl rfl rfl (Ops.leq rfl rfl rfl (Ops.n (tQ ?_)))))))
  refine Cd.cond_p _ rfl (fun h2 => ?_) (fun h2 => ?_)
  · have hGl := fcs_num n2 h6
    have hall := qA_succ F n2
    have hb0 : qB F n2 0 = [] := rfl
    have hbs := fun i h => qB_succ (F := F) (n := n2) (i := i) h
    have hqa := qA_len (F := F) (n := n2) (by omega) hF4 h6
    have hqb := fun i => qB_len (F := F) (n := n2) (i := i) (by omega)
    have hfl : ∀ y ∈ fcs F n2, y.length = n2 := fun y hy => fcs_len hy
    have hfb := hGb n2
    refine Cd.skip (tQ (Cd.seq (Cd.block (Cd.seq (Cd.region (Ops.mv_ptr rfl rfl rfl (Ops.mi rfl rfl rfl ?_)))))))
    have hfw := facesWith_c Pc V A n c rs F n2 w3 (hS.old hP) (hS.oldRows hR) (by omega) h6 (by omega)
    generalize hG : fcs F n2 = G at *
    refine Ops.call hfw rfl rfl rfl ?_
    rintro _ w4 ⟨A27, c27, rs27, rfl, hrl27, hst⟩
    have hS4 : St w w4 (cmE g L :: (mat 28 2 A27 G.length c27 rs27 G ++ [])) := by
      have := hS.call hst
      exact this.perm List.perm_append_comm
    clear hfw hst
    refine Ops.len rfl rfl (Ops.mi rfl rfl rfl (Ops.n (tQ (Cd.block ?_))))
    refine Cd.loop (α := Nat × List (ByteArray × Int)) (fun z => [(0, .pointer Pc), (3, .int .i64 (dpt F : Int)), (4, .map (some g)), (5, .int .i64 (n2 : Int)), (27, .slice A27 G.length c27), (28, .int .i64 (G.length : Int)), (29, .int .i64 (z.1 : Int))])
      (fun z w' => z.1 ≤ G.length ∧ MpE z.2 (qA F n2 ++ qB F n2 z.1) ∧ St w w' (cmE g z.2 :: (mat 28 2 A27 G.length c27 rs27 G ++ []))) (fun z => G.length - z.1) (0, L) ⟨rfl, rfl, rfl, rfl, rfl, rfl, rfl, trivial⟩ ⟨Nat.zero_le _, by show MpE L (qA F n2 ++ qB F n2 0); rw [hb0, List.append_nil]; exact hL, hS4⟩ ?_
    clear hS4 hS hL
    rintro ⟨i, L⟩ e w5 ⟨hi, hL, hS⟩
    dsimp only at hi hL hS ⊢
    refine Cd.seq (Cd.region (Ops.lss rfl rfl rfl (Ops.n (tQ (Cd.seq ?_)))))
    refine Cd.cond_p _ rfl (fun h3 => ?_) (fun h3 => ?_)
    · have hiG : i < G.length := by omega
      have hM27 := hS.tail.rowsI (show G.length = G.length from rfl)
      have hr0 := hM27.at_ (i := (i : Int)) (by omega) (by omega)
      have hcap := hM27.cap_ (i := (i : Int)) (by omega) (by omega)
      have hrl0 := hr0.1
      have hgm : gl G (i : Int) ∈ G := by rw [gl_mem hiG]; exact List.getElem_mem _
      have hxl := hfl _ hgm
      have hxb := hfb _ hgm
      have hbi := hbs i hiG
      have hqbi := hqb i
      have hc0 : qC (gl G (i : Int)) n2 0 = [] := rfl
      generalize hx : gl G (i : Int) = x at *
      refine Cd.skip (tQ (Cd.seq (Cd.block (Cd.seq (Cd.region (Ops.idx hM27.top.2 rfl rfl rfl (by omega) (by omega) (Ops.ld_sl hM27.top rfl (by omega) rfl rfl (Ops.ms rfl rfl rfl (Ops.n ?_)))))))))
      refine tQ (Cd.seq (Cd.region (Ops.mi rfl rfl rfl (Ops.mi rfl rfl rfl (Ops.n (tQ (Cd.block ?_)))))))
      refine Cd.loop (α := Nat × List (ByteArray × Int)) (fun z => [(0, .pointer Pc), (3, .int .i64 (dpt F : Int)), (4, .map (some g)), (5, .int .i64 (n2 : Int)), (7, .slice (rg rs27 (i : Int)).a (rg rs27 (i : Int)).n (rg rs27 (i : Int)).c), (27, .slice A27 G.length c27), (28, .int .i64 (G.length : Int)), (29, .int .i64 (i : Int)), (33, .int .i64 (n2 : Int)), (34, .int .i64 (z.1 : Int))])
        (fun z w' => z.1 ≤ n2 ∧ MpE z.2 (qA F n2 ++ qB F n2 i ++ qC x n2 z.1) ∧ St w w' (cmE g z.2 :: (mat 28 2 A27 G.length c27 rs27 G ++ []))) (fun z => n2 - z.1) (0, L) ⟨rfl, rfl, rfl, rfl, rfl, rfl, rfl, rfl, rfl, rfl, trivial⟩ ⟨Nat.zero_le _, by show MpE L (qA F n2 ++ qB F n2 i ++ qC x n2 0); rw [hc0, List.append_nil]; exact hL, hS⟩ ?_
      clear hS hL hM27 hr0
      rintro ⟨k, L⟩ e w6 ⟨hk, hL, hS⟩
      dsimp only at hk hL hS ⊢
      refine Cd.seq (Cd.region (Ops.lss rfl rfl rfl (Ops.n (tQ (Cd.seq ?_)))))
      refine Cd.cond_p _ rfl (fun h4 => ?_) (fun h4 => ?_)
      · have hM27 := hS.tail.rowsI (show G.length = G.length from rfl)
        have hr0 := hM27.at_ (i := (i : Int)) (by omega) (by omega)
        rw [hx] at hr0
        have hcs := qC_succ x n2 k
        have hd0 : qD x n2 k 0 = [] := rfl
        have hds := fun j h => qD_succ (x := x) (n := n2) (k := k) (j := j) h
        have hNl := ptsP_small (l := x) k (by omega)
        have hqc := qC_len x n2 k (by omega)
        have hqd := fun j => qD_len x n2 k j (by omega)
        have hpb : ∀ p ∈ ptsP x k, (∀ a ∈ p, -9223372036854775808 ≤ a ∧ a ≤ 9223372036854775807) ∧ p.length ≤ 6 := fun p hp => ⟨fun a ha => hxb a ((ptsP_mem.1 hp).1.subset ha), by have := (ptsP_mem.1 hp).1.length_le; omega⟩
        refine Cd.skip (tQ (Cd.seq (Cd.block (Cd.seq (Cd.region (Ops.mi rfl rfl rfl (Ops.mi rfl rfl rfl (Ops.n (tQ ?_)))))))))
        refine Cd.seq (Cd.region (Ops.ms rfl rfl rfl (Ops.mi rfl rfl rfl (Ops.call (partsOf_c k _ _ _ x _ hr0 hcap.1 (by omega) (by omega)) rfl rfl rfl ?_))))
        rintro _ w7 ⟨A39, c39, rs39, rfl, hrl39, hst⟩
        generalize hN : ptsP x k = N at *
        have hS7 : St w w7 (cmE g L :: (mat 28 2 A39 N.length c39 rs39 N ++ (mat 28 2 A27 G.length c27 rs27 G ++ []))) := by
          have := hS.call hst
          rw [List.append_nil] at this
          exact this.perm List.perm_middle
        clear hst hS hM27 hr0
        refine Ops.len rfl rfl (Ops.mi rfl rfl rfl (Ops.n (tQ (Cd.block ?_))))
        refine Cd.loop (α := Nat × List (ByteArray × Int)) (fun z => [(0, .pointer Pc), (3, .int .i64 (dpt F : Int)), (4, .map (some g)), (5, .int .i64 (n2 : Int)), (7, .slice (rg rs27 (i : Int)).a (rg rs27 (i : Int)).n (rg rs27 (i : Int)).c), (8, .int .i64 (k : Int)), (27, .slice A27 G.length c27), (28, .int .i64 (G.length : Int)), (29, .int .i64 (i : Int)), (33, .int .i64 (n2 : Int)), (34, .int .i64 (k : Int)), (39, .slice A39 N.length c39), (40, .int .i64 (N.length : Int)), (41, .int .i64 (z.1 : Int))])
          (fun z w' => z.1 ≤ N.length ∧ MpE z.2 (qA F n2 ++ qB F n2 i ++ qC x n2 k ++ qD x n2 k z.1) ∧ St w w' (cmE g z.2 :: (mat 28 2 A39 N.length c39 rs39 N ++ (mat 28 2 A27 G.length c27 rs27 G ++ [])))) (fun z => N.length - z.1) (0, L) ⟨rfl, rfl, rfl, rfl, rfl, rfl, rfl, rfl, rfl, rfl, rfl, rfl, rfl, rfl, trivial⟩ ⟨Nat.zero_le _, by show MpE L (_ ++ qD x n2 k 0); rw [hd0, List.append_nil]; exact hL, hS7⟩ ?_
        clear hS7 hL
        rintro ⟨j, L⟩ e w8 ⟨hj, hL, hS⟩
        dsimp only at hj hL hS ⊢
        refine Cd.seq (Cd.region (Ops.lss rfl rfl rfl (Ops.n (tQ (Cd.seq ?_)))))
        refine Cd.cond_p _ rfl (fun h5 => ?_) (fun h5 => ?_)
        · have hjN : j < N.length := by omega
          have hM39 := hS.tail.rowsI (show N.length = N.length from rfl)
          have hr1 := hM39.at_ (i := (j : Int)) (by omega) (by omega)
          have hrl1 := hr1.1
          have hpm : gl N (j : Int) ∈ N := by rw [gl_mem hjN]; exact List.getElem_mem _
          obtain ⟨hgb, hgl6⟩ := hpb _ hpm
          have hsuc := hds j hjN
          have hqdj := hqd j
          have hlQ : (qA F n2 ++ qB F n2 i ++ qC x n2 k ++ qD x n2 k j).length ≤ 100000000 := by simp only [List.length_append]; omega
          have hbQ := evP_bd (Q := qA F n2 ++ qB F n2 i ++ qC x n2 k ++ qD x n2 k j) (gl N (j : Int)) (fun q hq => by
            rcases List.mem_append.1 hq with hq | hq
            · rcases List.mem_append.1 hq with hq | hq
              · rcases List.mem_append.1 hq with hq | hq
                · exact qA_sg q hq
                · exact qB_sg q hq
              · exact qC_sg q hq
            · exact qD_sg q hq)
          generalize hQ : qA F n2 ++ qB F n2 i ++ qC x n2 k ++ qD x n2 k j = Q at *
          refine Cd.skip (tQ (Cd.seq (Cd.block (Cd.seq (Cd.region (Ops.idx hM39.top.2 rfl rfl rfl (by omega) (by omega) (Ops.ld_sl hM39.top rfl (by omega) rfl rfl (Ops.ms rfl rfl rfl (Ops.n ?_)))))))))
          refine tQ (Cd.seq (Cd.region (Ops.mi rfl rfl rfl (Ops.mi rfl rfl rfl (Ops.sub rfl rfl rfl (by omega) (Ops.rem rfl rfl rfl (by omega) (Ops.eql rfl rfl rfl (Ops.n (tQ ?_)))))))))
          refine Cd.cond_p _ rfl (fun h7 => ?_) (fun h7 => ?_)
          · refine Cd.region (Ops.mv_map rfl rfl rfl (Ops.ms rfl rfl rfl (Ops.call (keyOf_c _ _ _ (gl N (j : Int)) _ (hT.later hS.below) hr1 hgb (by omega)) rfl rfl rfl ?_)))
            rintro _ w9 ⟨rfl, hst⟩
            have hS9 := hS.later hst.below
            refine Ops.lookI keyS (keyB (gl N (j : Int))) (hS9.rdM 0 rfl) rfl rfl rfl ?_
            rw [hL (gl N (j : Int))]
            refine Ops.add rfl rfl rfl (by omega) (Ops.upm rfl keyS 0 (u := evP Q (gl N (j : Int)) + 1) (a := keyB (gl N (j : Int))) hS9 rfl rfl rfl rfl ?_)
            intro w10 hS10
            refine Ops.n (blockQ_n (tQ (Cd.region (Ops.add rfl rfl rfl (by omega) (Ops.mi rfl rfl rfl (Ops.n (tQ ?_)))))))
            refine ⟨(j + 1, putA L (keyB (gl N (j : Int))) (evP Q (gl N (j : Int)) + 1)), by show N.length - (j + 1) < N.length - j; omega, ⟨rfl, rfl, rfl, rfl, rfl, rfl, rfl, rfl, rfl, rfl, rfl, rfl, rfl, rfl, trivial⟩, by show j + 1 ≤ N.length; omega, ?_, hS10⟩
            show MpE _ (qA F n2 ++ qB F n2 i ++ qC x n2 k ++ qD x n2 k (j + 1))
            rw [hsuc, ← List.append_assoc, hQ]
            exact hL.put (gl N (j : Int)) (s := sgE n2 k) (v := evP Q (gl N (j : Int)) + 1) (by unfold sgE; rw [if_pos h7]; try omega)
          · refine Cd.region (Ops.mv_map rfl rfl rfl (Ops.ms rfl rfl rfl (Ops.call (keyOf_c _ _ _ (gl N (j : Int)) _ (hT.later hS.below) hr1 hgb (by omega)) rfl rfl rfl ?_)))
            rintro _ w9 ⟨rfl, hst⟩
            have hS9 := hS.later hst.below
            refine Ops.lookI keyS (keyB (gl N (j : Int))) (hS9.rdM 0 rfl) rfl rfl rfl ?_
            rw [hL (gl N (j : Int))]
            refine Ops.sub rfl rfl rfl (by omega) (Ops.upm rfl keyS 0 (u := evP Q (gl N (j : Int)) - 1) (a := keyB (gl N (j : Int))) hS9 rfl rfl rfl rfl ?_)
            intro w10 hS10
            refine Ops.n (blockQ_n (tQ (Cd.region (Ops.add rfl rfl rfl (by omega) (Ops.mi rfl rfl rfl (Ops.n (tQ ?_)))))))
            refine ⟨(j + 1, putA L (keyB (gl N (j : Int))) (evP Q (gl N (j : Int)) - 1)), by show N.length - (j + 1) < N.length - j; omega, ⟨rfl, rfl, rfl, rfl, rfl, rfl, rfl, rfl, rfl, rfl, rfl, rfl, rfl, rfl, trivial⟩, by show j + 1 ≤ N.length; omega, ?_, hS10⟩
            show MpE _ (qA F n2 ++ qB F n2 i ++ qC x n2 k ++ qD x n2 k (j + 1))
            rw [hsuc, ← List.append_assoc, hQ]
            exact hL.put (gl N (j : Int)) (s := sgE n2 k) (v := evP Q (gl N (j : Int)) - 1) (by unfold sgE; rw [if_neg h7]; try omega)
        · have hje : j = N.length := by omega
          rw [hje, List.append_assoc, ← hcs] at hL
          refine Cd.exit (thenQ_x (thenQ_x (blockQ_x (blockQ_n (tQ (Cd.region (Ops.add rfl rfl rfl (by omega) (Ops.mi rfl rfl rfl (Ops.n ?_)))))))))
          refine tQ ?_
          refine ⟨(k + 1, L), by show n2 - (k + 1) < n2 - k; omega, ⟨rfl, rfl, rfl, rfl, rfl, rfl, rfl, rfl, rfl, rfl, trivial⟩, by show k + 1 ≤ n2; omega, hL, ?_⟩
          exact hS.sub (List.Sublist.cons_cons _ (List.sublist_append_right _ _))
      · have hke : k = n2 := by omega
        rw [hke, List.append_assoc, ← hbi] at hL
        refine Cd.exit (thenQ_x (thenQ_x (blockQ_x (blockQ_n (tQ (Cd.region (Ops.add rfl rfl rfl (by omega) (Ops.mi rfl rfl rfl (Ops.n ?_)))))))))
        refine tQ ?_
        exact ⟨(i + 1, L), by show G.length - (i + 1) < G.length - i; omega, ⟨rfl, rfl, rfl, rfl, rfl, rfl, rfl, trivial⟩, by show i + 1 ≤ G.length; omega, hL, hS⟩
    · have hie : i = G.length := by omega
      rw [hie, ← hall] at hL
      refine Cd.exit (thenQ_x (thenQ_x (blockQ_x (blockQ_n (tQ (Cd.region (Ops.mi rfl rfl rfl (Ops.add rfl rfl rfl (by omega) (Ops.mi rfl rfl rfl ?_)))))))))
      refine Ops.n (tQ ?_)
      exact ⟨(n2 + 1, L), by show dpt F + 1 - (n2 + 1) < dpt F + 1 - n2; omega, ⟨rfl, rfl, rfl, rfl, trivial⟩, by show n2 + 1 ≤ dpt F + 1; omega, by show 1 ≤ n2 + 1; omega, hL, hS.sub (List.Sublist.cons_cons _ (List.nil_sublist _))⟩
  · have hne : n2 = dpt F + 1 := by omega
    rw [hne] at hL
    have hEul : EulI F ↔ ∀ k, k < dpt F → ∀ x ∈ fcs F k, evP (qA F (dpt F + 1)) x = elT (dpt F) k := ⟨fun h => h.2, fun h => ⟨hpu, h⟩⟩
    generalize qA F (dpt F + 1) = Q at *
    refine Cd.exit (thenQ_x (thenQ_x (blockQ_x (tQ (Cd.seq (Cd.seq (Cd.region (Ops.mi rfl rfl rfl (Ops.mi rfl rfl rfl ?_)))))))))
    refine Ops.n (tQ (Cd.block ?_))
    refine Cd.loop (α := Nat) (fun z => [(0, .pointer Pc), (3, .int .i64 (dpt F : Int)), (4, .map (some g)), (63, .int .i64 (dpt F : Int)), (64, .int .i64 (z : Int))])
      (fun z w' => z ≤ dpt F ∧ (∀ k, k < z → ∀ x ∈ fcs F k, evP Q x = elT (dpt F) k) ∧ St w w' [cmE g L]) (fun z => dpt F - z) 0 ⟨rfl, rfl, rfl, rfl, rfl, trivial⟩ ⟨Nat.zero_le _, (fun k hk => absurd hk (by omega)), hS⟩ ?_
    clear hS
    rintro k e w4 ⟨hk, hE, hS⟩
    refine Cd.seq (Cd.region (Ops.lss rfl rfl rfl (Ops.n (tQ (Cd.seq ?_)))))
    refine Cd.cond_p _ rfl (fun h3 => ?_) (fun h3 => ?_)
    · have hfb := hGb k
      have hGl := fcs_num k h6
      have hfl : ∀ y ∈ fcs F k, y.length = k := fun y hy => fcs_len hy
      refine Cd.skip (tQ (Cd.seq (Cd.block (Cd.seq (Cd.region (Ops.mi rfl rfl rfl (Ops.mi rfl rfl rfl (Ops.n (tQ ?_)))))))))
      refine Cd.seq (Cd.region (Ops.mv_ptr rfl rfl rfl (Ops.mi rfl rfl rfl (Ops.call (facesWith_c Pc V A n c rs F k w4 (hS.old hP) (hS.oldRows hR) (by omega) h6 (by omega)) rfl rfl rfl ?_))))
      rintro _ w5 ⟨A69, c69, rs69, rfl, hrl69, hst⟩
      have hS5 : St w w5 (cmE g L :: (mat 28 2 A69 (fcs F k).length c69 rs69 (fcs F k) ++ [])) := (hS.call hst).perm List.perm_append_comm
      have hkE : ∀ {i : Nat} (hi : i < (fcs F k).length), evP Q (gl (fcs F k) (i : Int)) ≠ elT (dpt F) k → ¬ EulI F := fun hi hne h => hne (hEul.1 h k (by omega) _ (by rw [gl_mem hi]; exact List.getElem_mem _))
      clear hst hS
      generalize hG : fcs F k = G at *
      refine Ops.len rfl rfl (Ops.mi rfl rfl rfl (Ops.n (tQ (Cd.block ?_))))
      refine Cd.loop (α := Nat) (fun z => [(0, .pointer Pc), (3, .int .i64 (dpt F : Int)), (4, .map (some g)), (11, .int .i64 (k : Int)), (63, .int .i64 (dpt F : Int)), (64, .int .i64 (k : Int)), (69, .slice A69 G.length c69), (70, .int .i64 (G.length : Int)), (71, .int .i64 (z : Int))])
        (fun z w' => z ≤ G.length ∧ (∀ j, j < z → evP Q (gl G (j : Int)) = elT (dpt F) k) ∧ St w w' (cmE g L :: (mat 28 2 A69 G.length c69 rs69 G ++ []))) (fun z => G.length - z) 0 ⟨rfl, rfl, rfl, rfl, rfl, rfl, rfl, rfl, rfl, trivial⟩ ⟨Nat.zero_le _, (fun j hj => absurd hj (by omega)), hS5⟩ ?_
      clear hS5
      rintro i e w6 ⟨hi, hJ, hS⟩
      refine Cd.seq (Cd.region (Ops.lss rfl rfl rfl (Ops.n (tQ (Cd.seq ?_)))))
      refine Cd.cond_p _ rfl (fun h4 => ?_) (fun h4 => ?_)
      · have hiG : i < G.length := by omega
        have hM69 := hS.tail.rowsI (show G.length = G.length from rfl)
        have hr0 := hM69.at_ (i := (i : Int)) (by omega) (by omega)
        have hrl0 := hr0.1
        have hgm : gl G (i : Int) ∈ G := by rw [gl_mem hiG]; exact List.getElem_mem _
        have hlen := hfl _ hgm
        refine Cd.skip (tQ (Cd.seq (Cd.block (Cd.seq (Cd.region (Ops.idx hM69.top.2 rfl rfl rfl (by omega) (by omega) (Ops.ld_sl hM69.top rfl (by omega) rfl rfl (Ops.ms rfl rfl rfl (Ops.n ?_)))))))))
        refine tQ (Cd.seq (Cd.region (Ops.mv_map rfl rfl rfl (Ops.ms rfl rfl rfl (Ops.call (keyOf_c _ _ _ (gl G (i : Int)) _ (hT.later hS.below) hr0 (hfb _ hgm) (by omega)) rfl rfl rfl ?_)))))
        rintro _ w9 ⟨rfl, hst⟩
        have hS9 := hS.later hst.below
        refine Ops.lookI keyS (keyB (gl G (i : Int))) (hS9.rdM 0 rfl) rfl rfl rfl ?_
        rw [hL (gl G (i : Int))]
        refine Ops.mi rfl rfl rfl (Ops.mi rfl rfl rfl (Ops.sub rfl rfl rfl (by omega) (Ops.rem rfl rfl rfl (by omega) (Ops.mul rfl rfl rfl (by omega) (Ops.neq rfl rfl rfl (Ops.n (tQ ?_)))))))
        refine Cd.cond_p _ rfl (fun h5 => ?_) (fun h5 => ?_)
        · refine Cd.seq (Cd.region (Ops.mb rfl rfl rfl (Ops.n (tQ (Cd.ret (blockQ_r (thenQ_r (thenQ_r (blockQ_r ?_)))))))))
          refine blockQ_r (thenQ_r (thenQ_r (blockQ_r (thenQ_r (ret1_b rfl ?_)))))
          exact ⟨by rw [decide_eq_false (hkE hiG h5)], hS9.none⟩
        · have h5 := Classical.not_not.1 h5
          refine Cd.skip (blockQ_n (tQ (Cd.region (Ops.add rfl rfl rfl (by omega) (Ops.mi rfl rfl rfl (Ops.n (tQ ?_)))))))
          exact ⟨i + 1, by show G.length - (i + 1) < G.length - i; omega, ⟨rfl, rfl, rfl, rfl, rfl, rfl, rfl, rfl, rfl, trivial⟩, by omega, fun j hj => by
            by_cases ej : j = i
            · subst ej; exact h5
            · exact hJ j (by omega), hS9⟩
      · refine Cd.exit (thenQ_x (thenQ_x (blockQ_x (blockQ_n (tQ (Cd.region (Ops.add rfl rfl rfl (by omega) (Ops.mi rfl rfl rfl (Ops.n ?_)))))))))
        refine tQ ?_
        refine ⟨k + 1, by show dpt F - (k + 1) < dpt F - k; omega, ⟨rfl, rfl, rfl, rfl, rfl, trivial⟩, by omega, fun k' hk' x hx => ?_, hS.sub (List.Sublist.cons_cons _ (List.nil_sublist _))⟩
        by_cases ek : k' = k
        · subst ek
          rw [hG] at hx
          obtain ⟨j, hj, rfl⟩ := List.mem_iff_getElem.1 hx
          have := hJ j (by omega)
          rwa [gl_mem hj] at this
        · exact hE k' (by omega) x hx
    · have hke : k = dpt F := by omega
      rw [hke] at hE
      refine Cd.exit (thenQ_x (thenQ_x (blockQ_x (tQ (Cd.seq (Cd.region (Ops.mb rfl rfl rfl (Ops.n (tQ ?_)))))))))
      refine Cd.ret (ret1_b rfl ?_)
      exact ⟨by rw [decide_eq_true (hEul.2 hE)], hS.none⟩
/-
 Eulerian complexes: both sides' functions, walked.
-/
theorem gi_drop1 (f : List Int) (j : Nat) : gi (f.drop 1) (j : Int) = gi f (((j + 1 : Nat)) : Int) := by
 simp only [gi, Int.toNat_natCast, List.getD_eq_getElem?_getD, List.getElem?_drop, Nat.add_comm 1 j]
theorem l17Euler_c (A : Option Addr) (n c : Nat) (f : List Int) (w : World) (hR : RdI w A n f) (hn : n ≤ 1000) (h1 : 1 ≤ n) (hb : ∀ x ∈ f, 0 ≤ x ∧ x ≤ 30000) :
    Ret Tryz.prog 48 [.slice A n c] w (fun v w' => v = .int .i64 (altS (f.drop 1)) ∧ w' = w) := by
  have hfl := hR.1
  have hdl : (f.drop 1).length = n - 1 := by simp; omega
  refine Ret.of_cd Tryz.func48 rfl Tryz.ntmps48 rfl (post1 rfl) (Cd.seq (Cd.region (Ops.mi rfl rfl rfl (Ops.n (tQ (Cd.seq (Cd.region (Ops.mi rfl rfl rfl (Ops.mi rfl rfl rfl ?_)))))))))
  refine Ops.n (tQ (Cd.seq (Cd.seq (Cd.region (Ops.mi rfl rfl rfl (Ops.n (tQ (Cd.block ?_))))))))
  refine Cd.loop (α := Nat) (fun z => [(0, .slice A n c), (3, .int .i64 (sumN z (altT (f.drop 1)))), (4, .int .i64 (if z % 2 = 0 then 1 else -1)), (5, .int .i64 ((z : Int) + 1))])
    (fun z w' => w' = w ∧ z ≤ n - 1) (fun z => n - 1 - z) 0 ⟨rfl, rfl, rfl, rfl, trivial⟩ ⟨rfl, Nat.zero_le _⟩ ?_
  rintro j e w1 ⟨rfl, hj⟩
  have hsb := sumN_bd (g := altT (f.drop 1)) (b := 30000) (by omega) (n := j) fun i hi => by
    have h1 := gi_bnd hb (i := i + 1) (by omega)
    rw [← gi_drop1] at h1
    unfold altT
    split <;> omega
  refine Cd.seq (Cd.seq (Cd.region (Ops.mi rfl rfl rfl (Ops.ms rfl rfl rfl (Ops.len rfl rfl (Ops.lss rfl rfl rfl (Ops.n (tQ ?_))))))))
  refine Cd.cond_p _ rfl (fun h2 => ?_) (fun h2 => ?_)
  · have hg := gi_bnd hb (i := j + 1) (by omega)
    have e1 : ((j : Int) + 1) = ((j + 1 : Nat) : Int) := by omega
    have hsu : sumN (j + 1) (altT (f.drop 1)) = sumN j (altT (f.drop 1)) + altT (f.drop 1) j := rfl
    have hat : altT (f.drop 1) j = if j % 2 = 0 then gi f ((j + 1 : Nat) : Int) else -gi f ((j + 1 : Nat) : Int) := by unfold altT; rw [gi_drop1]
    generalize hs : (if j % 2 = 0 then 1 else -1 : Int) = s
    have hs1 : s = 1 ∧ j % 2 = 0 ∨ s = -1 ∧ ¬ j % 2 = 0 := by
      by_cases e : j % 2 = 0
      · rw [if_pos e] at hs; exact .inl ⟨hs.symm, e⟩
      · rw [if_neg e] at hs; exact .inr ⟨hs.symm, e⟩
    have hm : s * gi f ((j + 1 : Nat) : Int) = altT (f.drop 1) j := by
      rw [hat]
      rcases hs1 with ⟨rfl, e⟩ | ⟨rfl, e⟩
      · rw [if_pos e, Int.one_mul]
      · rw [if_neg e, Int.neg_one_mul]
    have hmb : -30000 ≤ altT (f.drop 1) j ∧ altT (f.drop 1) j ≤ 30000 := by rw [hat]; split <;> omega
    refine Cd.skip (tQ (Cd.seq (Cd.block (Cd.seq (Cd.region (Ops.mi rfl rfl rfl (Ops.mi rfl rfl rfl (Ops.ms rfl rfl rfl (Ops.mi rfl rfl rfl ?_)))))))))
    refine Ops.idx hR.2 rfl rfl rfl (by omega) (by omega) (Ops.ld_int hR rfl (by omega) rfl rfl ?_)
    rw [e1]
    refine Ops.mul rfl rfl rfl (by rw [hm]; omega) ?_
    rw [hm]
    refine Ops.add rfl rfl rfl (by omega) (Ops.mi rfl rfl rfl (Ops.n (tQ (Cd.region (Ops.mi rfl rfl rfl (Ops.neg rfl rfl (by omega) (Ops.mi rfl rfl rfl (Ops.n (blockQ_n ?_)))))))))
    refine tQ (Cd.region (Ops.mi rfl rfl rfl (Ops.add rfl rfl rfl (by omega) (Ops.mi rfl rfl rfl (Ops.n (tQ ?_))))))
    refine ⟨j + 1, by show n - 1 - (j + 1) < n - 1 - j; omega, ⟨rfl, rfl, ?_, rfl, trivial⟩, rfl, by omega⟩
    show Value.int .i64 (-s) = .int .i64 (if (j + 1) % 2 = 0 then 1 else -1)
    congr 1
    rcases hs1 with ⟨rfl, e⟩ | ⟨rfl, e⟩
    · rw [if_neg (by omega)]
    · rw [if_pos (by omega)]; rfl
  · have hje : j = (f.drop 1).length := by omega
    refine Cd.exit (thenQ_x (thenQ_x (blockQ_x (tQ (Cd.seq (Cd.region (Ops.mi rfl rfl rfl (Ops.mi rfl rfl rfl (Ops.n ?_)))))))))
    refine tQ (Cd.ret (ret1_i rfl ?_))
    subst hje
    exact ⟨rfl, rfl⟩
def ieB (V : Int) (F : List (List Int)) : Bool := decide (Cplx V F ∧ EulI F)
theorem implIsEulerian_c (V : Int) (A : Option Addr) (n c : Nat) (rs : List SlV) (F : List (List Int)) (w : World) (hT : Tab w) (hR : RowsI w A n rs F) (hn : n ≤ 9223372036854775807) :
  Ret Tryz.prog 19 [.agg #[.int .i64 V, .slice A n c]] w (fun v w' => v = .tuple #[.bool (ieB V F), .int .i64 (hvK V F)] ∧ St w w' []) := by
 have hFl := hR.len
 refine Ret.of_cd Tryz.func19 rfl Tryz.ntmps19 rfl (post2 rfl) (Cd.seq (Cd.region (Ops.box2 (St.refl w) rfl rfl ?_)))
 intro Ab w1 hS1
 refine Ops.mb rfl rfl rfl (Ops.mi rfl rfl rfl (Ops.n (tQ (Cd.seq (Cd.seq (Cd.region (Ops.ld_agg 1 (hS1.rd 0 rfl) rfl rfl rfl (Ops.call (isComplex_c V A n c rs F _ (hT.later hS1.below) (hS1.oldRows hR) hn) rfl rfl rfl ?_))))))))
 rintro _ w2 ⟨rfl, hst⟩
 have hS2 := hS1.later hst.below
 unfold ieB hvK
 first | refine Ops.not_p rfl rfl ?_ | refine Ops.not rfl rfl ?_
 refine Ops.n (tQ ?_)
 refine Cd.cond_p _ rfl (fun h1 => ?_) (fun h1 => ?_)
 ·rw [if_neg h1, decide_eq_false fun h => h1 h.1]
  refine Cd.seq (Cd.region (Ops.mb rfl rfl rfl (Ops.mi rfl rfl rfl (Ops.n (tQ (Cd.ret (thenQ_r (ret2_bi rfl rfl ?_))))))))
  exact ⟨rfl, hS2.none⟩
 have hC := Classical.not_not.1 h1
 rw [if_pos hC]
 refine Cd.skip (tQ (Cd.seq (Cd.region (Ops.call (isEulerian_c Ab V A n c rs F _ (hT.later hS2.below) (hS2.rd 0 rfl) (hS2.oldRows hR) hC) rfl rfl rfl ?_))))
 rintro _ w3 ⟨rfl, hst3⟩
 refine Ops.mb rfl rfl rfl (Ops.mi rfl rfl rfl (Ops.n (tQ (Cd.ret (ret2_bi rfl rfl ?_)))))
 exact ⟨by rw [decide_eq_decide.2 (⟨fun h => h.2, fun h => ⟨hC, h⟩⟩ : (Cplx V F ∧ EulI F) ↔ EulI F)], (hS2.later hst3.below).none⟩
def EulS (F : List (List Int)) : Prop := Pure F ∧ ∀ k, k < dpt F + 1 → ∀ x ∈ fcs F k, altS ((fvP (cxL (lnkL F x))).drop 1) = elT (dpt F) k
instance (F : List (List Int)) : Decidable (EulS F) := by unfold EulS; exact inferInstance
def seB (V : Int) (F : List (List Int)) : Bool := decide (Cplx V F ∧ EulS F)
end Go.Proofs.YtiblelgfkakmiaaGreatDoor.Vc
/-
 Plain mathematics: what both sides test of Eulerian complexes is one.
-/
namespace Go.Proofs.YtiblelgfkakmiaaGreatDoor.Vc
def sgn (n : Nat) : Int := if n % 2 = 0 then 1 else -1
theorem sgn_succ (n : Nat) : sgn (n + 1) = -sgn n := by
 unfold sgn
 by_cases h : n % 2 = 0
 ·rw [if_pos h, if_neg (by omega)]
 ·rw [if_neg h, if_pos (by omega)]; rfl
theorem sgn_sq (n : Nat) : sgn n * sgn n = 1 := by unfold sgn; split <;> rfl
theorem sgn_add (a b : Nat) : sgn (a + b) = sgn a * sgn b := by
 induction b with
 | zero => simp [sgn]
 | succ b ih => rw [← Nat.add_assoc, sgn_succ, sgn_succ, ih, Int.mul_neg]
theorem sgE_sgn {n k : Nat} (h : k ≤ n) : sgE n k = -(sgn n * sgn k) := by
 obtain ⟨j, rfl⟩ : ∃ j, n = k + j := ⟨n - k, by omega⟩
 rw [sgn_add, Int.mul_comm (sgn k), Int.mul_assoc, sgn_sq, Int.mul_one]
 unfold sgE sgn
 by_cases e : j % 2 = 0
 ·rw [if_neg (by omega), if_pos e]
 ·rw [if_pos (by omega), if_neg e]; rfl
theorem elT_sgn {d k : Nat} (h : k ≤ d) : elT d k = 1 - sgn d * sgn k := by
 obtain ⟨j, rfl⟩ : ∃ j, d = k + j := ⟨d - k, by omega⟩
 rw [sgn_add, Int.mul_comm (sgn k), Int.mul_assoc, sgn_sq, Int.mul_one]
 unfold elT sgn
 by_cases e : j % 2 = 0
 ·rw [if_pos e]; omega
 ·rw [if_neg e]; omega
def upF (F : List (List Int)) (x : List Int) (n : Nat) : Nat := ((fcs F n).filter fun y => decide (Ins x y)).length
def eF (F : List (List Int)) (x : List Int) : Int := sumN (dpt F + 1) fun n => sgn n * (upF F x n : Int)
theorem upF_low {F : List (List Int)} (hs : ∀ f ∈ F, SA f) {x : List Int} (hx : SA x) {n : Nat} (h : n < x.length) : upF F x n = 0 := by
 unfold upF
 rw [List.length_eq_zero_iff, List.filter_eq_nil_iff]
 intro y hy
 simp only [decide_eq_true_eq]
 intro hI
 have := Ins.len hx (fcs_sa hs hy) hI
 rw [fcs_len hy] at this
 omega
theorem upF_self {F : List (List Int)} (hs : ∀ f ∈ F, SA f) {x : List Int} (hx : x ∈ fcs F x.length) : upF F x x.length = 1 := by
 have hxs := fcs_sa hs hx
 have e : (fcs F x.length).filter (fun y => decide (Ins x y)) = [x] := by
  have hn : ((fcs F x.length).filter fun y => decide (Ins x y)).Nodup := (fcs_SL F x.length).nodup.filter _
  have hp : ((fcs F x.length).filter fun y => decide (Ins x y)).Perm [x] := (List.perm_ext_iff_of_nodup hn (by simp)).2 fun y => by
   rw [List.mem_filter, List.mem_singleton]
   simp only [decide_eq_true_eq]
   constructor
   ·rintro ⟨h1, h2⟩
    exact (Ins.same hxs (fcs_sa hs h1) h2 (by rw [fcs_len h1]; exact Nat.le_refl _)).symm
   ·rintro rfl; exact ⟨hx, Ins.refl _⟩
  exact List.perm_singleton.1 hp
 unfold upF
 rw [e]; rfl
theorem upF_high {F : List (List Int)} {x : List Int} {n : Nat} (h : dpt F < n) : upF F x n = 0 := by unfold upF; rw [fcs_short h]; rfl
theorem evP_map {s : Int} {x : List Int} : ∀ {P : List (List Int)}, P.Nodup → evP (P.map fun p => (p, s)) x = if x ∈ P then s else 0
 | [], _ => by simp [evP]
 | p :: r, hn => by
  rw [List.nodup_cons] at hn
  have ih := evP_map (s := s) (x := x) hn.2
  rw [List.map_cons, evP, ih]
  by_cases e : p = x
  ·subst e
   simp [hn.1]
  ·have e2 : ¬ x = p := fun h => e h.symm
   simp [e, e2]
theorem evP_qD {y : List Int} (hy : SA y) (n k : Nat) (x : List Int) : evP (qD y n k (ptsP y k).length) x = if x.Sublist y ∧ x.length = k then sgE n k else 0 := by
 unfold qD
 rw [List.take_length, evP_map (ptsP_SL hy).nodup]
 simp only [ptsP_mem]
theorem evP_qC {y : List Int} (hy : SA y) (n : Nat) (x : List Int) : ∀ m, evP (qC y n m) x = if x.length < m ∧ x.Sublist y then sgE n x.length else 0
 | 0 => by simp [qC, evP]
 | m + 1 => by
  rw [qC_succ, evP_append, evP_qC hy n x m, evP_qD hy]
  by_cases h1 : x.Sublist y
  ·by_cases h2 : x.length < m
   ·rw [if_pos ⟨h2, h1⟩, if_neg (by omega), if_pos ⟨by omega, h1⟩]; omega
   ·by_cases h3 : x.length = m
    ·rw [if_neg (by omega), if_pos ⟨h1, h3⟩, if_pos ⟨by omega, h1⟩, h3]; omega
    ·rw [if_neg (by omega), if_neg (by omega), if_neg (by omega)]; rfl
  ·rw [if_neg (fun h => h1 h.2), if_neg (fun h => h1 h.1), if_neg (fun h => h1 h.2)]; rfl
theorem evP_lst {n : Nat} {x : List Int} (hx : SA x) : ∀ {l : List (List Int)}, (∀ y ∈ l, SA y) → evP (l.flatMap fun y => qC y n n) x = if x.length < n then sgE n x.length * ((l.filter fun y => decide (Ins x y)).length : Int) else 0
 | [], _ => by simp [evP]
 | y :: r, h => by
  have hy := h y (by simp)
  rw [List.flatMap_cons, evP_append, evP_qC hy, evP_lst hx fun z hz => h z (List.mem_cons_of_mem _ hz)]
  have hI : x.Sublist y ↔ Ins x y := ⟨Ins.of_sub, Ins.sub hx hy⟩
  by_cases h1 : x.length < n
  ·rw [if_pos h1, if_pos h1]
   by_cases h2 : Ins x y
   ·rw [if_pos ⟨h1, hI.2 h2⟩, List.filter_cons_of_pos (by simpa using h2), List.length_cons, Int.natCast_add, Int.mul_add]
    simp; omega
   ·rw [if_neg (fun h => h2 (hI.1 h.2)), List.filter_cons_of_neg (by simpa using h2)]; omega
  ·rw [if_neg h1, if_neg h1, if_neg (fun h => h1 h.1)]; rfl
theorem evP_qA {F : List (List Int)} (hs : ∀ f ∈ F, SA f) {x : List Int} (hx : SA x) : ∀ m, evP (qA F m) x = sumN m fun n => if x.length < n then sgE n x.length * (upF F x n : Int) else 0
 | 0 => rfl
 | m + 1 => by
  rw [qA_succ, evP_append, evP_qA hs hx m]
  have : evP (qB F m (fcs F m).length) x = if x.length < m then sgE m x.length * (upF F x m : Int) else 0 := by
   unfold qB
   rw [List.take_length, evP_lst hx fun y hy => fcs_sa hs hy]; rfl
  rw [this]; rfl
theorem sumN_split (g : Nat → Int) (a : Nat) : ∀ m, sumN (a + m) g = sumN a g + sumN m fun j => g (a + j)
 | 0 => by simp [sumN]
 | m + 1 => by
  rw [← Nat.add_assoc]
  show sumN (a + m) g + g (a + m) = _
  rw [sumN_split g a m]
  show _ = _ + (sumN m _ + g (a + m))
  omega
theorem above_sum {F : List (List Int)} (hs : ∀ f ∈ F, SA f) {x : List Int} (hx : x ∈ fcs F x.length) (hd : x.length ≤ dpt F) : (sumN (dpt F + 1) fun n => if x.length < n then sgE n x.length * (upF F x n : Int) else 0) = 1 - sgn x.length * eF F x := by
 have hxs := fcs_sa hs hx
 have key : ∀ n, (if x.length < n then sgE n x.length * (upF F x n : Int) else 0) = (if n = x.length then 1 else 0) + -sgn x.length * (sgn n * (upF F x n : Int)) := fun n => by
  rcases Nat.lt_trichotomy x.length n with h | h | h
  ·rw [if_pos h, if_neg (by omega), sgE_sgn (by omega), Int.zero_add, Int.neg_mul, Int.neg_mul, Int.mul_comm (sgn n), Int.mul_assoc]
  ·subst h
   rw [if_neg (by omega), if_pos rfl, upF_self hs hx]
   have := sgn_sq x.length
   rw [Int.neg_mul, ← Int.mul_assoc, this]; rfl
  ·rw [if_neg (by omega), if_neg (by omega), upF_low hs hxs h]; simp
 rw [sumN_congr (h := fun n => (if n = x.length then 1 else 0) + -sgn x.length * (sgn n * (upF F x n : Int))) fun i _ => key i, sumN_add, sumN_mul]
 have h1 : ∀ m, (sumN m fun n => if n = x.length then (1 : Int) else 0) = if x.length < m then 1 else 0 := by
  intro m
  induction m with
  | zero => rfl
  | succ m ih =>
   show sumN m _ + (if m = x.length then (1 : Int) else 0) = _
   rw [ih]
   by_cases h1 : x.length < m
   ·rw [if_pos h1, if_neg (by omega), if_pos (by omega)]; rfl
   ·by_cases h2 : m = x.length
    ·rw [if_neg h1, if_pos h2, if_pos (by omega)]; rfl
    ·rw [if_neg h1, if_neg h2, if_neg (by omega)]; rfl
 rw [h1, if_pos (by omega)]
 show 1 + -sgn x.length * eF F x = _
 rw [Int.neg_mul]; omega
def Eul (F : List (List Int)) : Prop := Pure F ∧ ∀ k, k ≤ dpt F → ∀ x ∈ fcs F k, eF F x = sgn (dpt F)
theorem eul_iff {d k : Nat} {e : Int} (h : k ≤ d) : 1 - sgn k * e = elT d k ↔ e = sgn d := by
 rw [elT_sgn h]
 have one : ∀ m, sgn m = 1 ∨ sgn m = -1 := fun m => by unfold sgn; split <;> simp
 rcases one k with h1 | h1 <;> rcases one d with h2 | h2 <;> rw [h1, h2] <;> omega
theorem face_of {F : List (List Int)} {k : Nat} {x : List Int} (h : x ∈ fcs F k) : x ∈ fcs F x.length := by rw [fcs_len h]; exact h
theorem eF_top {F : List (List Int)} (hs : ∀ f ∈ F, SA f) {x : List Int} (hx : x ∈ fcs F (dpt F)) : eF F x = sgn (dpt F) := by
 have hl := fcs_len hx
 have h1 := above_sum hs (face_of hx) (by omega)
 rw [hl] at h1
 have h2 : (sumN (dpt F + 1) fun n => if dpt F < n then sgE n (dpt F) * (upF F x n : Int) else 0) = 0 := by
  rw [sumN_congr (h := fun _ => 0) fun i hi => if_neg (by omega), sumN_zero]
 rw [h2] at h1
 refine (eul_iff (Nat.le_refl _)).1 ?_
 rw [← h1]
 unfold elT; omega
theorem EulI_iff {F : List (List Int)} (hs : ∀ f ∈ F, SA f) : EulI F ↔ Eul F := by
 have key : ∀ k, k ≤ dpt F → ∀ x ∈ fcs F k, (evP (qA F (dpt F + 1)) x = elT (dpt F) k ↔ eF F x = sgn (dpt F)) := fun k hk x hx => by
  have hl := fcs_len hx
  rw [evP_qA hs (fcs_sa hs hx), above_sum hs (face_of hx) (by omega), hl]
  exact eul_iff hk
 constructor
 ·rintro ⟨h1, h2⟩
  refine ⟨h1, fun k hk x hx => ?_⟩
  by_cases e : k = dpt F
  ·subst e; exact eF_top hs hx
  ·exact (key k hk x hx).1 (h2 k (by omega) x hx)
 ·rintro ⟨h1, h2⟩
  exact ⟨h1, fun k hk x hx => (key k (by omega) x hx).2 (h2 k (by omega) x hx)⟩
/-
 Plain mathematics: links of Eulerian complexes.
-/
theorem lessL_add {y x : List Int} (hy : SA y) (hx : SA x) (h : Ins x y) : (lessL y x).length + x.length = y.length := by
 have e : y.filter (fun z => decide (z ∈ x)) = x := by
  refine SA.eq (List.Pairwise.filter _ hy) hx fun z => ?_
  rw [List.mem_filter]
  simp only [decide_eq_true_eq]
  exact ⟨fun h => h.2, fun hz => ⟨h z hz, hz⟩⟩
 have := filter_two (fun z => decide (z ∈ x)) y
 rw [e] at this
 unfold lessL
 omega
theorem upF_link {F : List (List Int)} (hs : ∀ f ∈ F, SA f) {x : List Int} (hx : x ∈ fcs F x.length) (j : Nat) : upF F x (x.length + j) = nf (lnkL F x) j := by
 have hxs := fcs_sa hs hx
 by_cases hne : F = []
 ·subst hne
  have hx0 : x = [] := by
   rcases faL_mem.1 (fcs_mem.1 hx) with ⟨_, h⟩ | ⟨_, f, hf, _⟩
   ·exact h
   ·cases hf
  subst hx0
  unfold upF nf
  have : lnkL [] [] = [] := rfl
  rw [this, List.length_nil, Nat.zero_add]
  congr 1
  rw [List.filter_eq_self]
  intro y _
  simp [Ins]
 obtain ⟨⟨f0, hf0, hxf0⟩, _⟩ := (fcs_iff' hne).1 hx
 have hA : ∀ y, y ∈ (fcs F (x.length + j)).filter (fun y => decide (Ins x y)) → SA y ∧ Ins x y := fun y hy => by
  obtain ⟨h1, h2⟩ := List.mem_filter.1 hy
  exact ⟨fcs_sa hs h1, by simpa using h2⟩
 unfold upF nf
 rw [← List.length_map (f := fun y => lessL y x)]
 refine List.Perm.length_eq ((List.perm_ext_iff_of_nodup ?_ (fcs_SL _ _).nodup).2 fun y => ?_)
 ·refine List.pairwise_map.2 (((fcs_SL F _).nodup.filter _).imp_of_mem fun {a b} ha hb hab e => hab ?_)
  have h1 := hA a ha
  have h2 := hA b hb
  refine h1.1.eq h2.1 fun z => ?_
  by_cases hz : z ∈ x
  ·exact ⟨fun _ => h2.2 z hz, fun _ => h1.2 z hz⟩
  ·have h3 : z ∈ lessL a x ↔ z ∈ lessL b x := by rw [e]
   simpa [lessL_mem, hz] using h3
 ·rw [List.mem_map]
  constructor
  ·rintro ⟨y, hy, rfl⟩
   have h1 := hA y hy
   have hl := lessL_add h1.1 hxs h1.2
   have hy2 := (List.mem_filter.1 hy).1
   have hyl := fcs_len hy2
   rw [fcs_mem, faL_mem]
   by_cases hk : j = 0
   ·exact .inl ⟨hk, List.eq_nil_of_length_eq_zero (by omega)⟩
   ·obtain ⟨f, hf, h2, h3⟩ := (fcs_pos (by omega)).1 hy2
    refine .inr ⟨by omega, lessL f x, ?_, h2.filter _, by omega⟩
    exact List.mem_map.2 ⟨f, List.mem_filter.2 ⟨hf, decide_eq_true fun z hz => h2.subset (h1.2 z hz)⟩, rfl⟩
  ·intro hy
   have key : ∃ f ∈ F, Ins x f ∧ y.Sublist (lessL f x) ∧ y.length = j := by
    rcases faL_mem.1 (fcs_mem.1 hy) with ⟨hk, rfl⟩ | ⟨_, g, hg, h1, h2⟩
    ·exact ⟨f0, hf0, Ins.of_sub hxf0, List.nil_sublist _, hk.symm⟩
    ·obtain ⟨f, hf, rfl⟩ := List.mem_map.1 hg
     obtain ⟨hf, hi⟩ := List.mem_filter.1 hf
     exact ⟨f, hf, of_decide_eq_true hi, h1, h2⟩
   obtain ⟨f, hf, hxf, h1, h2⟩ := key
   have hsy : SA y := sub_SA h1 (lessL_SA (hs f hf))
   have hxy : ∀ z ∈ x, z ∉ y := fun z hz h => (lessL_mem.1 (h1.subset h)).2 hz
   have hu : SA (f.filter fun z => decide (z ∈ y ∨ z ∈ x)) := List.Pairwise.filter _ (hs f hf)
   have hxu : Ins x (f.filter fun z => decide (z ∈ y ∨ z ∈ x)) := fun z hz => List.mem_filter.2 ⟨hxf z hz, by simp [hz]⟩
   have e : lessL (f.filter fun z => decide (z ∈ y ∨ z ∈ x)) x = y := by
    refine (lessL_SA hu).eq hsy fun z => ?_
    rw [lessL_mem, List.mem_filter]
    simp only [decide_eq_true_eq]
    constructor
    ·rintro ⟨⟨_, h3 | h3⟩, h4⟩
     ·exact h3
     ·exact absurd h3 h4
    ·intro hz
     exact ⟨⟨(lessL_mem.1 (h1.subset hz)).1, .inl hz⟩, fun e => hxy z e hz⟩
   have hlu := lessL_add hu hxs hxu
   rw [e, h2] at hlu
   refine ⟨_, List.mem_filter.2 ⟨(fcs_iff' hne).2 ⟨⟨f, hf, List.filter_sublist⟩, by omega⟩, by simpa using hxu⟩, e⟩
theorem sumN_ends {g : Nat → Int} {a b : Nat} (h : a ≤ b) (h0 : ∀ i, a ≤ i → g i = 0) : sumN b g = sumN a g := by
 obtain ⟨m, rfl⟩ : ∃ m, b = a + m := ⟨b - a, by omega⟩
 rw [sumN_split, sumN_congr (g := fun j => g (a + j)) (h := fun _ => 0) fun i _ => h0 _ (by omega), sumN_zero]; omega
theorem altS_fv (L : List (List Int)) : altS ((fvP L).drop 1) = sumN (dpt L) fun i => sgn i * (nf L (i + 1) : Int) := by
 unfold altS
 rw [List.length_drop, fvP_len, Nat.add_sub_cancel]
 refine sumN_congr fun i hi => ?_
 unfold altT
 rw [gi_drop1, fvP_at L (by omega)]
 unfold sgn
 split
 ·rw [Int.one_mul]; rfl
 ·rw [Int.neg_one_mul]; rfl
theorem link_sum {F : List (List Int)} (hs : ∀ f ∈ F, SA f) {x : List Int} (hx : x ∈ fcs F x.length) : altS ((fvP (lnkL F x)).drop 1) = 1 - sgn x.length * eF F x := by
 have hd : x.length + dpt (lnkL F x) ≤ dpt F := by
  have h1 := nf_pos (F := lnkL F x) (Nat.le_refl _)
  rw [← upF_link hs hx] at h1
  rcases Nat.lt_or_ge (dpt F) (x.length + dpt (lnkL F x)) with h | h
  ·rw [upF_high h] at h1; omega
  ·exact h
 rw [← above_sum hs hx (by omega), altS_fv]
 have e : dpt F + 1 = (x.length + 1) + (dpt F - x.length) := by omega
 rw [e, sumN_split, sumN_congr (n := x.length + 1) (h := fun _ => 0) fun i hi => if_neg (by omega), sumN_zero, Int.zero_add]
 rw [← sumN_ends (g := fun i => sgn i * (nf (lnkL F x) (i + 1) : Int)) (a := dpt (lnkL F x)) (b := dpt F - x.length) (by omega) fun i hi => by rw [nf_short (by omega)]; simp]
 refine sumN_congr fun i hi => ?_
 rw [if_pos (by omega), sgE_sgn (by omega), show x.length + 1 + i = x.length + (i + 1) by omega, upF_link hs hx, sgn_add, sgn_succ]
 have h1 := sgn_sq x.length
 rw [Int.mul_comm (sgn x.length), Int.mul_assoc, h1, Int.mul_one, Int.neg_neg]
theorem EulS_iff {V : Int} {F : List (List Int)} (hc : Cplx V F) : EulS F ↔ Eul F := by
 have hs : ∀ f ∈ F, SA f := fun f hf => (hc.row f hf).2.1
 have key : ∀ k, k ≤ dpt F → ∀ x ∈ fcs F k, (altS ((fvP (cxL (lnkL F x))).drop 1) = elT (dpt F) k ↔ eF F x = sgn (dpt F)) := fun k hk x hx => by
  have hl := fcs_len hx
  rw [fv_cx (fun l h => ((hc.lnk x).2.1 l h).1) (lnk_fine hc x), link_sum hs (face_of hx), hl]
  exact eul_iff hk
 exact ⟨fun ⟨h1, h2⟩ => ⟨h1, fun k hk x hx => (key k hk x hx).1 (h2 k (by omega) x hx)⟩, fun ⟨h1, h2⟩ => ⟨h1, fun k hk x hx => (key k (by omega) x hx).2 (h2 k (by omega) x hx)⟩⟩
theorem ieB_seB (V : Int) (F : List (List Int)) : ieB V F = seB V F := by
 unfold ieB seB
 refine decide_eq_decide.2 ⟨fun ⟨h1, h2⟩ => ⟨h1, (EulS_iff h1).2 ((EulI_iff fun f hf => (h1.row f hf).2.1).1 h2)⟩, fun ⟨h1, h2⟩ => ⟨h1, (EulI_iff fun f hf => (h1.row f hf).2.1).2 ((EulS_iff h1).1 h2)⟩⟩
theorem eF_link {F : List (List Int)} (hs : ∀ f ∈ F, SA f) {x : List Int} (hx : x ∈ fcs F x.length) : sumN (dpt (lnkL F x) + 1) (fun j => sgn j * (nf (lnkL F x) j : Int)) = sgn x.length * eF F x := by
 have h1 := link_sum hs hx
 rw [altS_fv] at h1
 rw [sumN_front]
 have h2 : sumN (dpt (lnkL F x)) (fun i => sgn (i + 1) * (nf (lnkL F x) (i + 1) : Int)) = -1 * sumN (dpt (lnkL F x)) fun i => sgn i * (nf (lnkL F x) (i + 1) : Int) := by
  rw [← sumN_mul]
  refine sumN_congr fun i _ => ?_
  rw [sgn_succ, Int.neg_mul, Int.neg_one_mul]
 rw [h2, h1, nf_zero]
 simp [sgn]; omega
/-
 Plain mathematics: the h-vector of an Eulerian complex is the same from both ends.
-/
def sumL {α : Type} (g : α → Int) : List α → Int
 | [] => 0
 | a :: r => g a + sumL g r
theorem sumL_congr {α : Type} {g h : α → Int} : ∀ {l : List α}, (∀ a ∈ l, g a = h a) → sumL g l = sumL h l
 | [], _ => rfl
 | a :: r, H => by unfold sumL; rw [H a (by simp), sumL_congr fun b hb => H b (List.mem_cons_of_mem _ hb)]
theorem sumL_const {α : Type} (s : Int) : ∀ l : List α, sumL (fun _ => s) l = s * l.length
 | [] => by simp [sumL]
 | a :: r => by
  unfold sumL
  rw [sumL_const s r, List.length_cons, Int.natCast_add, Int.mul_add]; simp; omega
theorem sumL_add {α : Type} (g h : α → Int) : ∀ l : List α, sumL (fun a => g a + h a) l = sumL g l + sumL h l
 | [] => rfl
 | a :: r => by unfold sumL; rw [sumL_add g h r]; omega
theorem sumL_mul {α : Type} (s : Int) (g : α → Int) : ∀ l : List α, sumL (fun a => s * g a) l = s * sumL g l
 | [] => by simp [sumL]
 | a :: r => by unfold sumL; rw [sumL_mul s g r, Int.mul_add]
theorem sumL_zero {α : Type} : ∀ l : List α, sumL (fun _ => 0) l = 0
 | [] => rfl
 | a :: r => by unfold sumL; rw [sumL_zero r]; rfl
theorem sumL_sumN {α : Type} (g : α → Nat → Int) (l : List α) : ∀ m, sumL (fun a => sumN m (g a)) l = sumN m fun n => sumL (fun a => g a n) l
 | 0 => sumL_zero l
 | m + 1 => by
  show sumL (fun a => sumN m (g a) + g a m) l = _
  rw [sumL_add, sumL_sumN g l m]; rfl
theorem len_filter {α : Type} (p : α → Bool) : ∀ l : List α, ((l.filter p).length : Int) = sumL (fun a => if p a = true then 1 else 0) l
 | [] => rfl
 | a :: r => by
  by_cases h : p a = true
  ·rw [List.filter_cons_of_pos h, List.length_cons, Int.natCast_add, len_filter p r]
   show _ = (if p a = true then (1 : Int) else 0) + sumL (fun a => if p a = true then (1 : Int) else 0) r
   rw [if_pos h]; simp; omega
  ·rw [List.filter_cons_of_neg h, len_filter p r]
   show _ = (if p a = true then (1 : Int) else 0) + sumL (fun a => if p a = true then (1 : Int) else 0) r
   rw [if_neg h]; omega
theorem sumL_swap {α β : Type} (g : α → β → Int) (m : List β) : ∀ l : List α, sumL (fun a => sumL (g a) m) l = sumL (fun b => sumL (fun a => g a b) l) m
 | [] => (sumL_zero m).symm
 | a :: r => by
  show sumL (g a) m + sumL (fun a => sumL (g a) m) r = sumL (fun b => g a b + sumL (fun a => g a b) r) m
  rw [sumL_swap g m r, ← sumL_add]
def bnN : Nat → Nat → Nat
 | _, 0 => 1
 | 0, _ + 1 => 0
 | n + 1, k + 1 => bnN n k + bnN n (k + 1)
theorem ptsP_bin : ∀ (l : List Int) (k : Nat), (ptsP l k).length = bnN l.length k
 | [], 0 => by simp [ptsP, bnN]
 | [], k + 1 => by simp [ptsP, bnN]
 | a :: l, 0 => by simp [ptsP, bnN]
 | a :: l, k + 1 => by
  have h1 := ptsP_bin l k
  have h2 := ptsP_bin l (k + 1)
  simp [ptsP, bnN, h1, h2]
theorem below_num {F : List (List Int)} (hs : ∀ f ∈ F, SA f) {y : List Int} {n : Nat} (hy : y ∈ fcs F n) (j : Nat) : ((fcs F j).filter fun x => decide (Ins x y)).length = bnN n j := by
 have hys := fcs_sa hs hy
 rw [← fcs_len hy, ← ptsP_bin]
 refine List.Perm.length_eq ((List.perm_ext_iff_of_nodup ((fcs_SL F j).nodup.filter _) (ptsP_SL hys).nodup).2 fun x => ?_)
 rw [List.mem_filter, ptsP_mem]
 simp only [decide_eq_true_eq]
 constructor
 ·rintro ⟨h1, h2⟩
  exact ⟨Ins.sub (fcs_sa hs h1) hys h2, fcs_len h1⟩
 ·rintro ⟨h1, h2⟩
  refine ⟨?_, Ins.of_sub h1⟩
  by_cases hne : F = []
  ·subst hne
   rcases faL_mem.1 (fcs_mem.1 hy) with ⟨h0, rfl⟩ | ⟨_, f, hf, _⟩
   ·have : x = [] := List.sublist_nil.1 h1
    subst this
    rw [← h2]
    exact fcs_mem.2 (faL_mem.2 (.inl ⟨rfl, rfl⟩))
   ·cases hf
  ·obtain ⟨⟨f, hf, h3⟩, _⟩ := (fcs_iff' hne).1 hy
   exact (fcs_iff' hne).2 ⟨⟨f, hf, h1.trans h3⟩, h2⟩
theorem double {F : List (List Int)} (hs : ∀ f ∈ F, SA f) (j n : Nat) : sumL (fun x => (upF F x n : Int)) (fcs F j) = (bnN n j : Int) * (nf F n : Int) := by
 have e : sumL (fun x => (upF F x n : Int)) (fcs F j) = sumL (fun y => (((fcs F j).filter fun x => decide (Ins x y)).length : Int)) (fcs F n) := by
  have e0 : sumL (fun x => (upF F x n : Int)) (fcs F j) = sumL (fun x => sumL (fun y => if (decide (Ins x y)) = true then (1 : Int) else 0) (fcs F n)) (fcs F j) := sumL_congr fun x _ => len_filter (fun y => decide (Ins x y)) (fcs F n)
  rw [e0, sumL_swap]
  exact sumL_congr fun y _ => (len_filter (fun x => decide (Ins x y)) (fcs F j)).symm
 rw [e, sumL_congr (h := fun _ => (bnN n j : Int)) fun y hy => by rw [below_num hs hy], sumL_const]; rfl
theorem eul_nums {F : List (List Int)} (hs : ∀ f ∈ F, SA f) (h : Eul F) {j : Nat} (hj : j ≤ dpt F) : (sumN (dpt F + 1) fun n => sgn n * ((bnN n j : Int) * (nf F n : Int))) = sgn (dpt F) * (nf F j : Int) := by
 have h1 : sumL (eF F) (fcs F j) = sgn (dpt F) * (nf F j : Int) := by
  rw [sumL_congr (h := fun _ => sgn (dpt F)) fun x hx => h.2 j hj x hx, sumL_const]; rfl
 rw [← h1]
 have h2 : sumL (eF F) (fcs F j) = sumN (dpt F + 1) fun n => sumL (fun x => sgn n * (upF F x n : Int)) (fcs F j) := sumL_sumN (fun x n => sgn n * (upF F x n : Int)) (fcs F j) (dpt F + 1)
 rw [h2]
 exact sumN_congr fun n _ => by rw [sumL_mul, double hs]
theorem hsym_of (g : Nat → Int) {d : Nat} (hd : d ≤ 6) (h : ∀ j, j ≤ d → (sumN (d + 1) fun n => sgn n * ((bnN n j : Int) * g n)) = sgn d * g j) : ∀ k, k ≤ d → gi (hP ((List.range (d + 1)).map g)) (k : Int) = gi (hP ((List.range (d + 1)).map g)) ((d - k : Nat) : Int) := by
 rcases (show d = 0 ∨ d = 1 ∨ d = 2 ∨ d = 3 ∨ d = 4 ∨ d = 5 ∨ d = 6 by omega) with rfl | rfl | rfl | rfl | rfl | rfl | rfl
 ·intro k hk
  obtain rfl : k = 0 := by omega
  rfl
 ·have h0 := h 0 (by omega)
  have h1 := h 1 (by omega)
  simp [sumN, sgn, bnN] at h0 h1
  intro k hk
  rcases (show k = 0 ∨ k = 1 by omega) with rfl | rfl <;> simp [hP, pW, pDn, pD, pX, p1, gi, List.range_succ] <;> omega
 ·have h0 := h 0 (by omega)
  have h1 := h 1 (by omega)
  have h2 := h 2 (by omega)
  simp [sumN, sgn, bnN] at h0 h1 h2
  intro k hk
  rcases (show k = 0 ∨ k = 1 ∨ k = 2 by omega) with rfl | rfl | rfl <;> simp [hP, pW, pDn, pD, pX, p1, gi, List.range_succ] <;> omega
 ·have h0 := h 0 (by omega)
  have h1 := h 1 (by omega)
  have h2 := h 2 (by omega)
  have h3 := h 3 (by omega)
  simp [sumN, sgn, bnN] at h0 h1 h2 h3
  intro k hk
  rcases (show k = 0 ∨ k = 1 ∨ k = 2 ∨ k = 3 by omega) with rfl | rfl | rfl | rfl <;> simp [hP, pW, pDn, pD, pX, p1, gi, List.range_succ] <;> omega
 ·have h0 := h 0 (by omega)
  have h1 := h 1 (by omega)
  have h2 := h 2 (by omega)
  have h3 := h 3 (by omega)
  have h4 := h 4 (by omega)
  simp [sumN, sgn, bnN] at h0 h1 h2 h3 h4
  intro k hk
  rcases (show k = 0 ∨ k = 1 ∨ k = 2 ∨ k = 3 ∨ k = 4 by omega) with rfl | rfl | rfl | rfl | rfl <;> simp [hP, pW, pDn, pD, pX, p1, gi, List.range_succ] <;> omega
 ·have h0 := h 0 (by omega)
  have h1 := h 1 (by omega)
  have h2 := h 2 (by omega)
  have h3 := h 3 (by omega)
  have h4 := h 4 (by omega)
  have h5 := h 5 (by omega)
  simp [sumN, sgn, bnN] at h0 h1 h2 h3 h4 h5
  intro k hk
  rcases (show k = 0 ∨ k = 1 ∨ k = 2 ∨ k = 3 ∨ k = 4 ∨ k = 5 by omega) with rfl | rfl | rfl | rfl | rfl | rfl <;> simp [hP, pW, pDn, pD, pX, p1, gi, List.range_succ] <;> omega
 ·have h0 := h 0 (by omega)
  have h1 := h 1 (by omega)
  have h2 := h 2 (by omega)
  have h3 := h 3 (by omega)
  have h4 := h 4 (by omega)
  have h5 := h 5 (by omega)
  have h6 := h 6 (by omega)
  simp [sumN, sgn, bnN] at h0 h1 h2 h3 h4 h5 h6
  intro k hk
  rcases (show k = 0 ∨ k = 1 ∨ k = 2 ∨ k = 3 ∨ k = 4 ∨ k = 5 ∨ k = 6 by omega) with rfl | rfl | rfl | rfl | rfl | rfl | rfl <;> simp [hP, pW, pDn, pD, pX, p1, gi, List.range_succ] <;> omega
theorem fvP_map (F : List (List Int)) : fvP F = (List.range (dpt F + 1)).map fun k => (nf F k : Int) := rfl
theorem eul_h {F : List (List Int)} (hs : ∀ f ∈ F, SA f) (h6 : ∀ f ∈ F, f.length ≤ 6) (h : Eul F) {k : Nat} (hk : k ≤ dpt F) : gi (hP (fvP F)) (k : Int) = gi (hP (fvP F)) ((dpt F - k : Nat) : Int) := by
 rw [fvP_map]
 exact hsym_of (fun k => (nf F k : Int)) (dpt_bd h6) (fun j hj => eul_nums hs h hj) k hk
/-! no boundary -/
theorem hasI_len (F : List (List Int)) (x : List Int) : (hasI F x).length = (F.filter fun f => decide (Ins x f)).length := by
 unfold hasI
 rw [List.length_map]
 have key : ∀ m, m ≤ F.length → ((List.range m).filter fun k : Nat => decide (Ins x (gl F (k : Int)))).length = ((F.take m).filter fun f => decide (Ins x f)).length := by
  intro m
  induction m with
  | zero => intro _; rfl
  | succ m ih =>
   intro hm
   rw [List.range_succ, List.filter_append, List.length_append, ih (by omega), take_succ_gl (show m < F.length by omega), List.filter_append, List.length_append]
   congr 1
   by_cases e : Ins x (gl F (m : Int)) <;> simp [e]
 have := key F.length (Nat.le_refl _)
 rwa [List.take_length] at this
theorem pure_facets {V : Int} {F : List (List Int)} (hc : Cplx V F) (hp : Pure F) : fcs F (dpt F) = F ∨ F = [] := by
 by_cases hne : F = []
 ·exact .inr hne
 ·left
  refine (fcs_of hc.ord fun y => ?_).symm
  rw [← fcs_mem]
  constructor
  ·intro hy
   exact (fcs_iff' hne).2 ⟨⟨y, hy, List.Sublist.refl y⟩, hp y hy⟩
  ·intro hy
   obtain ⟨⟨f, hf, h1⟩, h2⟩ := (fcs_iff' hne).1 hy
   have : y = f := h1.eq_of_length (by rw [h2, hp f hf])
   rw [this]; exact hf
theorem eul_bd {V : Int} {F : List (List Int)} (hc : Cplx V F) (h : Eul F) : bdS F = [] := by
 have hs : ∀ f ∈ F, SA f := fun f hf => (hc.row f hf).2.1
 unfold bdS
 rw [List.filter_eq_nil_iff]
 intro x hx
 simp only [decide_eq_true_eq]
 rw [hasI_len]
 rcases pure_facets hc h.1 with hF | hF
 ·by_cases hd : dpt F = 0
  ·have hne : F = [] := by
    refine List.eq_nil_iff_forall_not_mem.2 fun f hf => ?_
    have h1 := (hc.row f hf).1.1
    have h2 := dpt_le hf
    omega
   subst hne; simp
  ·have hl := fcs_len hx
   have h2 := h.2 (dpt F - 1) (by omega) x hx
   have h3 : eF F x = sgn (dpt F - 1) * (upF F x (dpt F - 1) : Int) + sgn (dpt F) * (upF F x (dpt F) : Int) := by
    unfold eF
    obtain ⟨m, hm⟩ : ∃ m, dpt F = m + 1 := ⟨dpt F - 1, by omega⟩
    rw [hm, Nat.add_sub_cancel]
    show (sumN m (fun n => sgn n * (upF F x n : Int)) + sgn m * (upF F x m : Int)) + sgn (m + 1) * (upF F x (m + 1) : Int) = _
    rw [sumN_congr (n := m) (h := fun _ => 0) fun i hi => by rw [upF_low hs (fcs_sa hs hx) (by omega)]; simp, sumN_zero]
    omega
   have h4 := upF_self hs (face_of hx)
   rw [hl] at h4
   rw [h4, h2] at h3
   have h5 : sgn (dpt F) = -sgn (dpt F - 1) := by
    obtain ⟨m, hm⟩ : ∃ m, dpt F = m + 1 := ⟨dpt F - 1, by omega⟩
    rw [hm, Nat.add_sub_cancel, sgn_succ]
   have h6 : upF F x (dpt F) = (F.filter fun f => decide (Ins x f)).length := by unfold upF; rw [hF]
   rw [← h6]
   have one : sgn (dpt F - 1) = 1 ∨ sgn (dpt F - 1) = -1 := by unfold sgn; split <;> simp
   rw [h5] at h3
   rcases one with e | e <;> rw [e] at h3 <;> omega
 ·subst hF; simp
end Go.Proofs.YtiblelgfkakmiaaGreatDoor.Vc
/-
 Cut vertices on both sides.
-/
namespace Go.Proofs.YtiblelgfkakmiaaGreatDoor.Vc
open Go.RowKit
def sn (l : List Int) : List Bool := l.map fun y => decide (0 ≤ y)
theorem gb_sn {l : List Int} {x : Int} (h0 : 0 ≤ x) (h1 : x < l.length) : gb (sn l) x = decide (0 ≤ gi l x) := by
 obtain ⟨k, rfl⟩ : ∃ k : Nat, x = k := ⟨x.toNat, by omega⟩
 have hk : k < l.length := by omega
 rw [gi_mem hk]
 simp [gb, sn, List.getD_eq_getElem?_getD, List.getElem?_eq_getElem hk]
theorem sn_set {l : List Int} {i : Nat} {v : Int} (h : 0 ≤ v) : sn (l.set i v) = (sn l).set i true := by
 unfold sn
 rw [List.map_set, decide_eq_true h]
theorem reachedFrom_c (A : Option Addr) (n c : Nat) (rs : List SlV) (next : List (List Int)) (v wo : Int) (w : World) (hR : RowsI w A n rs next) (hg : Gr n next) (h0 : 0 ≤ v) (h1 : v < n) :
    Ret Tryz.prog 87 [.slice A n c, .int .i64 v, .int .i64 wo] w (fun r w' => ∃ A' c', r = .slice A' (distP next wo v).2.length c' ∧ St w w' []) := by
  have hl := hg.len
  have hsm := hg.small
  refine Ret.of_cd Tryz.func87 rfl Tryz.ntmps87 rfl (post1 rfl) (Cd.seq (Cd.region (Ops.ms rfl rfl rfl (Ops.n (tQ (Cd.seq (Cd.region (Ops.ms rfl rfl rfl (Ops.len rfl rfl ?_)))))))))
  refine Ops.mkB n (St.refl w) rfl rfl (by omega) ?_
  intro A7 w1 hS1
  refine Ops.ms rfl rfl rfl (Ops.n (tQ (Cd.seq (Cd.region (Ops.ms rfl rfl rfl (Ops.mi rfl rfl rfl (Ops.idx (hS1.rdB 0 rfl).2 rfl rfl rfl h0 h1 (Ops.st_bool 0 hS1 rfl rfl rfl (by omega) ?_))))))))
  intro w3 hS3
  refine Ops.n (tQ (Cd.seq (Cd.region (Ops.mi rfl rfl rfl (Ops.bs1I hS3 rfl rfl rfl ?_)))))
  intro A9 w4 hS4
  have hS4 : St w w4 [CkI 2 A9 (initB n v).2.length 1 (initB n v).2, CkB 4 A7 n n (sn (initB n v).1)] := by
    have e : sn (initB n v).1 = (List.replicate n false).set v.toNat true := by
      show sn ((List.replicate n (-1)).set v.toNat 0) = _
      rw [sn_set (Int.le_refl 0)]
      simp [sn]
    rw [e]
    exact hS4
  have hfin : distP next wo v = bfsD next wo (n + 1 - 0) 0 (initB n v) := by unfold distP; rw [hl]; rfl
  refine Ops.ms rfl rfl rfl (Ops.n (tQ (Cd.seq (Cd.seq (Cd.region (Ops.mi rfl rfl rfl (Ops.n (tQ (Cd.block ?_)))))))))
  refine Cd.loop (α := Nat × Option Addr × Nat × (List Int × List Int)) (fun z => [(0, .slice A n c), (2, .int .i64 wo), (7, .slice A7 n n), (8, .slice z.2.1 z.2.2.2.2.length z.2.2.1), (9, .int .i64 (z.1 : Int))])
    (fun z w' => St w w' [CkI 2 z.2.1 z.2.2.2.2.length z.2.2.1 z.2.2.2.2, CkB 4 A7 n n (sn z.2.2.2.1)] ∧ BF n z.2.2.2 ∧ z.1 ≤ z.2.2.2.2.length ∧ distP next wo v = bfsD next wo (n + 1 - z.1) z.1 z.2.2.2)
    (fun z => n + 1 - z.1) (0, A9, 1, initB n v) ⟨rfl, rfl, rfl, rfl, rfl, trivial⟩ ⟨hS4, BF.init h0 h1, Nat.zero_le _, hfin⟩ ?_
  rintro ⟨i, A10, c10, st⟩ e w5 ⟨hS5, hB, hi, hD⟩
  dsimp only at hS5 hB hi hD ⊢
  have hql := hB.len2
  refine Cd.seq (Cd.seq (Cd.region (Ops.mi rfl rfl rfl (Ops.ms rfl rfl rfl (Ops.len rfl rfl (Ops.lss rfl rfl rfl (Ops.n (tQ ?_))))))))
  refine Cd.cond_p _ rfl (fun h3 => ?_) (fun h3 => ?_)
  · have hi' : i < st.2.length := by omega
    have hQ := hS5.rdI 0 rfl
    have hum : gi st.2 (i : Int) ∈ st.2 := gi_in hi'
    have hur := hB.rng _ hum
    have hrow := hg.row (gi st.2 (i : Int)) hur.1
    have hR5 := hS5.oldRows hR
    rw [bfsD_go hi' (by omega)] at hD
    refine Cd.skip (tQ (Cd.seq (Cd.block (Cd.seq (Cd.region (Ops.ms rfl rfl rfl (Ops.ms rfl rfl rfl (Ops.mi rfl rfl rfl (Ops.idx hQ.2 rfl rfl rfl (by omega) (by omega) ?_)))))))))
    refine Ops.ld_int hQ rfl (by omega) rfl rfl ?_
    generalize hu : gi st.2 (i : Int) = u at *
    have hnr : (gl next u).length = (rg rs u).n := hR.rowLen hur.1 hur.2
    refine Ops.idx hR5.top.2 rfl rfl rfl hur.1 hur.2 (Ops.ld_sl hR5.top rfl (by omega) rfl rfl (Ops.len rfl rfl (Ops.mi rfl rfl rfl (Ops.n (tQ (Cd.block ?_))))))
    refine Cd.loop (α := Nat × Option Addr × Nat × (List Int × List Int)) (fun z => [(0, .slice A n c), (2, .int .i64 wo), (7, .slice A7 n n), (8, .slice z.2.1 z.2.2.2.2.length z.2.2.1), (9, .int .i64 (i : Int)), (32, .slice (rg rs u).a (rg rs u).n (rg rs u).c), (33, .int .i64 ((rg rs u).n : Int)), (34, .int .i64 (z.1 : Int))])
      (fun z w' => St w w' [CkI 2 z.2.1 z.2.2.2.2.length z.2.2.1 z.2.2.2.2, CkB 4 A7 n n (sn z.2.2.2.1)] ∧ z.1 ≤ (gl next u).length ∧ z.2.2.2 = rowB wo u ((gl next u).take z.1) st)
      (fun z => (gl next u).length - z.1) (0, A10, c10, st) ⟨rfl, rfl, rfl, rfl, rfl, rfl, rfl, rfl, trivial⟩ ⟨hS5, Nat.zero_le _, rfl⟩ ?_
    rintro ⟨j, A11, c11, sj⟩ e w6 ⟨hS6, hj, hsj⟩
    dsimp only at hS6 hj hsj ⊢
    obtain ⟨hBj, hpre⟩ := BF.row (wo := wo) ((gl next u).take j) hB hum (fun x hx => hrow.1 x (List.mem_of_mem_take hx))
    rw [← hsj] at hBj hpre
    have hR6 := hS6.oldRows hR
    have hqj := hBj.len2
    have hlj := hBj.len
    have hpl := hpre.length_le
    refine Cd.seq (Cd.region (Ops.lss rfl rfl rfl (Ops.n (tQ (Cd.seq ?_)))))
    refine Cd.cond_p _ rfl (fun h4 => ?_) (fun h4 => ?_)
    · have hj' : j < (gl next u).length := by omega
      have hrowR := hR6.at_ (i := u) hur.1 hur.2
      have hxm : gi (gl next u) (j : Int) ∈ gl next u := gi_in hj'
      have hx := hrow.1 _ hxm
      have hstep : rowB wo u ((gl next u).take (j + 1)) st = stepB wo u sj (gi (gl next u) (j : Int)) := by rw [take_succ_gi hj', rowB_snoc, ← hsj]
      have hO := hS6.rdB 1 rfl
      have hgu := hBj.pos u (hpre.subset hum)
      refine Cd.skip (tQ (Cd.seq (Cd.block (Cd.seq (Cd.region (Ops.idx hrowR.2 rfl rfl rfl (by omega) (by omega) (Ops.ld_int hrowR rfl (by omega) rfl rfl ?_)))))))
      generalize hxe : gi (gl next u) (j : Int) = x at *
      have hgb := gb_sn (l := sj.1) hx.1 (by omega)
      refine Ops.mi rfl rfl rfl (Ops.n (tQ (Cd.seq (Cd.region (Ops.mi rfl rfl rfl (Ops.mi rfl rfl rfl (Ops.neq rfl rfl rfl (Ops.mb rfl rfl rfl ?_))))))))
      refine Ops.split_p 41 rfl (fun h5 => ?_) (fun h5 => ?_)
      · refine Ops.g rfl rfl rfl (Ops.ms rfl rfl rfl (Ops.g rfl rfl rfl (Ops.mi rfl rfl rfl (Ops.g rfl rfl rfl (Ops.idx hO.2 rfl rfl rfl hx.1 hx.2 (Ops.g rfl rfl rfl (Ops.ld_bool hO rfl (by omega) rfl rfl (Ops.g rfl rfl rfl ?_))))))))
        first | refine Ops.not_p rfl rfl ?_ | refine Ops.not rfl rfl ?_
        refine Ops.pick_t rfl rfl rfl (Ops.n (tQ ?_))
        refine Cd.cond rfl (fun h6 => ?_) (fun h6 => ?_)
        · have h7 : gi sj.1 x < 0 := by rw [hgb] at h6; simpa using h6
          have hst : stepB wo u sj x = (sj.1.set x.toNat (gi sj.1 u + 1), sj.2 ++ [x]) := by unfold stepB; rw [if_pos ⟨h7, h5⟩]
          refine Cd.seq (Cd.region (Ops.ms rfl rfl rfl (Ops.mi rfl rfl rfl (Ops.idx hO.2 rfl rfl rfl hx.1 hx.2 (Ops.st_bool 1 hS6 rfl rfl rfl (by omega) ?_)))))
          intro w7 hS7
          refine Ops.n (tQ (Cd.region (Ops.ms rfl rfl rfl (Ops.mi rfl rfl rfl (Ops.bs1I hS7 rfl rfl rfl ?_)))))
          intro A12 w8 hS8
          refine Ops.appI 1 hS8 rfl (hS8.rdI 0 rfl) rfl rfl rfl (by omega) (by omega) rfl ?_
          intro A13 c13 w9 hS9
          refine Ops.ms rfl rfl rfl (Ops.n (blockQ_n (tQ (Cd.region (Ops.add rfl rfl rfl (by omega) (Ops.mi rfl rfl rfl (Ops.n (tQ ?_))))))))
          have e2 : (sj.2 ++ [x]).length = sj.2.length + 1 := by simp
          refine ⟨(j + 1, A13, c13, stepB wo u sj x), by show _ - (j + 1) < _ - j; omega, ⟨rfl, rfl, rfl, by show Value.slice _ _ _ = .slice _ _ _; rw [hst]; show Value.slice _ _ _ = .slice _ (sj.2 ++ [x]).length _; rw [e2], rfl, rfl, rfl, rfl, trivial⟩, ?_, hj', hstep.symm⟩
          show St w w9 [CkI _ A13 (stepB wo u sj x).2.length c13 (stepB wo u sj x).2, CkB _ A7 n n (sn (stepB wo u sj x).1)]
          rw [hst]
          show St w w9 [CkI _ A13 (sj.2 ++ [x]).length c13 (sj.2 ++ [x]), CkB _ A7 n n (sn (sj.1.set x.toNat (gi sj.1 u + 1)))]
          rw [e2, sn_set (by omega)]
          exact hS9.tail
        · have h7 : ¬ gi sj.1 x < 0 := by rw [hgb] at h6; simp at h6; omega
          have hst : stepB wo u sj x = sj := by unfold stepB; rw [if_neg (fun h => h7 h.1)]
          rw [hst] at hstep
          refine Cd.skip (blockQ_n (tQ (Cd.region (Ops.add rfl rfl rfl (by omega) (Ops.mi rfl rfl rfl (Ops.n (tQ ?_)))))))
          exact ⟨(j + 1, A11, c11, sj), by show _ - (j + 1) < _ - j; omega, ⟨rfl, rfl, rfl, rfl, rfl, rfl, rfl, rfl, trivial⟩, hS6, hj', hstep.symm⟩
      · have hst : stepB wo u sj x = sj := by unfold stepB; rw [if_neg (fun h => h5 h.2)]
        rw [hst] at hstep
        refine Ops.k rfl rfl rfl rfl rfl (Ops.k rfl rfl rfl rfl rfl (Ops.k rfl rfl rfl rfl rfl (Ops.k rfl rfl rfl rfl rfl (Ops.k rfl rfl rfl rfl rfl (Ops.pick_f rfl rfl rfl (Ops.n (tQ (Cd.cond_f rfl (Cd.skip ?_)))))))))
        refine blockQ_n (tQ (Cd.region (Ops.add rfl rfl rfl (by omega) (Ops.mi rfl rfl rfl (Ops.n (tQ ?_))))))
        exact ⟨(j + 1, A11, c11, sj), by show _ - (j + 1) < _ - j; omega, ⟨rfl, rfl, rfl, rfl, rfl, rfl, rfl, rfl, trivial⟩, hS6, hj', hstep.symm⟩
    · refine Cd.exit (thenQ_x (thenQ_x (blockQ_x (blockQ_n (tQ (Cd.region (Ops.mi rfl rfl rfl (Ops.add rfl rfl rfl (by omega) (Ops.mi rfl rfl rfl ?_)))))))))
      refine Ops.n (tQ ?_)
      have hje : j = (gl next u).length := by omega
      subst hje
      rw [List.take_length] at hsj
      rw [← hsj] at hD
      exact ⟨(i + 1, A11, c11, sj), by show n + 1 - (i + 1) < n + 1 - i; omega, ⟨rfl, rfl, rfl, rfl, rfl, trivial⟩, hS6, hBj, by show i + 1 ≤ sj.2.length; omega, by show distP next wo v = bfsD next wo (n + 1 - (i + 1)) (i + 1) sj; rw [hD]; congr 1⟩
  · refine Cd.exit (thenQ_x (thenQ_x (blockQ_x (tQ (Cd.seq (Cd.region (Ops.ms rfl rfl rfl (Ops.ms rfl rfl rfl (Ops.n ?_)))))))))
    refine tQ (Cd.ret (ret1_s rfl ?_))
    rw [bfsD_end (by omega)] at hD
    rw [hD]
    exact ⟨A10, c10, rfl, hS5.none⟩
/-! what is left out is never reached; a vertex besides is missed just where the list is short -/
theorem step_wo {wo u x : Int} {st : List Int × List Int} (h0 : 0 ≤ wo) (hx : 0 ≤ x) (h : gi st.1 wo < 0) : gi (stepB wo u st x).1 wo < 0 := by
 unfold stepB
 split
 ·rename_i hc
  show gi (st.1.set x.toNat _) wo < 0
  by_cases hl : x.toNat < st.1.length
  ·rw [gi_setI hl h0, if_neg (by omega)]; exact h
  ·rw [List.set_eq_of_length_le (by omega)]; exact h
 ·exact h
theorem row_wo {wo u : Int} (r : List Int) (h0 : 0 ≤ wo) : ∀ {st : List Int × List Int}, (∀ x ∈ r, 0 ≤ x) → gi st.1 wo < 0 → gi (rowB wo u r st).1 wo < 0 := by
 induction r using snoc_ind with
 | h0 => intro st _ h; exact h
 | h1 l a ih =>
  intro st hr h
  rw [rowB_snoc]
  exact step_wo h0 (hr a (by simp)) (ih (fun x hx => hr x (by simp [hx])) h)
def oth (v : Nat) : Int := if v = 0 then 1 else 0
def isCut (next : List (List Int)) (N v : Nat) : Prop := oth v < N ∧ ((distP next (v : Int) (oth v)).2.length : Int) < (N : Int) - 1
instance (next : List (List Int)) (N v : Nat) : Decidable (isCut next N v) := by unfold isCut; exact inferInstance
def cutL (next : List (List Int)) (N : Nat) : Nat → List Int
 | 0 => []
 | v + 1 => if isCut next N v then cutL next N v ++ [(v : Int)] else cutL next N v
def cvL (xss : List (List Int)) : List Int := if Grph xss then cutL (nbL xss) (vertsN xss) (vertsN xss) else []
def missB (far : List Int) (v : Nat) : Nat → Bool
 | 0 => false
 | u + 1 => if missB far v u = true then true else if ¬ (u : Int) = (v : Int) then decide (gi far (u : Int) < 0) else false
end Go.Proofs.YtiblelgfkakmiaaGreatDoor.Vc
/-
 Plain mathematics: the elimination over two elements.
-/
namespace Go.Proofs.YtiblelgfkakmiaaGreatDoor.Vc
def adR (x y : List Int) (c k : Nat) : List Int := (List.range x.length).map fun j => if c ≤ j ∧ j < k then (gi x (j : Int) + gi y (j : Int)) % 2 else gi x (j : Int)
def Bin (m : Nat) (x : List Int) : Prop := x.length = m ∧ ∀ e ∈ x, e = 0 ∨ e = 1
def sw2 {α : Type} (z : α) (M : List α) (r k : Nat) : List α := (M.set r (M.getD k z)).set k (M.getD r z)
structure GI (M0 M : List (List Int)) (m rank c : Nat) : Prop where
 len : M.length = M0.length
 row : ∀ x ∈ M, Bin m x
 spn : Eqs (M0.map rowM) (M.map rowM)
 stp : ∀ i, i < rank → ∃ p, (rowM (gl M (i : Int))).testBit p = true ∧ ∀ j, i < j → j < M.length → (rowM (gl M (j : Int))).testBit p = false
 zer : ∀ j, rank ≤ j → j < M.length → ∀ p, p < c → (rowM (gl M (j : Int))).testBit p = false
 rle : rank ≤ M.length
end Go.Proofs.YtiblelgfkakmiaaGreatDoor.Vc
/-
 The reference's matrix of faces and its elimination, walked.
-/
namespace Go.Proofs.YtiblelgfkakmiaaGreatDoor.Vc
open Go.RowKit
def rwK (G : List (List Int)) (x : List Int) (k : Nat) : List Int := (List.range G.length).map fun (j : Nat) => if j < k ∧ Ins (gl G (j : Int)) x then 1 else 0
/-
 The reference's elimination, walked.
-/
theorem gl_set_ne {M : List (List Int)} {i j : Nat} {x : List Int} (h : j ≠ i) : gl (M.set i x) (j : Int) = gl M (j : Int) := by
 simp only [gl, Int.toNat_natCast, List.getD_eq_getElem?_getD, List.getElem?_set]
 rw [if_neg fun e => h e.symm]
theorem gl_set_eq {M : List (List Int)} {i : Nat} {x : List Int} (h : i < M.length) : gl (M.set i x) (i : Int) = x := by
 simp only [gl, Int.toNat_natCast, List.getD_eq_getElem?_getD, List.getElem?_set]
 simp [h]
end Go.Proofs.YtiblelgfkakmiaaGreatDoor.Vc
/-
 Plain mathematics: pseudomanifolds, neighbours of facets.
-/
namespace Go.Proofs.YtiblelgfkakmiaaGreatDoor.Vc
def nxA (N : List (List Int)) (a b : Int) : List (List Int) := N.set a.toNat (gl N a ++ [b])
def nbS (N : List (List Int)) (p : List Int × List Int) : List (List Int) := nxA (nxA N (gi p.2 0) (gi p.2 1)) (gi p.2 1) (gi p.2 0)
def nbR (n : Nat) (R : List (List Int × List Int)) : List (List Int) := R.foldl nbS (List.replicate n [])
theorem nbR_snoc (n : Nat) (R : List (List Int × List Int)) (p : List Int × List Int) : nbR n (R ++ [p]) = nbS (nbR n R) p := by simp [nbR]
theorem nxA_len (N : List (List Int)) (a b : Int) : (nxA N a b).length = N.length := by simp [nxA]
theorem nxA_at {N : List (List Int)} {a b : Int} (h0 : 0 ≤ a) (h1 : a < N.length) (u : Nat) : gl (nxA N a b) (u : Int) = if (u : Int) = a then gl N a ++ [b] else gl N (u : Int) := by
 obtain ⟨k, rfl⟩ : ∃ k : Nat, a = k := ⟨a.toNat, by omega⟩
 unfold nxA
 rw [Int.toNat_natCast]
 by_cases e : u = k
 ·subst e; rw [if_pos rfl, gl_set_eq (by omega)]
 ·rw [if_neg (by omega), gl_set_ne e]
theorem nbR_len (n : Nat) : ∀ (R : List (List Int × List Int)) (N : List (List Int)), N.length = n → (R.foldl nbS N).length = n
 | [], N, h => h
 | p :: R, N, h => nbR_len n R _ (by unfold nbS; rw [nxA_len, nxA_len, h])
theorem nbR_length (n : Nat) (R : List (List Int × List Int)) : (nbR n R).length = n := nbR_len n R _ (by simp)
structure NX (n : Nat) (R : List (List Int × List Int)) (N : List (List Int)) : Prop where
 len : N.length = n
 adj : ∀ u v : Nat, u < n → ((v : Int) ∈ gl N (u : Int) ↔ ∃ p ∈ R, p.2 = [(u : Int), (v : Int)] ∨ p.2 = [(v : Int), (u : Int)])
 rng : ∀ u : Nat, u < n → ∀ x ∈ gl N (u : Int), 0 ≤ x ∧ x < n
 cnt : ∀ u : Nat, u < n → (gl N (u : Int)).length ≤ (R.filter fun p => decide ((u : Int) ∈ p.2)).length
theorem nx_of {n : Nat} : ∀ (m : Nat) (R : List (List Int × List Int)), R.length = m → (∀ p ∈ R, ∃ a b : Nat, p.2 = [(a : Int), (b : Int)] ∧ a < b ∧ b < n) → NX n R (nbR n R)
 | 0, R, hm, _ => by
  obtain rfl := List.eq_nil_of_length_eq_zero hm
  have hg : ∀ u : Nat, gl (nbR n []) (u : Int) = [] := fun u => by
   simp only [nbR, List.foldl_nil, gl, Int.toNat_natCast, List.getD_eq_getElem?_getD, List.getElem?_replicate]
   split <;> rfl
  exact ⟨by simp [nbR], fun u v _ => by rw [hg]; simp, (fun u _ x hx => by rw [hg] at hx; cases hx), fun u _ => by rw [hg]; simp⟩
 | m + 1, R, hm, h => by
  obtain ⟨R0, p, rfl⟩ : ∃ R0 p, R = R0 ++ [p] := ⟨R.dropLast, R.getLast (fun e => by rw [e] at hm; simp at hm), (List.dropLast_concat_getLast _).symm⟩
  have ih := nx_of m R0 (by simpa using hm) fun q hq => h q (List.mem_append_left _ hq)
  obtain ⟨a, b, hp, hab, hb⟩ := h p (by simp)
  have hl0 := ih.len
  rw [nbR_snoc]
  have hS : nbS (nbR n R0) p = nxA (nxA (nbR n R0) (a : Int) (b : Int)) (b : Int) (a : Int) := by unfold nbS; rw [hp]; rfl
  have hat : ∀ u : Nat, gl (nbS (nbR n R0) p) (u : Int) = if u = b then gl (nbR n R0) (b : Int) ++ [(a : Int)] else if u = a then gl (nbR n R0) (a : Int) ++ [(b : Int)] else gl (nbR n R0) (u : Int) := fun u => by
   rw [hS, nxA_at (by omega) (by rw [nxA_len]; omega), nxA_at (by omega) (by omega), nxA_at (by omega) (by omega)]
   by_cases e : u = b
   ·subst e; rw [if_pos rfl, if_pos rfl, if_neg (by omega)]
   ·rw [if_neg (by omega), if_neg e]
    by_cases e2 : u = a
    ·rw [if_pos (by omega), if_pos e2]
    ·rw [if_neg (by omega), if_neg e2]
  refine ⟨by rw [hS, nxA_len, nxA_len, hl0], fun u v hu => ?_, fun u hu x hx => ?_, fun u hu => ?_⟩
  ·have key : (∃ q ∈ R0 ++ [p], q.2 = [(u : Int), (v : Int)] ∨ q.2 = [(v : Int), (u : Int)]) ↔ (∃ q ∈ R0, q.2 = [(u : Int), (v : Int)] ∨ q.2 = [(v : Int), (u : Int)]) ∨ (u = a ∧ v = b) ∨ (u = b ∧ v = a) := by
    constructor
    ·rintro ⟨q, hq, h1⟩
     rcases List.mem_append.1 hq with hq | hq
     ·exact .inl ⟨q, hq, h1⟩
     ·obtain rfl := List.mem_singleton.1 hq
      right
      rw [hp] at h1
      simp only [List.cons.injEq, and_true] at h1
      rcases h1 with ⟨h1, h2⟩ | ⟨h1, h2⟩
      ·left; omega
      ·right; omega
    ·rintro (⟨q, hq, h1⟩ | ⟨rfl, rfl⟩ | ⟨rfl, rfl⟩)
     ·exact ⟨q, List.mem_append_left _ hq, h1⟩
     ·exact ⟨p, by simp, .inl hp⟩
     ·exact ⟨p, by simp, .inr hp⟩
   rw [key, ← ih.adj u v hu, hat]
   by_cases e : u = b
   ·subst e
    rw [if_pos rfl, List.mem_append, List.mem_singleton]
    constructor
    ·rintro (h1 | h1)
     ·exact .inl h1
     ·exact .inr (.inr ⟨rfl, by omega⟩)
    ·rintro (h1 | ⟨h1, h2⟩ | ⟨h1, h2⟩)
     ·exact .inl h1
     ·omega
     ·exact .inr (by omega)
   ·rw [if_neg e]
    by_cases e2 : u = a
    ·subst e2
     rw [if_pos rfl, List.mem_append, List.mem_singleton]
     constructor
     ·rintro (h1 | h1)
      ·exact .inl h1
      ·exact .inr (.inl ⟨rfl, by omega⟩)
     ·rintro (h1 | ⟨h1, h2⟩ | ⟨h1, h2⟩)
      ·exact .inl h1
      ·exact .inr (by omega)
      ·omega
    ·rw [if_neg e2]
     constructor
     ·exact .inl
     ·rintro (h1 | ⟨h1, h2⟩ | ⟨h1, h2⟩)
      ·exact h1
      ·omega
      ·omega
  ·rw [hat] at hx
   split at hx
   ·rcases List.mem_append.1 hx with hx | hx
    ·exact ih.rng b hb x hx
    ·have := List.mem_singleton.1 hx; omega
   ·split at hx
    ·rcases List.mem_append.1 hx with hx | hx
     ·exact ih.rng a (by omega) x hx
     ·have := List.mem_singleton.1 hx; omega
    ·exact ih.rng u hu x hx
  ·rw [hat, List.filter_append, List.length_append]
   have hmem : ∀ c : Nat, (c : Int) ∈ p.2 ↔ c = a ∨ c = b := fun c => by rw [hp]; simp; omega
   by_cases e : u = b
   ·subst e
    have h1 := ih.cnt u hu
    rw [if_pos rfl, List.length_append, List.filter_cons_of_pos (by simpa using (hmem u).2 (.inr rfl))]
    simp; omega
   ·rw [if_neg e]
    by_cases e2 : u = a
    ·subst e2
     have h1 := ih.cnt u hu
     rw [if_pos rfl, List.length_append, List.filter_cons_of_pos (by simpa using (hmem u).2 (.inl rfl))]
     simp; omega
    ·have h1 := ih.cnt u hu
     rw [if_neg e2]; omega
def AdF (F : List (List Int)) (i j : Nat) : Prop := (lessL (gl F (j : Int)) (gl F (i : Int))).length = 1
inductive RchF (F : List (List Int)) : Nat → Prop
 | zero : RchF F 0
 | step {i j : Nat} : RchF F i → i < F.length → j < F.length → AdF F i j → RchF F j
def TwoR (F : List (List Int)) : Prop := ∀ p ∈ rdgs F, p.2.length = 2
theorem two_pair {V : Int} {F : List (List Int)} (hc : Cplx V F) (hp : Pure F) (h2 : TwoR F) : ∀ p ∈ rdgs F, ∃ a b : Nat, p.2 = [(a : Int), (b : Int)] ∧ a < b ∧ b < F.length := by
 intro p hpm
 have hl := h2 p hpm
 have hn := rdgs_nums hc hp hpm
 rw [hn] at hl ⊢
 unfold hasI at hl ⊢
 rw [List.length_map] at hl
 have hs : ((List.range F.length).filter fun k : Nat => decide (Ins p.1 (gl F (k : Int)))).Pairwise (· < ·) := List.pairwise_lt_range.filter _
 have hm : ∀ k ∈ (List.range F.length).filter fun k : Nat => decide (Ins p.1 (gl F (k : Int))), k < F.length := fun k hk => List.mem_range.1 (List.mem_filter.1 hk).1
 match hq : (List.range F.length).filter fun k : Nat => decide (Ins p.1 (gl F (k : Int))), hl with
 | [a, b], _ =>
  rw [hq] at hs hm
  refine ⟨a, b, rfl, ?_, hm b (by simp)⟩
  simpa using hs
/-
 Plain mathematics: the program's graph of facets joins those that the reference joins.
-/
theorem pure_len {V : Int} {F : List (List Int)} (hc : Cplx V F) (hp : Pure F) {k : Nat} (hk : k < F.length) : SA (gl F (k : Int)) ∧ (gl F (k : Int)).length = dpt F ∧ 1 ≤ dpt F := by
 have hm : gl F (k : Int) ∈ F := by rw [gl_mem hk]; exact List.getElem_mem _
 have h1 := hp _ hm
 have h2 := (hc.row _ hm).1.1
 exact ⟨(hc.row _ hm).2.1, h1, by omega⟩
theorem cplx_inj {V : Int} {F : List (List Int)} (hc : Cplx V F) {i j : Nat} (hi : i < F.length) (hj : j < F.length) (h : gl F (i : Int) = gl F (j : Int)) : i = j := nodup_at hc.ord.nodup hi hj h
theorem mem_hasI {F : List (List Int)} {x : List Int} {k : Nat} : (k : Int) ∈ hasI F x ↔ k < F.length ∧ Ins x (gl F (k : Int)) := by
 unfold hasI
 rw [List.mem_map]
 constructor
 ·rintro ⟨m, hm, e⟩
  obtain rfl : m = k := by omega
  obtain ⟨h1, h2⟩ := List.mem_filter.1 hm
  exact ⟨List.mem_range.1 h1, of_decide_eq_true h2⟩
 ·rintro ⟨h1, h2⟩
  exact ⟨k, List.mem_filter.2 ⟨List.mem_range.2 h1, decide_eq_true h2⟩, rfl⟩
theorem adj_iff {V : Int} {F : List (List Int)} (hc : Cplx V F) (hp : Pure F) (h2 : TwoR F) {u v : Nat} (hu : u < F.length) (hv : v < F.length) : (v : Int) ∈ gl (nbR F.length (rdgs F)) (u : Int) ↔ AdF F u v := by
 have hpair := two_pair hc hp h2
 have hX := nx_of _ (rdgs F) rfl hpair
 obtain ⟨hsu, hlu, hd⟩ := pure_len hc hp hu
 obtain ⟨hsv, hlv, _⟩ := pure_len hc hp hv
 rw [hX.adj u v hu]
 constructor
 ·rintro ⟨p, hpm, h⟩
  obtain ⟨a, b, hab, hlt, _⟩ := hpair p hpm
  have hn := rdgs_nums hc hp hpm
  have hk := ((rdgs_mem hc hp).1 (List.mem_map.2 ⟨p, hpm, rfl⟩)).1
  have hpl := fcs_len hk
  have hps := fcs_sa (fun f hf => (hc.row f hf).2.1) hk
  have hmu : (u : Int) ∈ p.2 := by rcases h with h | h <;> rw [h] <;> simp
  have hmv : (v : Int) ∈ p.2 := by rcases h with h | h <;> rw [h] <;> simp
  have hne : u ≠ v := by
   rintro rfl
   rw [hab] at h
   simp only [List.cons.injEq, and_true] at h
   omega
  rw [hn] at hmu hmv
  have hIu := (mem_hasI.1 hmu).2
  have hIv := (mem_hasI.1 hmv).2
  have h3 := lessL_add hsv hps hIv
  have h4 : (lessL (gl F (v : Int)) (gl F (u : Int))).length ≤ (lessL (gl F (v : Int)) p.1).length := by
   refine (Ins.len (lessL_SA hsv) (lessL_SA hsv) fun z hz => ?_)
   rw [lessL_mem] at hz ⊢
   exact ⟨hz.1, fun h => hz.2 (hIu z h)⟩
  have h5 : (lessL (gl F (v : Int)) (gl F (u : Int))).length ≠ 0 := fun h0 => by
   have hnil := List.eq_nil_of_length_eq_zero h0
   have hI : Ins (gl F (v : Int)) (gl F (u : Int)) := fun z hz => Classical.byContradiction fun hzu => by
    have : z ∈ lessL (gl F (v : Int)) (gl F (u : Int)) := lessL_mem.2 ⟨hz, hzu⟩
    rw [hnil] at this; cases this
   exact hne (cplx_inj hc hv hu (Ins.same hsv hsu hI (by omega))).symm
  unfold AdF
  omega
 ·intro hA
  unfold AdF at hA
  have hx : SA ((gl F (v : Int)).filter fun z => decide (z ∈ gl F (u : Int))) := List.Pairwise.filter _ hsv
  have hsub : ((gl F (v : Int)).filter fun z => decide (z ∈ gl F (u : Int))).Sublist (gl F (v : Int)) := List.filter_sublist
  have hIu : Ins ((gl F (v : Int)).filter fun z => decide (z ∈ gl F (u : Int))) (gl F (u : Int)) := fun z hz => by simpa using (List.mem_filter.1 hz).2
  have hlen := filter_two (fun z => decide (z ∈ gl F (u : Int))) (gl F (v : Int))
  have hA2 : ((gl F (v : Int)).filter fun z => !decide (z ∈ gl F (u : Int))).length = 1 := hA
  generalize (gl F (v : Int)).filter (fun z => decide (z ∈ gl F (u : Int))) = x at *
  have hFne : F ≠ [] := fun e => by rw [e] at hu; simp at hu
  have hxm : x ∈ fcs F (dpt F - 1) := (fcs_iff' hFne).2 ⟨⟨gl F (v : Int), by rw [gl_mem hv]; exact List.getElem_mem _, hsub⟩, by omega⟩
  obtain ⟨p, hpm, hpx⟩ := List.mem_map.1 ((rdgs_mem hc hp).2 ⟨hxm, hFne⟩)
  obtain ⟨a, b, hab, hlt, _⟩ := hpair p hpm
  have hn := rdgs_nums hc hp hpm
  rw [hpx] at hn
  have hmu : (u : Int) ∈ p.2 := by rw [hn]; exact mem_hasI.2 ⟨hu, hIu⟩
  have hmv : (v : Int) ∈ p.2 := by rw [hn]; exact mem_hasI.2 ⟨hv, Ins.of_sub hsub⟩
  have hne : u ≠ v := by
   rintro rfl
   have : lessL (gl F (u : Int)) (gl F (u : Int)) = [] := List.filter_eq_nil_iff.2 fun z hz => by simp [hz]
   rw [this] at hA; cases hA
  refine ⟨p, hpm, ?_⟩
  rw [hab] at hmu hmv ⊢
  simp only [List.mem_cons, List.not_mem_nil, or_false] at hmu hmv
  simp only [List.cons.injEq, and_true]
  omega
theorem nb_gr2 {V : Int} {F : List (List Int)} (hc : Cplx V F) (hp : Pure F) (h2 : TwoR F) : Gr F.length (nbR F.length (rdgs F)) := by
 have hpair := two_pair hc hp h2
 have hX := nx_of _ (rdgs F) rfl hpair
 refine ⟨hX.len, hc.f, fun u h0 => ?_⟩
 obtain ⟨k, rfl⟩ : ∃ k : Nat, u = k := ⟨u.toNat, by omega⟩
 by_cases hk : k < F.length
 ·refine ⟨hX.rng k hk, ?_⟩
  have h1 := hX.cnt k hk
  obtain ⟨hsk, hlk, hd⟩ := pure_len hc hp hk
  have hl6 : (gl F (k : Int)).length ≤ 6 := (hc.at_ hk).1.2
  have h3 : ((rdgs F).filter fun p => decide ((k : Int) ∈ p.2)).length ≤ (ptsP (gl F (k : Int)) (dpt F - 1)).length := by
   rw [← List.length_map (f := fun p : List Int × List Int => p.1)]
   refine sub_len _ _ (List.Pairwise.sublist (List.filter_sublist.map _) (rdgs_keys F)) fun x hx => ?_
   obtain ⟨p, hpm, rfl⟩ := List.mem_map.1 hx
   obtain ⟨hpm, hk2⟩ := List.mem_filter.1 hpm
   have hk2 := of_decide_eq_true hk2
   rw [rdgs_nums hc hp hpm] at hk2
   have hk3 := ((rdgs_mem hc hp).1 (List.mem_map.2 ⟨p, hpm, rfl⟩)).1
   exact ptsP_mem.2 ⟨Ins.sub (fcs_sa (fun f hf => (hc.row f hf).2.1) hk3) hsk (mem_hasI.1 hk2).2, fcs_len hk3⟩
  have h4 := ptsP_small (l := gl F (k : Int)) (dpt F - 1) hl6
  omega
 ·have e : gl (nbR F.length (rdgs F)) (k : Int) = [] := by
   simp only [gl, Int.toNat_natCast, List.getD_eq_getElem?_getD]
   rw [List.getElem?_eq_none (by rw [hX.len]; omega)]; rfl
  rw [e]; simp
theorem conn_iff {V : Int} {F : List (List Int)} (hc : Cplx V F) (hp : Pure F) (h2 : TwoR F) (hn : 0 < F.length) : (distP (nbR F.length (rdgs F)) (-1) 0).2.length = F.length ↔ ∀ k, k < F.length → RchF F k := by
 have hg := nb_gr2 hc hp h2
 have hD := dist_DF hg (Int.le_refl 0) (by omega : (0 : Int) < (F.length : Int))
 have hB := dist_BF (wo := -1) hg (Int.le_refl 0) (by omega : (0 : Int) < (F.length : Int))
 have hadj := fun {u v : Nat} (hu : u < F.length) (hv : v < F.length) => adj_iff hc hp h2 hu hv
 have hrng := (nx_of _ (rdgs F) rfl (two_pair hc hp h2)).rng
 generalize nbR F.length (rdgs F) = N at *
 generalize distP N (-1) 0 = st at *
 have hl := hB.len
 have key : ∀ k, k < F.length → (0 ≤ gi st.1 (k : Int) ↔ RchF F k) := by
  have fwd : ∀ (m k : Nat), k < F.length → gi st.1 (k : Int) = m → RchF F k := by
   intro m
   induction m with
   | zero =>
    intro k hk h0
    by_cases e : k = 0
    ·subst e; exact .zero
    ·obtain ⟨y, _, _, h1, h3⟩ := hD.par (k : Int) (by omega) (by omega) (by omega) (by omega)
     omega
   | succ m ih =>
    intro k hk h0
    obtain ⟨y, ⟨hy0, hy1⟩, hm, h1, h3⟩ := hD.par (k : Int) (by omega) (by omega) (by omega) (fun e => by rw [e, hD.at0] at h0; omega)
    obtain ⟨j, rfl⟩ : ∃ j : Nat, y = j := ⟨y.toNat, by omega⟩
    exact .step (ih j (by omega) (by omega)) (by omega) hk ((hadj (by omega) hk).1 hm)
  intro k hk
  constructor
  ·intro h
   exact fwd (gi st.1 (k : Int)).toNat k hk (by omega)
  ·intro h
   clear hk
   induction h with
   | zero => rw [show ((0 : Nat) : Int) = 0 from rfl, hD.at0]; omega
   | step h hi hj ha ih => exact (hD.nxt _ (by omega) (by omega) ih _ ((hadj hi hj).2 ha)).1
 have hc1 := hB.cnt
 have hz : unl st.1 = 0 ↔ ∀ k, k < F.length → 0 ≤ gi st.1 (k : Int) := by
  unfold unl
  rw [List.countP_eq_zero]
  constructor
  ·intro h k hk
   have := h (gi st.1 (k : Int)) (gi_in (by omega))
   simpa using this
  ·intro h y hy
   obtain ⟨k, hk, rfl⟩ := List.mem_iff_getElem.1 hy
   have := h k (by omega)
   rw [gi_mem hk] at this
   simpa using this
 constructor
 ·intro h k hk
  exact (key k hk).1 (hz.1 (by omega) k hk)
 ·intro h
  have := hz.2 fun k hk => (key k hk).2 (h k hk)
  omega
end Go.Proofs.YtiblelgfkakmiaaGreatDoor.Vc
/-
 The boundary of a complex, walked on both sides.
-/
namespace Go.Proofs.YtiblelgfkakmiaaGreatDoor.Vc
open Go.RowKit
def bdV (V : Int) (F : List (List Int)) : Int := if Cplx V F ∧ Pure F then cxV (bdS F) else 0
def bdL (V : Int) (F : List (List Int)) : List (List Int) := if Cplx V F ∧ Pure F then cxL (bdS F) else []
def bdK (V : Int) (F : List (List Int)) : Int := if Cplx V F then (if Pure F then cxK (bdS F) else 5) else 1
theorem bdS_sa {F : List (List Int)} (hs : ∀ f ∈ F, SA f) : ∀ l ∈ bdS F, SA l := fun l hl => fcs_sa hs (List.mem_filter.1 hl).1
theorem Cplx.bd {V : Int} {F : List (List Int)} (h : Cplx V F) : (bdS F).length ≤ 25601 ∧ (∀ l ∈ bdS F, SA l ∧ l.length ≤ 6) ∧ (bdS F).flatten.length ≤ 153606 := by
 have h6 : ∀ f ∈ F, f.length ≤ 6 := fun f hf => (h.row f hf).1.2
 have h1 : (bdS F).length ≤ 25601 := by
  have h2 := List.length_filter_le (fun x => decide ((hasI F x).length % 2 = 1)) (fcs F (dpt F - 1))
  have h3 := fcs_num (dpt F - 1) h6
  have := h.f
  unfold bdS
  omega
 have h2 : ∀ l ∈ bdS F, SA l ∧ l.length ≤ 6 := fun l hl => by
  refine ⟨bdS_sa (fun f hf => (h.row f hf).2.1) l hl, ?_⟩
  have := fcs_len (List.mem_filter.1 hl).1
  have := dpt_bd h6
  omega
 refine ⟨h1, h2, ?_⟩
 have := flat_le2 (b := 6) fun l hl => (h2 l hl).2
 omega
def rvO (rvs : List RV) : List RV := rvs.filter fun r => decide (r.ns.length % 2 = 1)
theorem rvO_succ {rvs : List RV} {k : Nat} (h : k < rvs.length) : rvO (rvs.take (k + 1)) = if rvs[k].ns.length % 2 = 1 then rvO (rvs.take k) ++ [rvs[k]] else rvO (rvs.take k) := by
 unfold rvO
 rw [List.take_succ_eq_append_getElem h, List.filter_append]
 by_cases e : rvs[k].ns.length % 2 = 1 <;> simp [e]
theorem rvO_all {rvs : List RV} {F : List (List Int)} (h : rvs.map RV.pr = rdgs F) : (rvO rvs).map (·.x) = bdR F := by
 unfold rvO bdR
 rw [← h, List.filter_map, List.map_map]; rfl
theorem bd_sets {V : Int} {F : List (List Int)} (hC : Cplx V F) (hP : Pure F) : cxV ((bdR F).map cs) = cxV (bdS F) ∧ cxL ((bdR F).map cs) = cxL (bdS F) ∧ cxK ((bdR F).map cs) = cxK (bdS F) := by
 have hm := bdR_mem hC hP
 rw [map_cs_id fun l hl => bdS_sa (fun f hf => (hC.row f hf).2.1) l ((hm l).1 hl)]
 exact cx_ext hm
set_option maxHeartbeats 1000000 in
theorem implBoundaryOf_c (V : Int) (A : Option Addr) (n c : Nat) (rs : List SlV) (F : List (List Int)) (w : World) (hT : Tab w) (hR : RowsI w A n rs F) (hn : n ≤ 9223372036854775807) :
    Ret Tryz.prog 11 [.agg #[.int .i64 V, .slice A n c]] w (AnsC (bdV V F) (bdL V F) (bdK V F) w) := by
  have hFl := hR.len
  refine Ret.of_cd Tryz.func11 rfl Tryz.ntmps11 rfl (postc2 rfl rfl) (Cd.seq (Cd.region (Ops.box2 (St.refl w) rfl rfl ?_)))
  intro Ab w1 hS1
  refine Ops.new2 hS1 rfl ?_
  intro A2 w2 hS2
  have hS2 : St w w2 [cxZ A2, cxB Ab V A n c] := hS2
  refine Ops.mi rfl rfl rfl (Ops.n (tQ (Cd.seq (Cd.block (Cd.seq (Cd.region (Ops.ld_agg 1 (hS2.rd 1 rfl) rfl rfl rfl (Ops.call (isComplex_c V A n c rs F _ (hT.later hS2.below) (hS2.oldRows hR) hn) rfl rfl rfl ?_))))))))
  rintro _ w3 ⟨rfl, hst⟩
  have hS3 := hS2.later hst.below
  first | refine Ops.not_p rfl rfl ?_ | refine Ops.not rfl rfl ?_
  refine Ops.mb rfl rfl rfl (Ops.n (tQ ?_))
  unfold bdV bdL bdK
  refine Cd.cond_p _ rfl (fun h1 => ?_) (fun h1 => ?_)
  · rw [if_neg (fun h => h1 h.1), if_neg (fun h => h1 h.1), if_neg h1]
    refine Cd.seq (Cd.region (Ops.bldZ2 (by exact inferInstance) (by exact inferInstance) rfl rfl rfl (Ops.st_agg 2 0 hS3 rfl rfl rfl rfl rfl rfl rfl ?_)))
    intro w9 hS9
    refine Ops.mi rfl rfl rfl (Ops.n (tQ (Cd.ret (blockQ_r (thenQ_r ?_)))))
    skip
    refine retc2_r rfl (hS9.rd 0 rfl) rfl ?_
    exact AnsC.none hS9
  have h1 := Classical.not_not.1 h1
  have hn4 := h1.f
  have h6 : ∀ f ∈ F, f.length ≤ 6 := fun f hf => (h1.row f hf).1.2
  refine Cd.seq (Cd.region ?_)
  refine Ops.call (isPure_c Ab V A n c rs F _ (hS3.rd 1 rfl) (hS3.oldRows hR) (by omega) (fun f hf => by have := h6 f hf; omega)) rfl rfl rfl ?_
  rintro _ w4 ⟨rfl, hst⟩
  have hS4 := hS3.later hst.below
  first | refine Ops.not_p rfl rfl ?_ | refine Ops.not rfl rfl ?_
  refine Ops.mb rfl rfl rfl (Ops.n (tQ ?_))
  refine Cd.cond_p _ rfl (fun h2 => ?_) (fun h2 => ?_)
  · rw [if_neg (fun h => h2 h.2), if_neg (fun h => h2 h.2), if_pos h1, if_neg h2]
    refine Cd.seq (Cd.region (Ops.bldZ2 (by exact inferInstance) (by exact inferInstance) rfl rfl rfl (Ops.st_agg 2 0 hS4 rfl rfl rfl rfl rfl rfl rfl ?_)))
    intro w9 hS9
    refine Ops.mi rfl rfl rfl (Ops.n (tQ (Cd.ret (blockQ_r (thenQ_r ?_)))))
    skip
    refine retc2_r rfl (hS9.rd 0 rfl) rfl ?_
    exact AnsC.none hS9
  have h2 := Classical.not_not.1 h2
  rw [if_pos ⟨h1, h2⟩, if_pos ⟨h1, h2⟩, if_pos h1, if_pos h2]
  obtain ⟨eV, eL, eK⟩ := bd_sets h1 h2
  refine Cd.skip (blockQ_n (tQ (Cd.seq (Cd.region (Ops.ms rfl rfl rfl (Ops.n (tQ (Cd.seq (Cd.seq ?_)))))))))
  refine Cd.region (Ops.call (ridges_c Ab V A n c rs F _ (hT.later hS4.below) (hS4.rd 1 rfl) (hS4.oldRows hR) h1) rfl rfl rfl ?_)
  rintro _ w5 ⟨A16, c16, rvs, X, rfl, hpr, hrow, hst⟩
  have hbl : rvs.length ≤ 25600 := by
    have e1 := congrArg List.length hpr
    rw [List.length_map] at e1
    have e2 := rdF_len _ (sqR F F.length) rfl
    have e3 := sqR_len h6 F.length (Nat.le_refl _)
    unfold rdgs at e1
    omega
  have hS5 : St w w5 (CkR 28 none (rvO (rvs.take 0)).length 0 [] :: cxZ A2 :: cxB Ab V A n c :: CkP 55 A16 rvs.length c16 (rvs.map (·.P)) :: (rvs.flatMap RV.ck ++ X)) := (hS4.call2 hst).nil 28
  clear hS4 hS3 hS2 hS1 hst
  refine Ops.len rfl rfl (Ops.mi rfl rfl rfl (Ops.n (tQ (Cd.block ?_))))
  refine Cd.loop (α := Nat × (Option Addr × Nat)) (fun z => [(2, .pointer A2), (4, .slice z.2.1 (rvO (rvs.take z.1)).length z.2.2), (16, .slice A16 rvs.length c16), (17, .int .i64 (rvs.length : Int)), (18, .int .i64 (z.1 : Int))])
    (fun z w' => z.1 ≤ rvs.length ∧ St w w' (CkR 28 z.2.1 (rvO (rvs.take z.1)).length z.2.2 ((rvO (rvs.take z.1)).map (·.s)) :: cxZ A2 :: cxB Ab V A n c :: CkP 55 A16 rvs.length c16 (rvs.map (·.P)) :: (rvs.flatMap RV.ck ++ X))) (fun z => rvs.length - z.1) (0, (none, 0)) ⟨rfl, rfl, rfl, rfl, rfl, trivial⟩ ⟨Nat.zero_le _, hS5⟩ ?_
  clear hS5
  rintro ⟨k, ⟨A4, c4⟩⟩ e w6 ⟨hk, hS⟩
  dsimp only at hk hS ⊢
  have hol : (rvO (rvs.take k)).length ≤ 25600 := by
    have := List.length_filter_le (fun r : RV => decide (r.ns.length % 2 = 1)) (rvs.take k)
    rw [List.length_take] at this
    unfold rvO
    omega
  refine Cd.seq (Cd.region (Ops.lss rfl rfl rfl (Ops.n (tQ (Cd.seq ?_)))))
  refine Cd.cond_p _ rfl (fun h3 => ?_) (fun h3 => ?_)
  · have hkl : k < rvs.length := by omega
    have hsucc := rvO_succ hkl
    have hrm : rvs[k] ∈ rvs := List.getElem_mem _
    have hrX := hrow rvs[k] hrm
    have hP : RdP w6 A16 rvs.length (rvs.map (·.P)) := hS.rdP 3 rfl
    have hgp : (rvs.map (·.P)).getD ((k : Int)).toNat none = rvs[k].P := by simp [List.getD_eq_getElem?_getD, List.getElem?_eq_getElem hkl]
    obtain ⟨q, hq⟩ := List.mem_iff_getElem?.1 (show rvs[k].bx ∈ rvs.flatMap RV.ck ++ X from List.mem_append_left _ (List.mem_flatMap.2 ⟨rvs[k], hrm, by simp [RV.ck]⟩))
    have hbx : Rd w6 rvs[k].P 2 (fun j => [Value.slice rvs[k].s.a rvs[k].s.n rvs[k].s.c, .slice rvs[k].B rvs[k].ns.length rvs[k].c].getD j undef) := hS.rd (q + 4) hq
    generalize rvs[k] = r at *
    refine Cd.skip (tQ (Cd.seq (Cd.block (Cd.seq (Cd.region (Ops.idx hP.2 rfl rfl rfl (by omega) (by omega) (Ops.ld hP.2 rfl (by omega) rfl rfl rfl ?_)))))))
    rw [hgp]
    refine Ops.mv_ptr rfl rfl rfl (Ops.n (tQ (Cd.seq (Cd.region (Ops.mv_ptr rfl rfl rfl (Ops.nilp hbx (by omega) rfl rfl (Ops.fld hbx rfl rfl rfl rfl inferInstance (Ops.ldf_s hbx rfl rfl rfl rfl rfl (Ops.len rfl rfl ?_)))))))))
    refine Ops.rem rfl rfl rfl (by omega) (Ops.eql rfl rfl rfl (Ops.n (tQ ?_)))
    refine Cd.cond_p _ rfl (fun h4 => ?_) (fun h4 => ?_)
    · rw [if_pos (by omega)] at hsucc
      refine Cd.region (Ops.ms rfl rfl rfl (Ops.mv_ptr rfl rfl rfl (Ops.nilp hbx (by omega) rfl rfl (Ops.fld hbx rfl rfl rfl rfl inferInstance (Ops.ldf_s hbx rfl rfl rfl rfl rfl (Ops.bs1R hS rfl rfl rfl ?_))))))
      intro A7 w7 hS7
      refine Ops.appR 1 hS7 rfl (hS7.rdR 0 rfl) rfl rfl rfl (by omega) (by omega) rfl ?_
      intro A8 c8 w8 hS8
      have hS8 := St.tail hS8
      have hl1 : (rvO (rvs.take (k + 1))).length = (rvO (rvs.take k)).length + 1 := by rw [hsucc]; simp
      refine Ops.ms rfl rfl rfl (Ops.n (blockQ_n (tQ (Cd.region (Ops.add rfl rfl rfl (by omega) (Ops.mi rfl rfl rfl (Ops.n (tQ ?_))))))))
      refine ⟨(k + 1, (A8, c8)), by show rvs.length - (k + 1) < rvs.length - k; omega, ⟨rfl, by show Value.slice A8 ((rvO (rvs.take k)).length + 1) c8 = .slice A8 (rvO (rvs.take (k + 1))).length c8; rw [hl1], rfl, rfl, rfl, trivial⟩, by show k + 1 ≤ _; omega, ?_⟩
      show St w w8 (CkR 28 A8 (rvO (rvs.take (k + 1))).length c8 ((rvO (rvs.take (k + 1))).map (·.s)) :: _)
      rw [hl1, hsucc, List.map_append]
      exact hS8
    · rw [if_neg (by omega)] at hsucc
      rw [← hsucc] at hS ⊢
      refine Cd.skip (blockQ_n (tQ (Cd.region (Ops.add rfl rfl rfl (by omega) (Ops.mi rfl rfl rfl (Ops.n (tQ ?_)))))))
      exact ⟨(k + 1, (A4, c4)), by show rvs.length - (k + 1) < rvs.length - k; omega, ⟨rfl, rfl, rfl, rfl, rfl, trivial⟩, by show k + 1 ≤ _; omega, hS⟩
  · rw [List.take_of_length_le (by omega)] at hS hol ⊢
    have hxs := rvO_all hpr
    have hlen : (rvO rvs).length = (bdR F).length := by rw [← hxs, List.length_map]
    have hW : RowsS w X (bdR F).length ((rvO rvs).map (·.s)) (bdR F) := by
      refine ⟨by rw [List.length_map, hlen], rfl, fun j hj => .inr ?_⟩
      have hj2 : j < (rvO rvs).length := by omega
      have hm : (rvO rvs)[j] ∈ rvs := (List.mem_filter.1 (List.getElem_mem hj2)).1
      have e1 : ((rvO rvs).map (·.s)).getD j slNil = (rvO rvs)[j].s := by simp [List.getD_eq_getElem?_getD, List.getElem?_eq_getElem hj2]
      have e2 : (bdR F).getD j [] = (rvO rvs)[j].x := by rw [← hxs]; simp [List.getD_eq_getElem?_getD, List.getElem?_eq_getElem hj2]
      rw [e1, e2]
      exact hrow _ hm
    rw [hlen] at hS hol ⊢
    have hI : RowsI w6 A4 (bdR F).length ((rvO rvs).map (·.s)) (bdR F) := (hW.W hS fun k hk => List.mem_cons_of_mem _ (List.mem_cons_of_mem _ (List.mem_cons_of_mem _ (List.mem_cons_of_mem _ (List.mem_append_right _ hk))))).I (hS.rdR 0 rfl)
    obtain ⟨hL1, hL2, hL3⟩ := h1.bd
    have hC := complexOf_c A4 (bdR F).length c4 ((rvO rvs).map (·.s)) (bdR F) w6 (hT.later hS.below) hI (by omega) (fun l hl => by have := (hL2 l ((bdR_mem h1 h2 l).1 hl)).2; omega)
    rw [eV, eL, eK] at hC
    refine Cd.exit (thenQ_x (thenQ_x (blockQ_x (tQ (Cd.seq (Cd.region (Ops.ms rfl rfl rfl (Ops.call hC rfl rfl rfl ?_))))))))
    rintro _ w7 ⟨A6, c6, rs6, rfl, hrl6, hst6⟩
    have hS6 := (St.sub hS (show [cxZ A2].Sublist _ from (List.Sublist.cons_cons _ (List.nil_sublist _)).cons _)).call2 hst6
    refine Ops.extract rfl rfl rfl (Ops.extract rfl rfl rfl (Ops.st_agg 2 0 hS6 rfl rfl rfl rfl rfl rfl rfl ?_))
    intro w8 hS7
    refine Ops.mi rfl rfl rfl (Ops.n (tQ (Cd.ret ?_)))
    skip
    refine retc2_r rfl (hS7.rd 0 rfl) rfl ?_
    exact ⟨A6, c6, rs6, rfl, hrl6, hS7.tail⟩
def odG (F D : List (List Int)) (r : Nat) : List Nat := (List.range r).filter fun q : Nat => decide ((hasI F (gl D (q : Int))).length % 2 = 1)
/-
 Pseudomanifolds: the program's test, walked.
-/
def PsM (F : List (List Int)) : Prop := F ≠ [] ∧ Pure F ∧ TwoR F ∧ ∀ k, k < F.length → RchF F k
theorem mat_app {t1 t2 : TypeId} {A : Option Addr} {n c : Nat} {rs : List SlV} {xss : List (List Int)} {ks : List Ck} {q : Ck} {i : Nat} (s : SlV) (xs : List Int) (hr : rs.length = xss.length) (hi : i < rs.length) :
    (q :: (mat t1 t2 A n c rs xss ++ ks)).set (2 + i) (CkI t2 s.a s.n s.c xs) = q :: (CkR t1 A n c rs :: (rowsCk t2 (rs.set i s) (xss.set i xs) ++ ks)) := by
  rw [show 2 + i = i + 1 + 1 by omega, List.set_cons_succ]
  show _ :: (CkR t1 A n c rs :: (rowsCk t2 rs xss ++ ks)).set (i + 1) _ = _
  rw [List.set_cons_succ, List.set_append_left _ _ (by rw [rowsCk_length hr]; exact hi), rowsCk_upd hr]
set_option maxHeartbeats 4000000 in
theorem isPseudo_c (Pc : Option Addr) (V : Int) (A : Option Addr) (n c : Nat) (rs : List SlV) (F : List (List Int)) (w : World) (hT : Tab w) (hP : Rd w Pc 2 (fun j => [Value.int .i64 V, .slice A n c].getD j undef)) (hR : RowsI w A n rs F) (hC : Cplx V F) :
    Ret Tryz.prog 50 [.pointer Pc] w (fun v w' => ∃ b : Bool, v = .bool b ∧ (b = true ↔ PsM F) ∧ St w w' []) := by
  have hFl := hR.len
  have hF4 := hC.f
  have h6 : ∀ f ∈ F, f.length ≤ 6 := fun f hf => (hC.row f hf).1.2
  have hl6 : ∀ f ∈ F, f.length ≤ 1000000 := fun f hf => by have := h6 f hf; omega
  refine Ret.of_cd Tryz.func50 rfl Tryz.ntmps50 rfl (post1 rfl) (Cd.seq (Cd.region (Ops.mb rfl rfl rfl (Ops.n (tQ (Cd.seq (Cd.seq (Cd.region (Ops.mv_ptr rfl rfl rfl ?_)))))))))
  refine Ops.nilp hP (by omega) rfl rfl (Ops.fld hP rfl rfl rfl rfl inferInstance (Ops.ldf_s hP rfl rfl rfl rfl rfl (Ops.len rfl rfl (Ops.eql rfl rfl rfl (Ops.mb rfl rfl rfl ?_)))))
  refine Ops.split_p 14 rfl (fun h1 => ?_) (fun h1 => ?_)
  · have hnil : F = [] := List.eq_nil_of_length_eq_zero (by omega)
    refine Ops.k rfl rfl rfl rfl rfl (Ops.k rfl rfl rfl rfl rfl (Ops.k rfl rfl rfl rfl rfl (Ops.pick_t rfl rfl rfl (Ops.n (tQ (Cd.cond_t rfl (Cd.seq (Cd.region (Ops.mb rfl rfl rfl ?_)))))))))
    refine Ops.n (tQ (Cd.ret (thenQ_r (ret1_b rfl ?_))))
    exact ⟨false, rfl, ⟨fun h => (by cases h), fun h => absurd hnil h.1⟩, (St.refl w)⟩
  have hne : F ≠ [] := fun e => h1 (by rw [e] at hFl; simp at hFl; omega)
  refine Ops.g rfl rfl rfl (Ops.mv_ptr rfl rfl rfl (Ops.g rfl rfl rfl (Ops.call (isPure_c Pc V A n c rs F _ hP hR (by omega) hl6) rfl rfl rfl ?_)))
  rintro _ w1 ⟨rfl, hst1⟩
  refine Ops.g rfl rfl rfl ?_
  first | refine Ops.not_p rfl rfl ?_ | refine Ops.not rfl rfl ?_
  refine Ops.pick_f rfl rfl rfl (Ops.n (tQ ?_))
  refine Cd.cond_p _ rfl (fun h2 => ?_) (fun h2 => ?_)
  · refine Cd.seq (Cd.region (Ops.mb rfl rfl rfl (Ops.n (tQ (Cd.ret (thenQ_r (ret1_b rfl ?_)))))))
    exact ⟨false, rfl, ⟨fun h => (by cases h), fun h => absurd h.2.1 h2⟩, hst1⟩
  have hpu := Classical.not_not.1 h2
  have hP1 := hst1.old hP
  refine Cd.skip (tQ (Cd.seq (Cd.region (Ops.mv_ptr rfl rfl rfl (Ops.nilp hP1 (by omega) rfl rfl (Ops.fld hP1 rfl rfl rfl rfl inferInstance (Ops.ldf_s hP1 rfl rfl rfl rfl rfl (Ops.len rfl rfl (Ops.mkR n hst1 rfl rfl (by omega) ?_)))))))))
  intro A3 w2 hS2
  have hS2 : St w w2 (mat 28 2 A3 n n (List.replicate n slNil) (List.replicate n [])) := nilRows n hS2
  refine Ops.ms rfl rfl rfl (Ops.n (tQ (Cd.seq (Cd.seq (Cd.region (Ops.mv_ptr rfl rfl rfl (Ops.call (ridges_c Pc V A n c rs F _ (hT.later hS2.below) (hS2.old hP) (hS2.oldRows hR) hC) rfl rfl rfl ?_)))))))
  rintro _ w5 ⟨A26, c26, rvs, X, rfl, hpr, hrow, hst⟩
  have hbl : rvs.length ≤ 25600 := by
    have e1 := congrArg List.length hpr
    rw [List.length_map] at e1
    have e2 := rdF_len _ (sqR F F.length) rfl
    have e3 := sqR_len h6 F.length (Nat.le_refl _)
    unfold rdgs at e1
    omega
  have hS5 := hS2.call2 hst
  have hmemR : ∀ r ∈ rvs, r.pr ∈ rdgs F := fun r hr => by rw [← hpr]; exact List.mem_map.2 ⟨r, hr, rfl⟩
  have hprk : ∀ k, (rvs.take k).map RV.pr = (rdgs F).take k := fun k => by rw [← hpr, List.map_take]
  generalize hKK : CkP 55 A26 rvs.length c26 (rvs.map (·.P)) :: (rvs.flatMap RV.ck ++ X) = KK at *
  clear hS2 hst hst1
  refine Ops.len rfl rfl (Ops.mi rfl rfl rfl (Ops.n (tQ (Cd.block ?_))))
  refine Cd.loop (α := Nat × List SlV) (fun z => [(3, .slice A3 n n), (26, .slice A26 rvs.length c26), (27, .int .i64 (rvs.length : Int)), (28, .int .i64 (z.1 : Int))])
    (fun z w' => z.1 ≤ rvs.length ∧ (∀ r ∈ rvs.take z.1, r.ns.length = 2) ∧ z.2.length = n ∧ (∀ u, u < n → (gl (nbR n ((rdgs F).take z.1)) (u : Int)).length ≤ 2 * z.1) ∧ St w w' (mat 28 2 A3 n n z.2 (nbR n ((rdgs F).take z.1)) ++ KK)) (fun z => rvs.length - z.1) (0, List.replicate n slNil) ⟨rfl, rfl, rfl, rfl, trivial⟩ ⟨Nat.zero_le _, (fun r hr => by cases hr), (by simp), (fun u hu => by
      show (gl (List.replicate n []) (u : Int)).length ≤ 0
      simp [gl, List.getD_eq_getElem?_getD, hu]), hS5⟩ ?_
  clear hS5
  rintro ⟨k, rs3⟩ e w6 ⟨hk, h2k, hrl, hgrow, hS⟩
  dsimp only at hk h2k hrl hgrow hS ⊢
  have hNl := nbR_length n ((rdgs F).take k)
  refine Cd.seq (Cd.region (Ops.lss rfl rfl rfl (Ops.n (tQ (Cd.seq ?_)))))
  refine Cd.cond_p _ rfl (fun h3 => ?_) (fun h3 => ?_)
  · have hkl : k < rvs.length := by omega
    have hrm : rvs[k] ∈ rvs := List.getElem_mem _
    have htk : rvs.take (k + 1) = rvs.take k ++ [rvs[k]] := List.take_succ_eq_append_getElem hkl
    have hpk := hmemR _ hrm
    have hrk1 : (rdgs F).take (k + 1) = (rdgs F).take k ++ [rvs[k].pr] := by rw [← hprk, htk, List.map_append, hprk]; rfl
    have hn2 := rdgs_nums hC hpu hpk
    have hKS : ∀ q ∈ KK, q ∈ mat 28 2 A3 n n rs3 (nbR n ((rdgs F).take k)) ++ KK := fun q hq => List.mem_append_right _ hq
    have hP : RdP w6 A26 rvs.length (rvs.map (·.P)) := by
      obtain ⟨q, hq⟩ := List.mem_iff_getElem?.1 (hKS (CkP 55 A26 rvs.length c26 (rvs.map (·.P))) (by rw [← hKK]; exact List.mem_cons_self))
      exact hS.rdP q hq
    have hgp : (rvs.map (·.P)).getD ((k : Int)).toNat none = rvs[k].P := by simp [List.getD_eq_getElem?_getD, List.getElem?_eq_getElem hkl]
    obtain ⟨q, hq⟩ := List.mem_iff_getElem?.1 (hKS rvs[k].bx (by rw [← hKK]; exact List.mem_cons_of_mem _ (List.mem_append_left _ (List.mem_flatMap.2 ⟨rvs[k], hrm, by simp [RV.ck]⟩))))
    have hbx : Rd w6 rvs[k].P 2 (fun j => [Value.slice rvs[k].s.a rvs[k].s.n rvs[k].s.c, .slice rvs[k].B rvs[k].ns.length rvs[k].c].getD j undef) := hS.rd q hq
    have hfa : RdI w6 rvs[k].B rvs[k].ns.length rvs[k].ns := mem_rd hS (hKS rvs[k].fa (by rw [← hKK]; exact List.mem_cons_of_mem _ (List.mem_append_left _ (List.mem_flatMap.2 ⟨rvs[k], hrm, by simp [RV.ck]⟩))))
    generalize rvs[k] = r at *
    refine Cd.skip (tQ (Cd.seq (Cd.block (Cd.seq (Cd.region (Ops.idx hP.2 rfl rfl rfl (by omega) (by omega) (Ops.ld hP.2 rfl (by omega) rfl rfl rfl ?_)))))))
    rw [hgp]
    refine Ops.mv_ptr rfl rfl rfl (Ops.n (tQ (Cd.seq (Cd.seq (Cd.region (Ops.mv_ptr rfl rfl rfl (Ops.nilp hbx (by omega) rfl rfl (Ops.fld hbx rfl rfl rfl rfl inferInstance (Ops.ldf_s hbx rfl rfl rfl rfl rfl ?_)))))))))
    refine Ops.len rfl rfl (Ops.neq rfl rfl rfl (Ops.n (tQ ?_)))
    refine Cd.cond_p _ rfl (fun h4 => ?_) (fun h4 => ?_)
    · refine Cd.seq (Cd.region (Ops.mb rfl rfl rfl (Ops.n (tQ (Cd.ret (thenQ_r (blockQ_r (thenQ_r (thenQ_r ?_)))))))))
      refine blockQ_r (thenQ_r (ret1_b rfl ?_))
      exact ⟨false, rfl, ⟨fun h => (by cases h), fun h => absurd (h.2.2.1 _ hpk) (fun e => h4 (by have e : r.ns.length = 2 := e; omega))⟩, hS.none⟩
    have hr2 : r.ns.length = 2 := by omega
    have hin : ∀ x ∈ r.ns, 0 ≤ x ∧ x < n := fun x hx => by
      have hn3 : r.ns = hasI F r.x := hn2
      rw [hn3] at hx
      unfold hasI at hx
      obtain ⟨m, hm, rfl⟩ := List.mem_map.1 hx
      have := List.mem_range.1 (List.mem_filter.1 hm).1
      omega
    have ha := hin _ (show gi r.ns 0 ∈ r.ns by rw [show (0 : Int) = ((0 : Nat) : Int) from rfl, gi_mem (by omega)]; exact List.getElem_mem _)
    have hb := hin _ (show gi r.ns 1 ∈ r.ns by rw [show (1 : Int) = ((1 : Nat) : Int) from rfl, gi_mem (by omega)]; exact List.getElem_mem _)
    have hnS : nbR n ((rdgs F).take (k + 1)) = nxA (nxA (nbR n ((rdgs F).take k)) (gi r.ns 0) (gi r.ns 1)) (gi r.ns 1) (gi r.ns 0) := by rw [hrk1, nbR_snoc]; rfl
    have hga : (gl (nbR n ((rdgs F).take k)) (gi r.ns 0)).length ≤ 2 * k := by
      have := hgrow (gi r.ns 0).toNat (by omega)
      rwa [show (((gi r.ns 0).toNat : Nat) : Int) = gi r.ns 0 by omega] at this
    have hgrow2 : ∀ u, u < n → (gl (nbR n ((rdgs F).take (k + 1))) (u : Int)).length ≤ 2 * (k + 1) := fun u hu => by
      rw [hnS, nxA_at hb.1 (by rw [nxA_len]; omega), nxA_at ha.1 (by omega) u]
      obtain ⟨bb, hbb⟩ : ∃ bb : Nat, gi r.ns 1 = bb := ⟨(gi r.ns 1).toNat, by omega⟩
      have h7 := hgrow u hu
      rw [hbb, nxA_at ha.1 (by omega) bb]
      have h8 := hgrow bb (by omega)
      split
      · rw [List.length_append]
        split
        · rw [List.length_append]; simp; omega
        · simp; omega
      · split
        · rw [List.length_append]; simp; omega
        · omega
    have hgb : (gl (nxA (nbR n ((rdgs F).take k)) (gi r.ns 0) (gi r.ns 1)) (gi r.ns 1)).length ≤ 2 * k + 1 := by
      obtain ⟨bb, hbb⟩ : ∃ bb : Nat, gi r.ns 1 = bb := ⟨(gi r.ns 1).toNat, by omega⟩
      have h8 := hgrow bb (by omega)
      rw [hbb, nxA_at ha.1 (by omega) bb]
      split
      · rw [List.length_append]; simp; omega
      · omega
    refine Cd.skip (tQ (Cd.seq ?_))
    refine Cd.draw [.ex (.pointer (r.P)), .ex (.pointer (r.P)), .ex (.pointer (ptrAt (r.P) 1)), .ex (.slice (r.B) (r.ns.length) (r.c)), .ex (.pointer (ptrAt (r.B) ((0 : Int)).toNat)), .ex (.int .i64 (gi (r.ns) ((0 : Int)))), .ex (.pointer (r.P)), .ex (.pointer (r.P)), .ex (.pointer (ptrAt (r.P) 1)), .ex (.slice (r.B) (r.ns.length) (r.c)), .ex (.pointer (ptrAt (r.B) ((1 : Int)).toNat)), .ex (.int .i64 (gi (r.ns) ((1 : Int)))), .ex (.int .i64 (gi (r.ns) ((0 : Int)))), .ex (.int .i64 (gi (r.ns) ((1 : Int))))] (by kernel_rfl) (by kernel_rfl) rfl (lx (lx (lx (lx (lx (lx (lx (lx (lx (lx (lx (lx (lx (lx (fun _ h => by cases h))))))))))))))) ⟨?_, ?_, ?_, ?_, ?_, ?_, ?_, ?_, ?_, ?_, ?_, ?_, ?_, ?_, trivial⟩ ?_
    · intro e1 w1 hb hp hun
      refine Ops.mv_ptr rfl rfl rfl (Ops.n (d0 (by exact rfl)))
    · intro e1 w1 hb hp hun
      refine Ops.nilp (hbx.below hb) (Nat.succ_pos _) rfl rfl (Ops.n (d0 (by exact rfl)))
    · intro e1 w1 hb hp hun
      refine Ops.fld (hbx.below hb) rfl rfl rfl rfl inferInstance (Ops.n (d0 (by exact rfl)))
    · intro e1 w1 hb hp hun
      refine Ops.ldf_s (hbx.below hb) rfl rfl rfl rfl rfl (Ops.n (d0 (by exact rfl)))
    · intro e1 w1 hb hp hun
      refine Ops.idx (hfa.later hb).2 rfl rfl rfl (by omega) (by omega) (Ops.n (d0 (by exact rfl)))
    · intro e1 w1 hb hp hun
      refine Ops.ld_int (hfa.later hb) rfl (by omega) rfl rfl (Ops.n (d0 (by exact rfl)))
    · intro e1 w1 hb hp hun
      refine Ops.mv_ptr rfl rfl rfl (Ops.n (d0 (by exact rfl)))
    · intro e1 w1 hb hp hun
      refine Ops.nilp (hbx.below hb) (Nat.succ_pos _) rfl rfl (Ops.n (d0 (by exact rfl)))
    · intro e1 w1 hb hp hun
      refine Ops.fld (hbx.below hb) rfl rfl rfl rfl inferInstance (Ops.n (d0 (by exact rfl)))
    · intro e1 w1 hb hp hun
      refine Ops.ldf_s (hbx.below hb) rfl rfl rfl rfl rfl (Ops.n (d0 (by exact rfl)))
    · intro e1 w1 hb hp hun
      refine Ops.idx (hfa.later hb).2 rfl rfl rfl (by omega) (by omega) (Ops.n (d0 (by exact rfl)))
    · intro e1 w1 hb hp hun
      refine Ops.ld_int (hfa.later hb) rfl (by omega) rfl rfl (Ops.n (d0 (by exact rfl)))
    · intro e1 w1 hb hp hun
      refine Ops.mi rfl rfl rfl (Ops.n (d0 (by exact rfl)))
    · intro e1 w1 hb hp hun
      refine Ops.mi rfl rfl rfl (Ops.n (d0 (by exact rfl)))
    intro u w7 hb7 _
    have hS7 := hS.later hb7
    have hM7 := hS7.rowsI hNl
    have hra := (hM7.at_ ha.1 ha.2).1
    generalize gi r.ns 0 = va at *
    generalize gi r.ns 1 = vb at *
    generalize hNN : nbR n ((rdgs F).take k) = NN at *
    refine tQ (Cd.seq (Cd.region (Ops.ms rfl rfl rfl (Ops.mi rfl rfl rfl (Ops.ms rfl rfl rfl (Ops.mi rfl rfl rfl (Ops.idx hM7.top.2 rfl rfl rfl (by omega) (by omega) (Ops.ld_sl hM7.top rfl (by omega) rfl rfl (Ops.mi rfl rfl rfl ?_)))))))))
    refine Ops.bs1I hS7 rfl rfl rfl ?_
    intro A57 w8 hS8
    have hg8 : (CkI 2 A57 1 1 [vb] :: (mat 28 2 A3 n n rs3 NN ++ KK))[2 + va.toNat]? = some (CkI 2 (rg rs3 va).a (rg rs3 va).n (rg rs3 va).c (gl NN va)) := by
      have h0 := mat_get (t1 := 28) (t2 := 2) (A := A3) (n := n) (c := n) (rs := rs3) (xss := NN) (pre := [CkI 2 A57 1 1 [vb]]) (ks := KK) (i := va.toNat) (by omega) (by omega)
      exact h0
    refine Ops.appI (2 + va.toNat) hS8 hg8 (hS8.rdI 0 rfl) rfl rfl rfl (by omega) (by omega) rfl ?_
    intro A58 c58 w9 hS9
    rw [mat_app ⟨A58, (rg rs3 va).n + 1, c58⟩ (gl NN va ++ [vb]) (by omega) (by omega)] at hS9
    have hT9 : RdR w9 A3 n rs3 := hS9.rdR 1 rfl
    skip
    refine Ops.idx hT9.2 rfl rfl rfl (by omega) (by omega) (Ops.st_sl (te := 28) (n := n) (c := n) (A := A3) (xs := rs3) 1 hS9 rfl rfl rfl (by omega) ?_)
    intro w10 hS10
    have hU : St w w10 (mat 28 2 A3 n n (rs3.set va.toNat ⟨A58, (rg rs3 va).n + 1, c58⟩) (nxA NN va vb) ++ KK) := St.tail hS10
    clear hS10 hT9 hS9 hg8 hS8
    have hNl2 : (nxA NN va vb).length = n := by rw [nxA_len]; exact hNl
    have hrl2 : (rs3.set va.toNat ⟨A58, (rg rs3 va).n + 1, c58⟩).length = n := by simp; exact hrl
    have hM10 := hU.rowsI hNl2
    have hrb := (hM10.at_ hb.1 hb.2).1
    generalize rs3.set va.toNat ⟨A58, (rg rs3 va).n + 1, c58⟩ = rs4 at *
    generalize hN2 : nxA NN va vb = N2 at *
    refine Ops.n (tQ (Cd.region (Ops.ms rfl rfl rfl (Ops.mi rfl rfl rfl (Ops.ms rfl rfl rfl (Ops.mi rfl rfl rfl (Ops.idx hM10.top.2 rfl rfl rfl (by omega) (by omega) (Ops.ld_sl hM10.top rfl (by omega) rfl rfl (Ops.mi rfl rfl rfl ?_)))))))))
    refine Ops.bs1I hU rfl rfl rfl ?_
    intro A67 w11 hS11
    have hg11 : (CkI 2 A67 1 1 [va] :: (mat 28 2 A3 n n rs4 N2 ++ KK))[2 + vb.toNat]? = some (CkI 2 (rg rs4 vb).a (rg rs4 vb).n (rg rs4 vb).c (gl N2 vb)) := by
      have h0 := mat_get (t1 := 28) (t2 := 2) (A := A3) (n := n) (c := n) (rs := rs4) (xss := N2) (pre := [CkI 2 A67 1 1 [va]]) (ks := KK) (i := vb.toNat) (by omega) (by omega)
      exact h0
    refine Ops.appI (2 + vb.toNat) hS11 hg11 (hS11.rdI 0 rfl) rfl rfl rfl (by omega) (by omega) rfl ?_
    intro A68 c68 w12 hS12
    rw [mat_app ⟨A68, (rg rs4 vb).n + 1, c68⟩ (gl N2 vb ++ [va]) (by omega) (by omega)] at hS12
    have hT12 : RdR w12 A3 n rs4 := hS12.rdR 1 rfl
    skip
    refine Ops.idx hT12.2 rfl rfl rfl (by omega) (by omega) (Ops.st_sl (te := 28) (n := n) (c := n) (A := A3) (xs := rs4) 1 hS12 rfl rfl rfl (by omega) ?_)
    intro w13 hS13
    have hU2 : St w w13 (mat 28 2 A3 n n (rs4.set vb.toNat ⟨A68, (rg rs4 vb).n + 1, c68⟩) (nxA N2 vb va) ++ KK) := St.tail hS13
    clear hS13 hT12 hS12 hg11 hS11
    refine Ops.n (blockQ_n (tQ (Cd.region (Ops.add rfl rfl rfl (by omega) (Ops.mi rfl rfl rfl (Ops.n (tQ ?_)))))))
    refine ⟨(k + 1, rs4.set vb.toNat ⟨A68, (rg rs4 vb).n + 1, c68⟩), by show rvs.length - (k + 1) < rvs.length - k; omega, ⟨rfl, rfl, rfl, rfl, trivial⟩, by show k + 1 ≤ rvs.length; omega, fun x hx => ?_, by show (rs4.set _ _).length = n; simp; exact hrl2, hgrow2, by show St w w13 (mat _ _ _ _ _ _ (nbR n ((rdgs F).take (k + 1))) ++ _); rw [hnS]; exact hU2⟩
    have hx : x ∈ rvs.take (k + 1) := hx
    rw [htk] at hx
    rcases List.mem_append.1 hx with hx | hx
    · exact h2k x hx
    · rw [List.mem_singleton.1 hx]; exact hr2
  · have hke : k = rvs.length := by omega
    have hlr : (rdgs F).length = rvs.length := by rw [← hpr, List.length_map]
    rw [hke, List.take_of_length_le (by omega)] at hS hNl
    have h2T : TwoR F := fun p hp => by
      rw [← hpr] at hp
      obtain ⟨r, hr, rfl⟩ := List.mem_map.1 hp
      exact h2k r (by rw [hke, List.take_length]; exact hr)
    have hn0 : 0 < F.length := by omega
    have hg := nb_gr2 hC hpu h2T
    have hcn := conn_iff hC hpu h2T hn0
    rw [hFl] at hg hcn
    refine Cd.exit (thenQ_x (thenQ_x (blockQ_x (tQ (Cd.seq (Cd.region (Ops.ms rfl rfl rfl (Ops.call (reachedFrom_c A3 n n rs3 (nbR n (rdgs F)) 0 (-1) _ (hS.rowsI hNl) hg (by omega) (by omega)) rfl rfl rfl ?_))))))))
    rintro _ w9 ⟨A72, c72, rfl, hst9⟩
    refine Ops.len rfl rfl (Ops.ms rfl rfl rfl (Ops.len rfl rfl (Ops.eql rfl rfl rfl (Ops.mb rfl rfl rfl (Ops.n (tQ (Cd.ret (ret1_b rfl ?_))))))))
    refine ⟨_, rfl, ?_, (hS.later hst9.below).none⟩
    rw [decide_eq_true_eq]
    constructor
    · intro h
      exact ⟨hne, hpu, h2T, by rw [hFl]; exact hcn.1 (by omega)⟩
    · intro h
      have := hcn.2 (by have := h.2.2.2; rwa [hFl] at this)
      omega
end Go.Proofs.YtiblelgfkakmiaaGreatDoor.Vc
