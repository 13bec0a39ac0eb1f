/- A part of the proof. No further condition. -/
import Derived.Test.YtfahloobpegieaaGreatKX19
import Derived.Test.YtfahloobpegieaaGreatKX24
import Derived.Test.YtfahloobpegieaaGreatKX16
import Derived.Test.YtfahloobpegieaaGreatKX11
import Derived.Test.YtfahloobpegieaaGreatKX21
import Derived.Test.YtfahloobpegieaaGreatKX14
set_option linter.all false
set_option maxRecDepth 100000
namespace Go.LP
section
theorem jk2 (f : Nat -> Nat) (p : Nat -> Prop) : ∀ {m : Nat}, (∃ i, i < m /\ p i) -> ∃ i, i < m /\ p i /\ ∀ j, j < m -> p j -> f i <= f j
 | 0, ⟨i, hi, _⟩ => absurd hi (Nat.not_lt_zero _)
 | m + 1, ⟨i, hi, hp⟩ => by
  by_cases h : ∃ k, k < m /\ p k
  ·obtain ⟨a, h1, h2, h3⟩ := jk2 f p h; by_cases hm : p m /\ f m < f a
   ·refine ⟨m, Nat.lt_succ_self _, hm.1, fun j hj hpj => ?_⟩; by_cases e : j = m
    ·subst e; exact Nat.le_refl _
    ·have := h3 j (by omega) hpj; omega
   ·refine ⟨a, by omega, h2, fun j hj hpj => ?_⟩; by_cases e : j = m
    ·subst e; have : ¬ f j < f a := fun hlt => hm ⟨hpj, hlt⟩; omega
    ·exact h3 j (by omega) hpj
  ·have e : i = m := by
    by_cases e : i = m
    ·exact e
    ·exact absurd ⟨i, by omega, hp⟩ h
   subst e; refine ⟨i, hi, hp, fun j hj hpj => ?_⟩; by_cases e : j = i
   ·subst e; exact Nat.le_refl _
   ·exact absurd ⟨j, by omega, hpj⟩ h
section
variable {D E : Dic} {a b : Int} {r s : Nat}
theorem nn_of {x : Rat} (h : ¬ x < 0) : 0 <= x := by grind
theorem np_of {x : Rat} (h : ¬ 0 < x) : x <= 0 := by grind
theorem step_or_final (hE : E.Ok) : (∃ r s, Rule E r s) \/ ∃ a b, Final E a b := by
 by_cases hr : ∃ i, i < E.m /\ E.v i < 0
 ·obtain ⟨r, hrm, hrv, hrl⟩ := jk2 E.own (fun i => E.v i < 0) hr; by_cases hrf : ∀ j, j < E.n -> 0 < E.g j -> E.own r < E.free j
  ·by_cases ha : ∃ j, j < E.n /\ E.a r j < 0
   ·obtain ⟨s, hsn, hsa, hsl⟩ := jk2 E.free (fun j => E.a r j < 0) ha; exact .inl ⟨r, s, hrm, hsn, .inl ⟨hrv, hrl, hrf, hsa, hsl⟩⟩
   ·exact .inr ⟨r, -1, .none r hrm hrv hrl hrf fun j hj => nn_of fun h => ha ⟨j, hj, h⟩⟩
  ·have hs : ∃ j, j < E.n /\ 0 < E.g j := by
    by_cases hs : ∃ j, j < E.n /\ 0 < E.g j
    ·exact hs
    ·exact absurd (fun j hj hg => absurd ⟨j, hj, hg⟩ hs) hrf
   obtain ⟨s, hsn, hsg, hsl⟩ := jk2 E.free (fun j => 0 < E.g j) hs; have hsf : ∀ i, i < E.m -> E.v i < 0 -> E.free s < E.own i := fun i hi hv => by
    have h1 := hrl i hi hv; have h2 : ¬ E.own r < E.free s := fun h => hrf fun j hj hg => Nat.lt_of_lt_of_le h (hsl j hj hg); have h3 := hE.apart r s hrm hsn; omega
   by_cases ha : ∃ i, i < E.m /\ 0 < E.a i s
   ·obtain ⟨q, hqm, hqa, hql⟩ := jk2 E.own (fun i => 0 < E.a i s) ha; exact .inl ⟨q, s, hqm, hsn, .inr ⟨hsg, hsl, hsf, hqa, hql⟩⟩
   ·exact .inr ⟨-1, s, .free s hsn hsg hsl hsf fun i hi => np_of fun h => ha ⟨i, hi, h⟩⟩
 ·have hv : ∀ i, i < E.m -> 0 <= E.v i := fun i hi => nn_of fun h => hr ⟨i, hi, h⟩; by_cases hs : ∃ j, j < E.n /\ 0 < E.g j
  ·obtain ⟨s, hsn, hsg, hsl⟩ := jk2 E.free (fun j => 0 < E.g j) hs; have hsf : ∀ i, i < E.m -> E.v i < 0 -> E.free s < E.own i := fun i hi h => absurd ⟨i, hi, h⟩ hr; by_cases ha : ∃ i, i < E.m /\ 0 < E.a i s
   ·obtain ⟨q, hqm, hqa, hql⟩ := jk2 E.own (fun i => 0 < E.a i s) ha; exact .inl ⟨q, s, hqm, hsn, .inr ⟨hsg, hsl, hsf, hqa, hql⟩⟩
   ·exact .inr ⟨-1, s, .free s hsn hsg hsl hsf fun i hi => np_of fun h => ha ⟨i, hi, h⟩⟩
  ·exact .inr ⟨-1, -1, .best hv fun j hj => np_of fun h => hs ⟨j, hj, h⟩⟩
theorem jj8 {K : Nat} (hK : ∀ k, (Own D k \/ Free D k) -> k < K) : ∀ (n T : Nat) (E : Dic), Reach D T E -> 2 ^ K - T <= n -> ∃ T' E' a b, Reach D T' E' /\ Final E' a b
 | n, T, E, h, hn => by
  have hb := h.bound hK; rcases step_or_final h.facts.1 with ⟨r, s, hr⟩ | ⟨a, b, hf⟩
  ·have h2 := h.step hr; have hb2 := h2.bound hK
   match n, hn with
   | 0, hn => omega
   | n + 1, hn => exact jj8 hK n (T + 1) _ h2 (by omega)
  ·exact ⟨T, E, a, b, h, hf⟩
theorem ends {K : Nat} (hD : D.Ok) (hK : ∀ k, (Own D k \/ Free D k) -> k < K) : ∃ T E a b, Reach D T E /\ Final E a b := jj8 hK (2 ^ K) 0 D (.zero hD) (Nat.sub_le _ _)
theorem Final.inv_best (h : Final E a b) (ha : a = -1) (hb : b = -1) : (∀ i, i < E.m -> 0 <= E.v i) /\ ∀ j, j < E.n -> E.g j <= 0 := by
 cases h with
 | best h1 h2 => exact ⟨h1, h2⟩
 | none r => omega
 | free s => omega
theorem Final.inv_none (h : Final E a b) (ha : a = (r : Int)) : r < E.m /\ E.v r < 0 /\ ∀ j, j < E.n -> 0 <= E.a r j := by
 cases h with
 | best h1 h2 => omega
 | none r' h1 h2 h3 h4 h5 => have e := Int.ofNat_inj.1 ha; subst e; exact ⟨h1, h2, h5⟩
 | free s => omega
theorem Final.inv_free (h : Final E a b) (hb : b = (s : Int)) : s < E.n /\ 0 < E.g s /\ ∀ i, i < E.m -> E.a i s <= 0 := by
 cases h with
 | best h1 h2 => omega
 | none r => omega
 | free s' h1 h2 h3 h4 h5 => have e := Int.ofNat_inj.1 hb; subst e; exact ⟨h1, h2, h5⟩
end
end
end Go.LP
namespace Go.Proofs.YtfahloobpegieaaGreat
section
open Go.Abs
open Go.LP (Dic Rw RT Ov OvRw Own Free Final first jec tsum Sol IsMin NoMin)
attribute [local go_sem] ints ic big frac fc zc
section
variable {N : Nat} {ws : List Rw} {goal : List (Nat × Rat)}
def isNone (o : List IV) : Bool := match o with
 | .sc (.int .i64 1) :: _ => true
 | _ => false
inductive Says (N : Nat) (ws : List Rw) (goal : List (Nat × Rat)) : List IV -> Prop
 | found (v : Rat) (x : Nat -> Rat) (Y : List (List IV)) : FL 4000000000 v -> IsMin N ws goal v -> Sol N ws x -> tsum goal x = v -> Says N ws goal ([.int 0] ++ fc v ++ [xl N x, .sl Y, .sl []])
 | none (Y : List (List IV)) : (∀ x, ¬ Sol N ws x) -> Says N ws goal ([.int 1] ++ zc ++ [.sl [], .sl Y, .sl []])
 | free (x : Nat -> Rat) (Z : List (List IV)) : NoMin N ws goal -> Sol N ws x -> Says N ws goal ([.int 2] ++ zc ++ [xl N x, .sl [], .sl Z])
theorem FL_tsum {goal : List (Nat × Rat)} {x : Nat -> Rat} (hl : goal.length <= 18) (hf : ∀ t ∈ goal, FL 100000000 t.2) (hx : ∀ k, FL 100000000 (x k)) : FL 4000000000 (tsum goal x) := by
 rw [<- jmh]; refine (jm9 hf (fun t _ => hx t.1) goal.length).mono ?_; have : goal.length * (100000000 + 100000000 + 1) <= 18 * (100000000 + 100000000 + 1) := Nat.mul_le_mul_right _ hl; omega
theorem LeastR.ex (hs : SysOk N ws) : ∃ o, LeastR N ws goal o := by
 have hmk := LP.mk_first (goal := goal) hs.ok; have hmk0 := LP.mk_first (goal := []) hs.ok; obtain ⟨T, E, a, b, hR, hF⟩ := LP.ends hmk.ok (K := N + (first N ws goal).m) fun k hk => (LP.own_lt hmk k).1 hk; cases hF with
 | best h1 h2 => exact ⟨_, .found E T hR (.best h1 h2)⟩
 | none r h1 h2 h3 h4 h5 => exact ⟨_, .none E T r hR (.none r h1 h2 h3 h4 h5)⟩
 | free s h1 h2 h3 h4 h5 =>
  obtain ⟨T', E', a', b', hR', hF'⟩ := LP.ends hmk0.ok (K := N + (first N ws []).m) fun k hk => (LP.own_lt hmk0 k).1 hk; cases hF' with
  | best g1 g2 => exact ⟨_, .free E E' T T' s hR (.free s h1 h2 h3 h4 h5) hR' (.best g1 g2)⟩
  | none r g1 g2 g3 g4 g5 => exact ⟨_, .none2 E E' T T' s r hR (.free s h1 h2 h3 h4 h5) hR' (.none r g1 g2 g3 g4 g5)⟩
  | free s' g1 g2 =>
   have hE' := EndsAt.of hs hR'; rw [LP.final_nil hs.ok hE'.ok hE'.eqv g1] at g2; exact absurd g2 (by decide)
theorem LeastR.says (hs : SysOk N ws) (hg : GoalOk N goal) {o : List IV} (h : LeastR N ws goal o) : Says N ws goal o := by
 cases h with
 | found E T hR hF =>
  have hE := EndsAt.of hs hR; obtain ⟨h1, h2⟩ := hF.inv_best rfl rfl; obtain ⟨h3, h4⟩ := LP.final_best hs.ok hg.rt hE.ok hE.eqv hE.same h1 h2; have hl := hg.len; have hn := hs.n; exact .found _ E.pt _ (FL_tsum (by omega) hg.fl fun k => FL_pt (hs.smD hg E hE.ok hE.eqv hE.same) k) ⟨⟨_, h3, rfl⟩, h4⟩ h3 rfl
 | none E T r hR hF =>
  have hE := EndsAt.of hs hR; obtain ⟨h1, h2, h3⟩ := hF.inv_none rfl; exact .none _ (LP.final_none hs.ok hE.eqv hE.same h1 h2 h3)
 | none2 E E' T T' s r hR hF hR' hF' =>
  have hE := EndsAt.of hs hR'; obtain ⟨h1, h2, h3⟩ := hF'.inv_none rfl; exact .none _ (LP.final_none hs.ok hE.eqv hE.same h1 h2 h3)
 | free E E' T T' s hR hF hR' hF' =>
  have hE := EndsAt.of hs hR; have hE' := EndsAt.of hs hR'; obtain ⟨h1, h2, h3⟩ := hF.inv_free rfl; obtain ⟨g1, g2⟩ := hF'.inv_best rfl rfl; obtain ⟨h4, _⟩ := LP.final_best hs.ok (show RT [] 0 N from trivial) hE'.ok hE'.eqv hE'.same g1 g2; exact .free E'.pt _ ⟨⟨_, h4⟩, LP.final_free hs.ok hg.rt hE.ok hE.eqv hE.same h1 h2 h3 h4⟩ h4
theorem jfn (hs : SysOk N ws) (hg : GoalOk N goal) : Says N ws goal (jhg N ws goal) := by
 obtain ⟨o, ho⟩ := LeastR.ex (goal := goal) hs; rw [<- jn1 ho]; exact ho.says hs hg
end
end
section
open Go.Abs
open Go.LP (Dic Rw RT Ov OvRw tsum Sol IsMin NoMin)
attribute [local go_sem] ints ic big frac fc zc
set_option maxHeartbeats 1000000 in
theorem x_negz : Ctr G.P 82 [.agg zc] (· = .agg zc) := by
 have k1 := jh8 0 0 [] [] (by decide) (by decide); have e : fracF 0 [] 0 [] = false := by decide +kernel
 rw [e] at k1; simp only [ints, List.map_nil] at k1; unfold zc; refine jac good _ _ [.cell 2 42] Tryz.func82 rfl rfl (by decide +kernel) rfl ?_; simp only [go_sem]; refine ja1 k1 (by decide) ?_; simp only [go_sem]
section
variable {N : Nat} {ws : List Rw} {goal : List (Nat × Rat)}
theorem RT_wide {M : Nat} : ∀ {ts : List (Nat × Rat)} {lo N : Nat}, RT ts lo N -> N <= M -> RT ts lo M
 | [], _, _, _, _ => trivial
 | t :: ts, lo, N, h, hm => ⟨h.1, Nat.lt_of_lt_of_le h.2.1 hm, h.2.2.1, RT_wide h.2.2.2 hm⟩
theorem RT_mulT {f : Rat} (h0 : f ≠ 0) : ∀ {ts : List (Nat × Rat)} {lo N : Nat}, RT ts lo N -> RT (mulT f ts) lo N
 | [], _, _, _ => trivial
 | t :: ts, lo, N, h => ⟨h.1, h.2.1, (fun e => by rcases Rat.mul_eq_zero.1 e with e | e; exact h.2.2.1 e; exact h0 e), RT_mulT h0 h.2.2.2⟩
theorem GoalOk.opp (h : GoalOk N goal) : GoalOk N (mulT ((-1 : Int) : Rat) goal) := by
 refine ⟨RT_mulT (by decide) h.rt, fun t ht => ?_⟩; obtain ⟨u, hu, rfl⟩ := List.mem_map.1 ht; obtain ⟨z, h1, h2⟩ := h.ov u hu; refine ⟨-z, ?_, by rw [Int.natAbs_neg]; exact h2⟩; dsimp only; have e : ((-1 : Int) : Rat) = -1 := by decide
 have e2 : ((-z : Int) : Rat) = -(z : Rat) := Rat.intCast_neg z; rw [e, e2, <- h1]; grind
theorem jh6 {f : Rat} {x : Nat -> Rat} : ∀ {ts : List (Nat × Rat)}, tsum (mulT f ts) x = f * tsum ts x
 | [] => by show (0 : Rat) = f * 0; grind
 | t :: ts => by
  show t.2 * f * x t.1 + tsum (mulT f ts) x = f * (t.2 * x t.1 + tsum ts x); rw [jh6]; grind
theorem Says.shape {o : List IV} (h : Says N ws goal o) : ∃ (k a c : Int) (b d P Y Z : List (List IV)), o = [.int k, .int a, .sl b, .int c, .sl d, .sl P, .sl Y, .sl Z] /\ (isNone o = decide (k = 1)) := by
 cases h with
 | found v x Y => exact ⟨0, _, _, _, _, _, _, _, rfl, rfl⟩
 | none Y => exact ⟨1, _, _, _, _, _, _, _, rfl, rfl⟩
 | free x Z => exact ⟨2, _, _, _, _, _, _, _, rfl, rfl⟩
def zo : List IV := [.int 0] ++ zc ++ [.sl [], .sl [], .sl []]
noncomputable def spanR (N : Nat) (ws : List Rw) (goal : List (Nat × Rat)) : IV :=
 if isNone (jhg N ws goal) = true then .tup [.agg (zo ++ zo), .int 15] else .tup [.agg (jhg N ws goal ++ jhg N ws (mulT ((-1 : Int) : Rat) goal)), .int 0]
set_option maxHeartbeats 2000000 in
theorem x_Of (hs : SysOk N ws) (hg : GoalOk N goal) : Ctr G.P 27 [.agg [.int N, .sl (ws.map rwC)], .sl (goal.map tmC)] (· = spanR N ws goal) := by
 have hn := hs.n; have hl := hg.len; have k1 := jo9 hs hg; have k2 := x_opp goal (RT_wide hg.rt (by omega)) (by omega) hg.fl; have k3 := jo9 hs hg.opp; obtain ⟨k, a, c, b, d, P, Y, Z, e1, e2⟩ := (jfn hs hg).shape; obtain ⟨k', a', c', b', d', P', Y', Z', e3, e4⟩ := (jfn hs hg.opp).shape; unfold spanR; rw [e2]; rw [e1] at k1 ⊢; rw [e3] at k3 ⊢; generalize (mulT ((-1 : Int) : Rat) goal).map tmC = og at *; by_cases hk : k = 1
 ·have hd : decide (k = 1) = true := decide_eq_true hk; rw [hd, if_pos rfl]; unfold zo; refine jac good _ _ [.cell 4 47, .tmp 5] Tryz.func27 rfl rfl (by decide +kernel) rfl ?_; simp only [go_sem]; refine ja1 k1 (by decide) ?_; simp only [hd, go_sem]
 ·have hd : decide (k = 1) = false := decide_eq_false hk; rw [hd, if_neg (by decide)]; refine jac good _ _ [.cell 4 47, .tmp 5] Tryz.func27 rfl rfl (by decide +kernel) rfl ?_; simp only [go_sem]; refine ja1 k1 (by decide) ?_; simp only [hd, go_sem]; refine jay (by decide +kernel) ?_; simp only [hd, go_sem]; refine ja4 k2 (by decide) ?_; simp only [hd, go_sem]; refine ja4 k3 (by decide) ?_; simp only [hd, go_sem]
end
set_option maxHeartbeats 2000000 in
theorem jh5 (k1 k2 a1 c1 a2 c2 a3 c3 : Int) (l1 m1 l2 m2 l3 m3 : List Int) (P1 Y1 Z1 P2 Y2 Z2 : List (List IV)) (hf : Ctr G.P 81 [.agg [.int a1, ints l1, .int c1, ints m1]] (· = .agg [.int a1, ints l1, .int c1, ints m1])) (hN : Ctr G.P 82 [.agg [.int a2, ints l2, .int c2, ints m2]] (· = .agg [.int a3, ints l3, .int c3, ints m3])) :
  Ctr G.P 28 [.agg [.int k1, .int a1, ints l1, .int c1, ints m1, .sl P1, .sl Y1, .sl Z1, .int k2, .int a2, ints l2, .int c2, ints m2, .sl P2, .sl Y2, .sl Z2]]
   (· = .agg ((if k1 = 0 then [.int a1, ints l1, .int c1, ints m1] else zc) ++ (if k2 = 0 then [.int a3, ints l3, .int c3, ints m3] else zc) ++ [.bool (decide (k1 = 0)), .bool (decide (k2 = 0))])) := by
 unfold ints at *; generalize l1.map ic = l1' at *; generalize m1.map ic = m1' at *; generalize l2.map ic = l2' at *; generalize m2.map ic = m2' at *; generalize l3.map ic = l3' at *; generalize m3.map ic = m3' at *; by_cases h1 : k1 = 0 <;> by_cases h2 : k2 = 0
 ·subst h1 h2; refine jac good _ _ [.cell 2 51] Tryz.func28 rfl rfl (by decide +kernel) rfl ?_; simp only [go_sem]; refine ja1 hf (by decide) ?_; simp only [go_sem]; refine ja1 hN (by decide) ?_; simp only [go_sem]
 ·subst h1; have d2 : decide (k2 = 0) = false := decide_eq_false h2; rw [if_pos rfl, if_neg h2, d2]; refine jac good _ _ [.cell 2 51] Tryz.func28 rfl rfl (by decide +kernel) rfl ?_; simp only [go_sem]; refine ja1 hf (by decide) ?_; simp only [d2, go_sem]
  try rfl
 ·subst h2; have d1 : decide (k1 = 0) = false := decide_eq_false h1; rw [if_pos rfl, if_neg h1, d1]; refine jac good _ _ [.cell 2 51] Tryz.func28 rfl rfl (by decide +kernel) rfl ?_; simp only [d1, go_sem]; refine ja1 hN (by decide) ?_; simp only [d1, go_sem]
  try rfl
 ·have d1 : decide (k1 = 0) = false := decide_eq_false h1; have d2 : decide (k2 = 0) = false := decide_eq_false h2; rw [if_neg h1, if_neg h2, d1, d2]; refine jac good _ _ [.cell 2 51] Tryz.func28 rfl rfl (by decide +kernel) rfl ?_; simp only [d1, d2, go_sem]
  try rfl
end
section
open Go.Abs
open Go.LP (Dic Rw RT Ov OvRw tsum Sol IsMin NoMin)
attribute [local go_sem] ints ic big frac fc zc
set_option maxHeartbeats 1000000 in
theorem jnm (a c : Int) (l m : List Int) (hl' : l.length <= 100000000000) (hm' : m.length <= 100000000000) : Ctr G.P 81 [.agg [.int a, ints l, .int c, ints m]] (· = .agg [.int a, ints l, .int c, ints m]) := by
 unfold ints; have hl : ∀ c ∈ l.map ic, c.length = 1 := fun c hc => by obtain ⟨z, _, rfl⟩ := List.mem_map.1 hc; rfl
 have hm : ∀ c ∈ m.map ic, c.length = 1 := fun c hc => by obtain ⟨z, _, rfl⟩ := List.mem_map.1 hc; rfl
 have hl2 : (l.map ic).length * 8 <= 140737488355328 := by rw [List.length_map]; omega
 have hm2 : (m.map ic).length * 8 <= 140737488355328 := by rw [List.length_map]; omega
 generalize l.map ic = l' at *; generalize m.map ic = m' at *; refine jac good _ _ [.cell 2 42] Tryz.func81 rfl rfl (by decide +kernel) rfl ?_; simp only [go_sem]; refine jau 17 (by decide +kernel) ?_; simp only [hl2, hm2, go_sem]
 all_goals exact ⟨hl, hm⟩
section
variable {N : Nat} {ws : List Rw} {goal : List (Nat × Rat)}
def sideC (b : Option Rat) : List IV := match b with
 | some v => fc v
 | none => zc
theorem x_bnd (b1 b2 : Option Rat) (k1 k2 : Int) (P1 Y1 Z1 P2 Y2 Z2 : List (List IV)) (e1 : decide (k1 = 0) = b1.isSome) (e2 : decide (k2 = 0) = b2.isSome) (f1 : ∀ v, b1 = some v -> FL 4000000000 v) (f2 : ∀ v, b2 = some v -> FL 4000000000 v) :
  Ctr G.P 28 [.agg (([.int k1] ++ sideC b1 ++ [.sl P1, .sl Y1, .sl Z1]) ++ ([.int k2] ++ sideC b2 ++ [.sl P2, .sl Y2, .sl Z2]))] (· = .agg (sideC b1 ++ sideC (b2.map fun v => -v) ++ [.bool b1.isSome, .bool b2.isSome])) := by
 have hz : Ctr G.P 82 [.agg [.int 0, ints [], .int 0, ints []]] (· = .agg [.int 0, ints [], .int 0, ints []]) := x_negz; have hz1 : Ctr G.P 81 [.agg [.int 0, ints [], .int 0, ints []]] (· = .agg [.int 0, ints [], .int 0, ints []]) := jnm 0 0 [] [] (by simp) (by simp); cases b1 with
 | none =>
  have d1 : ¬ k1 = 0 := of_decide_eq_false e1; cases b2 with
  | none =>
   have d2 : ¬ k2 = 0 := of_decide_eq_false e2; have h := jh5 k1 k2 0 0 0 0 0 0 [] [] [] [] [] [] P1 Y1 Z1 P2 Y2 Z2 hz1 hz; rw [if_neg d1, if_neg d2, e1, e2] at h; exact h
  | some v =>
   have d2 : k2 = 0 := of_decide_eq_true e2; have hN := f_neg ((f2 v rfl).mono (by omega : 4000000000 <= 19000000000)); have h := jh5 k1 k2 0 0 _ _ _ _ [] [] _ _ _ _ P1 Y1 Z1 P2 Y2 Z2 hz1 hN; rw [if_neg d1, if_pos d2, e1, e2] at h; exact h
 | some u =>
  have d1 : k1 = 0 := of_decide_eq_true e1; have hu := f1 u rfl; have hf := jnm u.num.sign (u.den : Int).sign (dig u.num.natAbs) (dig (u.den : Int).natAbs) (by have := hu.1; omega) (by have := hu.2; rw [Int.natAbs_natCast]; omega); cases b2 with
  | none =>
   have d2 : ¬ k2 = 0 := of_decide_eq_false e2; have h := jh5 k1 k2 _ _ 0 0 0 0 _ _ [] [] [] [] P1 Y1 Z1 P2 Y2 Z2 hf hz; rw [if_pos d1, if_neg d2, e1, e2] at h; exact h
  | some v =>
   have d2 : k2 = 0 := of_decide_eq_true e2; have hN := f_neg ((f2 v rfl).mono (by omega : 4000000000 <= 19000000000)); have h := jh5 k1 k2 _ _ _ _ _ _ _ _ _ _ _ _ P1 Y1 Z1 P2 Y2 Z2 hf hN; rw [if_pos d1, if_pos d2, e1, e2] at h; exact h
end
end
end Go.Proofs.YtfahloobpegieaaGreat
namespace Go.LW
section
theorem perm_map_inv {α β : Type} {f : α -> β} {m n : List β} (h : m.Perm n) : ∀ {l : List α}, n = l.map f -> ∃ l' : List α, l'.Perm l /\ m = l'.map f := by
 induction h with
 | nil => intro l hl; exact ⟨l, List.Perm.refl _, hl⟩
 | cons x _ ih =>
  intro l hl; cases l with
  | nil => cases hl
  | cons a l =>
   rw [List.map_cons] at hl; injection hl with h1 h2; obtain ⟨l', g1, g2⟩ := ih h2; exact ⟨a :: l', g1.cons a, by rw [List.map_cons, <- h1, <- g2]⟩
 | swap x y t =>
  intro l hl
  match l, hl with
  | a :: c :: l, hl =>
   rw [List.map_cons, List.map_cons] at hl; injection hl with h1 h2; injection h2 with h2 h3; exact ⟨c :: a :: l, List.Perm.swap _ _ _, by rw [List.map_cons, List.map_cons, <- h1, <- h2, <- h3]⟩
 | trans _ _ ih1 ih2 =>
  intro l hl; obtain ⟨l2, g1, g2⟩ := ih2 hl; obtain ⟨l1, g3, g4⟩ := ih1 g2; exact ⟨l1, g3.trans g1, g4⟩
theorem jj6 : ∀ {l m : List Nat}, l.Perm m -> l.Pairwise (· <= ·) -> m.Pairwise (· <= ·) -> l = m
 | [], m, h, _, _ => (List.Perm.nil_eq h)
 | a :: l, [], h, _, _ => absurd h.length_eq (by simp)
 | a :: l, b :: m, h, h1, h2 => by
  rw [List.pairwise_cons] at h1 h2; have ha : a ∈ b :: m := h.mem_iff.1 (List.mem_cons_self ..); have hb : b ∈ a :: l := h.mem_iff.2 (List.mem_cons_self ..); have e : a = b := by
   rcases List.mem_cons.1 ha with e | ha
   ·exact e
   ·rcases List.mem_cons.1 hb with e | hb
    ·exact e.symm
    ·exact Nat.le_antisymm (h1.1 b hb) (h2.1 a ha)
  subst e; rw [jj6 ((List.perm_cons a).1 h) h1.2 h2.2]
def ins (a : Nat) : List Nat -> List Nat
 | [] => [a]
 | b :: l => if a <= b then a :: b :: l else b :: ins a l
def isort : List Nat -> List Nat
 | [] => []
 | a :: l => ins a (isort l)
theorem jls (a : Nat) : ∀ l : List Nat, (ins a l).Perm (a :: l)
 | [] => List.Perm.refl _
 | b :: l => by
  unfold ins; split
  ·exact List.Perm.refl _
  ·exact ((jls a l).cons b).trans (List.Perm.swap _ _ _)
theorem isort_perm : ∀ l : List Nat, (isort l).Perm l
 | [] => List.Perm.refl _
 | a :: l => (jls a _).trans ((isort_perm l).cons a)
theorem jkr (a : Nat) : ∀ {l : List Nat}, l.Pairwise (· <= ·) -> (ins a l).Pairwise (· <= ·)
 | [], _ => by simp [ins]
 | b :: l, h => by
  have h0 := List.pairwise_cons.1 h; unfold ins; split
  ·rename_i hab; refine List.pairwise_cons.2 ⟨fun c hc => ?_, h⟩; rcases List.mem_cons.1 hc with rfl | hc
   ·exact hab
   ·exact Nat.le_trans hab (h0.1 c hc)
  ·rename_i hab; refine List.pairwise_cons.2 ⟨fun c hc => ?_, jkr a h0.2⟩; rcases List.mem_cons.1 ((jls a l).mem_iff.1 hc) with rfl | hc
   ·omega
   ·exact h0.1 c hc
theorem isort_sorted : ∀ l : List Nat, (isort l).Pairwise (· <= ·)
 | [] => List.Pairwise.nil
 | a :: l => jkr a (isort_sorted l)
theorem isort_of {l m : List Nat} (hp : m.Perm l) (hs : m.Pairwise (· <= ·)) : m = isort l := jj6 (hp.trans (isort_perm l).symm) hs (isort_sorted l)
def noDup : List Nat -> Bool
 | a :: b :: l => !decide (a = b) && noDup (b :: l)
 | _ => true
theorem noDup_lt : ∀ {l : List Nat}, l.Pairwise (· <= ·) -> noDup l = true -> l.Pairwise (· < ·)
 | [], _, _ => List.Pairwise.nil
 | [a], _, _ => by simp
 | a :: b :: l, h, hn => by
  have h0 := List.pairwise_cons.1 h; rw [noDup, Bool.and_eq_true] at hn; have ih := noDup_lt h0.2 hn.2; have hab : a ≠ b := by simpa using hn.1
  have hle := h0.1 b (List.mem_cons_self ..); refine List.pairwise_cons.2 ⟨fun c hc => ?_, ih⟩; rcases List.mem_cons.1 hc with rfl | hc
  ·omega
  ·have := (List.pairwise_cons.1 ih).1 c hc; omega
theorem noDup_at : ∀ {l : List Nat}, noDup l = true ↔ ∀ (i : Nat) (a b : Nat), l[i]? = some a -> l[i + 1]? = some b -> a ≠ b
 | [] => by simp [noDup]
 | [a] => by simp [noDup]
 | a :: b :: l => by
  rw [noDup, Bool.and_eq_true, noDup_at (l := b :: l)]; constructor
  ·rintro ⟨h1, h2⟩ i x y hx hy; cases i with
   | zero => simp at hx hy h1; subst hx hy; exact h1
   | succ i => exact h2 i x y (by simpa using hx) (by simpa using hy)
  ·intro h; exact ⟨by simpa using h 0 a b rfl rfl, fun i x y hx hy => h (i + 1) x y (by simpa using hx) (by simpa using hy)⟩
end
end Go.LW
namespace Go.LP
section
open Go.LW (isort isort_perm noDup noDup_lt isort_sorted)
theorem noDup_iff {l : List Nat} : noDup (isort l) = true ↔ l.Nodup := by
 constructor
 ·intro h; have h1 := noDup_lt (isort_sorted l) h; have h2 : (isort l).Nodup := h1.imp fun hab => Nat.ne_of_lt hab; exact (isort_perm l).nodup_iff.1 h2
 ·intro h; have h2 : (isort l).Nodup := (isort_perm l).nodup_iff.2 h; refine Go.LW.noDup_at.2 fun i a b ha hb hab => ?_; subst hab; obtain ⟨hi, e1⟩ := List.getElem?_eq_some_iff.1 ha; obtain ⟨hj, e2⟩ := List.getElem?_eq_some_iff.1 hb; have := List.pairwise_iff_getElem.1 h2 i (i + 1) hi hj (Nat.lt_succ_self _); exact this (e1.trans e2.symm)
def ksum : List Nat -> (Nat -> Rat) -> Rat
 | [], _ => 0
 | k :: l, x => x k + ksum l x
theorem ksum_perm {l m : List Nat} (h : l.Perm m) (x : Nat -> Rat) : ksum l x = ksum m x := by
 induction h with
 | nil => rfl
 | cons a _ ih => simp only [ksum, ih]
 | swap a b l => simp only [ksum]; grind
 | trans _ _ h1 h2 => exact h1.trans h2
theorem jlq : ∀ (l m : List Nat) (x : Nat -> Rat), ksum (l ++ m) x = ksum l x + ksum m x
 | [], m, x => by simp only [List.nil_append, ksum]; grind
 | a :: l, m, x => by rw [List.cons_append, ksum, jlq l m x, ksum]; grind
theorem jfo {N : Nat} {x : Nat -> Rat} (hx : ∀ k, k < N -> 0 <= x k) : ∀ {l : List Nat}, (∀ k ∈ l, k < N) -> 0 <= ksum l x
 | [], _ => by simp only [ksum]; grind
 | a :: l, h => by
  have h1 := hx a (h a (List.mem_cons_self ..)); have h2 := jfo hx (l := l) fun k hk => h k (List.mem_cons_of_mem _ hk); rw [ksum]; grind
def ones (l : List Nat) : List (Nat × Rat) := l.map fun k => (k, 1)
theorem jj1 : ∀ (l : List Nat) (x : Nat -> Rat), tsum (ones l) x = ksum l x
 | [], x => rfl
 | a :: l, x => by
  show 1 * x a + tsum (ones l) x = x a + ksum l x; rw [jj1 l x]; grind
theorem RT_ones : ∀ {l : List Nat} {lo N : Nat}, l.Pairwise (· < ·) -> (∀ k ∈ l, lo <= k /\ k < N) -> RT (ones l) lo N
 | [], _, _, _, _ => trivial
 | a :: l, lo, N, hp, h => by
  have h0 := List.pairwise_cons.1 hp; have ha := h a (List.mem_cons_self ..); exact ⟨ha.1, ha.2, show (1 : Rat) ≠ 0 by decide, RT_ones h0.2 fun k hk => ⟨h0.1 k hk, (h k (List.mem_cons_of_mem _ hk)).2⟩⟩
structure Bds (N : Nat) (ws : List Rw) (f : (Nat -> Rat) -> Rat) (lo : Rat) (hi : Option Rat) : Prop where
 low_at : ∃ x, Sol N ws x /\ f x = lo
 low : ∀ x, Sol N ws x -> lo <= f x
 high_at : ∀ w, hi = some w -> ∃ x, Sol N ws x /\ f x = w
 high : ∀ w, hi = some w -> ∀ x, Sol N ws x -> f x <= w
 wide : hi = none -> ∀ c : Rat, ∃ x, Sol N ws x /\ c < f x
section
variable {N : Nat} {ws ws' : List Rw} {f g : (Nat -> Rat) -> Rat} {lo lo' lo2 : Rat} {hi hi' hi2 : Option Rat}
theorem Bds.sol (h : Bds N ws f lo hi) : ∃ x, Sol N ws x := h.low_at.imp fun _ h => h.1
theorem Bds.sub (h : Bds N ws f lo hi) (h' : Bds N ws' f lo' hi') (hs : ∀ w ∈ ws, w ∈ ws') : lo <= lo' /\ ∀ w, hi = some w -> ∃ w', hi' = some w' /\ w' <= w := by
 constructor
 ·obtain ⟨x, hx, rfl⟩ := h'.low_at; exact h.low x (hx.sub hs)
 ·intro w hw; cases hh : hi' with
  | none =>
   obtain ⟨x, hx, hlt⟩ := h'.wide hh w; have := h.high w hw x (hx.sub hs); grind
  | some w' =>
   obtain ⟨x, hx, rfl⟩ := h'.high_at w' hh; exact ⟨_, rfl, h.high w hw x (hx.sub hs)⟩
theorem Bds.add (h : Bds N ws f lo hi) (h' : Bds N ws g lo' hi') (h2 : Bds N ws (fun x => f x + g x) lo2 hi2) : lo + lo' <= lo2 /\ ∀ w w', hi = some w -> hi' = some w' -> ∃ u, hi2 = some u /\ u <= w + w' := by
 constructor
 ·obtain ⟨x, hx, rfl⟩ := h2.low_at; have a := h.low x hx; have b := h'.low x hx; grind
 ·intro w w' e e'; cases hh : hi2 with
  | none =>
   obtain ⟨x, hx, hl⟩ := h2.wide hh (w + w'); have a := h.high w e x hx; have b := h'.high w' e' x hx; grind
  | some u =>
   obtain ⟨x, hx, rfl⟩ := h2.high_at u hh; have a := h.high w e x hx; have b := h'.high w' e' x hx; exact ⟨_, rfl, by grind⟩
theorem Bds.mono (h : Bds N ws f lo hi) (h2 : Bds N ws g lo2 hi2) (hle : ∀ x, Sol N ws x -> f x <= g x) : lo <= lo2 := by
 obtain ⟨x, hx, rfl⟩ := h2.low_at; have a := h.low x hx; have b := hle x hx; grind
theorem Bds.congr (h : Bds N ws f lo hi) (he : ∀ x, f x = g x) : Bds N ws g lo hi := by
 have : f = g := funext he; rw [<- this]; exact h
theorem Bds.zero (h : Bds N ws f lo hi) (he : ∀ x, f x = 0) : lo = 0 := by
 obtain ⟨x, hx, rfl⟩ := h.low_at; exact he x
end
end
end Go.LP
namespace Go.Proofs.YtfahloobpegieaaGreat
section
open Go.Abs
open Go.LP (Rw RT)
attribute [local go_sem] Evid.c Evid.iv ints ic big frac
def pickC (p : Int × Int) : List IV := [.int p.1, .int p.2]
def je5 (e : Evid) (p : Int × Int) : Bool := decide (0 <= p.1) && (decide (p.1 < e.moves.length) && (decide (0 <= p.2) && decide (p.2 < e.mats)))
def pickK (M : Nat) (p : Int × Int) : Nat := p.1.toNat * M + p.2.toNat
def okP (e : Evid) (ps : List (Int × Int)) : Bool := decide (jcq e = 0) && (ps.all (je5 e) && Go.LW.noDup (Go.LW.isort (ps.map (pickK e.mats.toNat))))
def goalS (M : Nat) (ps : List (Int × Int)) : List (Nat × Rat) := Go.LP.ones (Go.LW.isort (ps.map (pickK M)))
def jev (e : Evid) (ps : List (Int × Int)) : IV := if okP e ps = true then .tup [.sl ((goalS e.mats.toNat ps).map tmC), .bool true] else .tup [.sl [], .bool false]
theorem jiv {e : Evid} {ps : List (Int × Int)} {i : Nat} {p : Int × Int} (hx : ps[i]? = some p) (h : je5 e p = false) : jev e ps = .tup [.sl [], .bool false] := by
 have : okP e ps = false := by
  unfold okP; have : ps.all (je5 e) = false := by
   rcases ha : ps.all (je5 e) with _ | _
   ·rfl
   ·rw [List.all_eq_true.1 ha p (List.mem_of_getElem? hx)] at h; cases h
  rw [this]; simp
 unfold jev; rw [this]; rfl
def goalT (M : Nat) (ps : List (Int × Int)) : List (Nat × Rat) := ps.map fun p => (pickK M p, ((1 : Int) : Rat))
section
variable {e : Evid} {M : Nat} {ps : List (Int × Int)}
set_option maxHeartbeats 8000000 in
theorem w_goal0 (hc : jcq e ≠ 0) : Ctr G.P 77 [e.iv, .sl (ps.map pickC)] (· = .tup [.sl [], .bool false]) := by
 have hck := c21 e; generalize jcq e = k at *; have hk : decide (k = 0) = false := decide_eq_false hc; refine jac good _ _ [.tmp 4, .tmp 5] Tryz.func77 rfl rfl (by decide +kernel) rfl ?_; simp only [go_sem]; refine ja1 hck (by decide) ?_; simp only [hk, go_sem]
theorem keys_T {M : Nat} {ps : List (Int × Int)} {es' : List (List IV)} (hp : es'.Perm ((goalT M ps).map tmC)) (hs : ∀ (i j : Nat) x y, i < j -> es'[i]? = some x -> es'[j]? = some y -> keyC x <= keyC y) : es' = (goalS M ps).map tmC := by
 have e1 : (goalT M ps).map tmC = (ps.map (pickK M)).map (fun k => tmC (k, ((1 : Int) : Rat))) := by
  unfold goalT; rw [List.map_map, List.map_map]; rfl
 obtain ⟨ks, h1, h2⟩ := Go.LW.perm_map_inv hp e1; subst h2; have e3 : ks = Go.LW.isort (ps.map (pickK M)) := by
  refine Go.LW.isort_of h1 ?_; rw [List.pairwise_iff_getElem]; intro i j hi hj hij; have := hs i j _ _ hij (by rw [List.getElem?_map, List.getElem?_eq_getElem hi]; rfl) (by rw [List.getElem?_map, List.getElem?_eq_getElem hj]; rfl); simp only [tmC, keyC] at this; omega
 rw [e3, goalS, Go.LP.ones, List.map_map]; rfl
set_option maxHeartbeats 8000000 in
theorem w_goal1 (hc : jcq e = 0) (hM : e.mats = (M : Int)) (hl : ps.length <= 10000) : CtrH G.P 77 [.im e.iv, .im (.sl (ps.map pickC))] [] (fun r L' => ∃ (y : IV) (bs : List Nat), r = .im y /\ frzL bs y L' = jev e ps) := by
 have hck := c21 e; rw [hc] at hck; have hMe : e.mats.toNat = M := by omega
 obtain ⟨hfit, hm1, _⟩ := jcw hc; obtain ⟨l1, l2, l3, l4, l5, l6, l7, l8⟩ := jlv hfit; refine jb7 (goodH [54] []) _ _ [.tmp 4, .tmp 5] Tryz.func77 rfl rfl (by decide +kernel) rfl ?_; simp only [go_sem]; refine ja1 hck (by decide) ?_; simp only [List.length_map, go_sem]; refine jb4 [2, 6, 13, 14, 15] (fun g : (Nat × Nat) × Abs.Rows => ⟨[(2, .loc 2 8 0 0), (6, sA g.1.2 (goalT M (ps.take g.1.1)).length), (13, .im (.sl (ps.map pickC))), (14, .im (.int ps.length)), (15, .im (.int g.1.1))], (2, 8, [e.c]) :: g.2, []⟩)
  (fun g => g.1.1 <= ps.length /\ blks g.2 /\ NEWT [] g.2 g.1.2 (goalT M (ps.take g.1.1)) /\ ∀ p ∈ ps.take g.1.1, je5 e p = true) (fun g => ps.length - g.1.1) ((0, 0), []) ?_ (SubR.of_eq rfl) rfl ⟨Nat.zero_le _, jby, fun h => absurd rfl h, fun p hp => by cases hp⟩ ?_
 ·have hz := jco (A := 0) (show (goalT M ([] : List (Int × Int))).length = 0 from rfl); simp only [Int.natCast_zero, hz, List.take_zero, go_sem]
 rintro ⟨⟨i, A⟩, R⟩ ⟨hi, hR, hbn, hall⟩; dsimp only at hi hR hbn hall; have F1 := bF hR; have K1 := bK hR; have G1 := bN hR; have hgl : ∀ j, j <= ps.length -> (goalT M (ps.take j)).length = j := fun j hj => by unfold goalT; rw [List.length_map, List.length_take]; omega
 rcases Nat.lt_or_ge i ps.length with hlt | hlt
 ·have hd : decide ((i : Int) < ps.length) = true := decide_eq_true (by omega); have h1 := jaa (n := (i : Int) + 1) (by omega); obtain ⟨⟨a, b⟩, hx⟩ := jdq (l := ps) (i := i) (by omega); have hgx : (ps.map pickC)[i]? = some [.int a, .int b] := by rw [List.getElem?_map, hx]; rfl
  have hs : ∃ x, sA A (goalT M (ps.take i)).length = x /\ (x = .sx [] \/ ∃ n, x = .im (.ref A 132 5 n)) := ⟨_, rfl, by
   by_cases hn : (goalT M (ps.take i)).length = 0
   ·exact .inl (jco hn)
   ·exact .inr ⟨_, jcd hn⟩⟩
  rcases ha : decide (a < 0) with _ | _
  ·rcases ha2 : decide ((e.moves.length : Int) <= a) with _ | _
   ·rcases hb : decide (b < 0) with _ | _
    ·rcases hb2 : decide (e.mats <= b) with _ | _
     ·have kI : Ctr G.P 19 [.int 1] (· = frac ((1 : Int) : Rat)) := jc6 1 (by omega); simp only [frac, ints] at kI; have hap := of_decide_eq_false ha; have hap2 := of_decide_eq_false ha2; have hbp := of_decide_eq_false hb; have hbp2 := of_decide_eq_false hb2; obtain ⟨a', rfl⟩ : ∃ a' : Nat, a = (a' : Int) := ⟨a.toNat, by omega⟩; obtain ⟨b', rfl⟩ : ∃ b' : Nat, b = (b' : Int) := ⟨b.toNat, by omega⟩; have hpr : a' * M <= 200 * 6 := Nat.mul_le_mul (by omega) (by omega); have w1 : IntKind.i64.wrap ((a' : Int) * e.mats) = ((a' * M : Nat) : Int) := by
       rw [hM, <- Int.natCast_mul]; exact jaa (by omega)
      have w2 : IntKind.i64.wrap (((a' * M : Nat) : Int) + b') = ((a' * M + b' : Nat) : Int) := by
       rw [<- Int.natCast_add]; exact jaa (by omega)
      have hgood : je5 e ((a' : Int), (b' : Int)) = true := by
       simp only [je5, Bool.and_eq_true, decide_eq_true_eq]; omega
      have htk : ps.take (i + 1) = ps.take i ++ [((a' : Int), (b' : Int))] := by rw [List.take_succ, hx]; rfl
      have hadd : goalT M (ps.take (i + 1)) = goalT M (ps.take i) ++ [(a' * M + b', ((1 : Int) : Rat))] := by
       rw [htk, goalT, List.map_append]; rfl
      have hall2 : ∀ p ∈ ps.take (i + 1), je5 e p = true := fun p hp => by
       rw [htk] at hp; rcases List.mem_append.1 hp with hp | hp
       ·exact hall p hp
       ·rw [List.mem_singleton.1 hp]; exact hgood
      have hg1 := hgl (i + 1) hlt; have hg0 := hgl i (by omega); by_cases hn : i = 0
      ·have hs0 := jco (A := A) (hg0.trans hn); have hnil : goalT M (ps.take i) = [] := List.eq_nil_of_length_eq_zero (hg0.trans hn); have hs1 := fun X => jcd (A := X) (n := (goalT M (ps.take (i + 1))).length) (by rw [hg1]; omega); rw [hg1] at hs1; simp only [hd, hgx, ha, ha2, hb, hb2, F1, K1, G1, hs0, List.length_map, go_sem]; refine jbz [false, false, false, false, false, false, false, false, false, false, false, false, true] [(8, 2, [[.int a', .int b']]), (2, 8, [e.c])] (by decide +kernel) (jaz _ (jak (ja2 _ _ _))) ?_; simp only [w1, w2, go_sem]; refine ja4 kI (by decide) ?_; simp only [w1, w2, F1, K1, G1, go_sem]; refine And.intro (fun c hc => by rw [List.mem_singleton.1 hc]; rfl) ?_; refine jfx (fun X hX => ?_); have lX : Abs.look R (hp X) = none := by
        rw [ja0 _ _ (hp_ne (by decide)).symm, ja0 _ _ (hp_ne (by decide)).symm] at hX; exact hX
       clear hX; refine And.intro ?_ ?_
       ·refine jam ?_ (jaz _ (jak (ja2 _ _ _))); dsimp only; rw [ja0 _ _ (hp_ne (by decide)).symm, ja0 _ _ (hp_ne (by decide)).symm]; rfl
       simp only [F1, K1, G1, go_sem]; refine jab ((i + 1, X), (hp X, 5, [tmC (a' * M + b', ((1 : Int) : Rat))]) :: R) ?_ ?_ rfl (by show ps.length - (i + 1) < ps.length - i; omega) ⟨hlt, jan hR, ?_, hall2⟩
       ·have hs2 : sA X (i + 1) = .im (.ref X 132 5 1) := by
         rw [show i + 1 = 1 by omega]; exact jcd (by decide)
        simp only [h1, hg1, hs2, Int.natCast_add, go_sem]
       ·dsimp only; refine jb2 ?_ (jaz _ (ja3 (by decide) hR (ja3 (by decide) hR (SubR.refl _)))); rw [ja0 _ _ (hp_ne (by decide)), ja0 _ _ (by decide), ja2]; rfl
       ·dsimp only; rw [hadd]; refine NEWT.app ?_ rfl; rw [ja2, hnil]; rfl
      ·have hs0 := jcd (A := A) (n := (goalT M (ps.take i)).length) (by rw [hg0]; exact hn); obtain ⟨hrA, _⟩ := hbn (by rw [hg0]; exact hn); have htl : ((goalT M (ps.take i)).map tmC).take i = (goalT M (ps.take i)).map tmC := List.take_of_length_le (by rw [List.length_map, hg0]; exact Nat.le_refl _); have hs1 := fun X => jcd (A := X) (n := (goalT M (ps.take (i + 1))).length) (by rw [hg1]; omega); rw [hg1] at hs1; rw [hg0] at hs0; have hml : ((goalT M (ps.take i)).map tmC).length = i := by rw [List.length_map, hg0]
       obtain ⟨Q, hQe⟩ : ∃ Q, Abs.del R (hp A) = Q := ⟨_, rfl⟩; have bQ : blks Q := hQe ▸ jbf hR; have hQf : List.filter (fun p => p.1 != hp A) R = Q := hQe; have F2 := bF bQ; have K2 := bK bQ; have G2 := bN bQ; have b8 : ∀ k, (8 != hp k) = true := fun k => by simp only [bne_iff_ne, ne_eq]; exact hp_ne (by decide)
       have b2 : ∀ k, (2 != hp k) = true := fun k => by simp only [bne_iff_ne, ne_eq]; exact hp_ne (by decide)
       simp only [hd, hgx, ha, ha2, hb, hb2, F1, K1, G1, hg0, hs0, List.length_map, go_sem]; refine jbz [false, false, false, false, false, false, false, false, false, false, false, false, true] [(8, 2, [[.int a', .int b']]), (2, 8, [e.c])] (by decide +kernel) (jaz _ (jak (ja2 _ _ _))) ?_; simp only [w1, w2, go_sem]; refine ja4 kI (by decide) ?_; simp only [w1, w2, hrA, htl, hml, F1, K1, G1, go_sem]; refine And.intro (fun c hc => by rw [List.mem_singleton.1 hc]; rfl) (And.intro (Nat.le_refl _) (And.intro (by omega) ?_)); refine jeh (fun X hX => ?_); have lX : Abs.look Q (hp X) = none := by
        rw [jad (hp_ne (by decide)), jad (hp_ne (by decide)), ja0 _ _ (hp_ne (by decide)).symm, ja0 _ _ (hp_ne (by decide)).symm, hQe] at hX; exact hX
       clear hX; refine And.intro ?_ ?_
       ·rw [jad (hp_ne (by decide)), jad (hp_ne (by decide)), hQe]; refine jam ?_ (jaz _ (jak (ja2 _ _ _))); dsimp only; rw [ja0 _ _ (hp_ne (by decide)).symm, ja0 _ _ (hp_ne (by decide)).symm]; rfl
       simp only [b8, b2, hQf, F2, K2, G2, go_sem]; refine jab ((i + 1, X), (hp X, 5, (goalT M (ps.take i)).map tmC ++ [tmC (a' * M + b', ((1 : Int) : Rat))]) :: Q) ?_ ?_ rfl (by show ps.length - (i + 1) < ps.length - i; omega) ⟨hlt, jan bQ, ?_, hall2⟩
       ·simp only [h1, hg1, hs1, Int.natCast_add, go_sem]
       ·dsimp only; refine jb2 ?_ (jaz _ (ja3 (by decide) bQ (ja3 (by decide) bQ (SubR.refl _)))); rw [ja0 _ _ (hp_ne (by decide)), ja0 _ _ (by decide), ja2]; rfl
       ·dsimp only; rw [hadd]; exact NEWT.app (ja2 _ _ _) rfl
     ·have hb2b : decide (b < e.mats) = false := decide_eq_false (by have := of_decide_eq_true hb2; omega); have hbv := jiv (e := e) hx (by simp only [je5, hb2b, Bool.and_false, Bool.false_and]); obtain ⟨x, hx0, hx1⟩ := hs; rcases hx1 with rfl | ⟨n, rfl⟩
      ·simp only [hd, hgx, ha, ha2, hb, hb2, F1, K1, G1, hx0, List.length_map, go_sem]; refine jba ?_; simp only [go_sem]; exact ⟨_, [], rfl, by rw [hbv]; rfl⟩
      ·simp only [hd, hgx, ha, ha2, hb, hb2, F1, K1, G1, hx0, List.length_map, go_sem]; refine jba ?_; simp only [go_sem]; exact ⟨_, [], rfl, by rw [hbv]; rfl⟩
    ·have hbb : decide (0 <= b) = false := decide_eq_false (by have := of_decide_eq_true hb; omega); have hbv := jiv (e := e) hx (by simp only [je5, hbb, Bool.and_false, Bool.false_and]); obtain ⟨x, hx0, hx1⟩ := hs; rcases hx1 with rfl | ⟨n, rfl⟩
     ·simp only [hd, hgx, ha, ha2, hb, F1, K1, G1, hx0, List.length_map, go_sem]; refine jba ?_; simp only [go_sem]; exact ⟨_, [], rfl, by rw [hbv]; rfl⟩
     ·simp only [hd, hgx, ha, ha2, hb, F1, K1, G1, hx0, List.length_map, go_sem]; refine jba ?_; simp only [go_sem]; exact ⟨_, [], rfl, by rw [hbv]; rfl⟩
   ·have ha2b : decide (a < (e.moves.length : Int)) = false := decide_eq_false (by have := of_decide_eq_true ha2; omega); have hbv := jiv (e := e) hx (by simp only [je5, ha2b, Bool.and_false, Bool.false_and]); obtain ⟨x, hx0, hx1⟩ := hs; rcases hx1 with rfl | ⟨n, rfl⟩
    ·simp only [hd, hgx, ha, ha2, F1, K1, G1, hx0, List.length_map, go_sem]; refine jba ?_; simp only [go_sem]; exact ⟨_, [], rfl, by rw [hbv]; rfl⟩
    ·simp only [hd, hgx, ha, ha2, F1, K1, G1, hx0, List.length_map, go_sem]; refine jba ?_; simp only [go_sem]; exact ⟨_, [], rfl, by rw [hbv]; rfl⟩
  ·have hab : decide (0 <= a) = false := decide_eq_false (by have := of_decide_eq_true ha; omega); have hbv := jiv (e := e) hx (by simp only [je5, hab, Bool.and_false, Bool.false_and]); obtain ⟨x, hx0, hx1⟩ := hs; rcases hx1 with rfl | ⟨n, rfl⟩
   ·simp only [hd, hgx, ha, F1, K1, G1, hx0, List.length_map, go_sem]; refine jba ?_; simp only [go_sem]; exact ⟨_, [], rfl, by rw [hbv]; rfl⟩
   ·simp only [hd, hgx, ha, F1, K1, G1, hx0, List.length_map, go_sem]; refine jba ?_; simp only [go_sem]; exact ⟨_, [], rfl, by rw [hbv]; rfl⟩
 ·have hd : decide ((i : Int) < ps.length) = false := decide_eq_false (by omega); have hil : i = ps.length := by omega
  subst hil; rw [List.take_length] at hall; have hg0 := hgl ps.length (Nat.le_refl _); rw [List.take_length] at hg0 hbn; by_cases hn : ps.length = 0
  ·have hps : ps = [] := List.eq_nil_of_length_eq_zero hn; have hs0 := jco (A := A) (hg0.trans hn); have hokP : jev e ps = .tup [.sl [], .bool true] := by
    subst hps; unfold jev okP goalS; rw [hc]; rfl
   have kS := w_sort0; simp only [hd, hs0, List.take_length, go_sem]; refine ja1 kS (by decide) ?_; simp only [go_sem]; refine jb4 [2, 6, 9] (fun g : Nat => ⟨[(2, .loc 2 8 0 0), (6, .sx []), (9, .im (.int 1))], (2, 8, [e.c]) :: R, []⟩) (fun _ => True) (fun g => g) 0 ?_ (SubR.of_eq rfl) rfl trivial ?_
   ·simp only [hs0, List.take_length, go_sem]
   rintro j _; simp only [go_sem]; refine jba ?_; simp only [go_sem]; exact ⟨_, [], rfl, by rw [hokP]; rfl⟩
  ·have hs0 := jcd (A := A) (n := (goalT M ps).length) (by rw [hg0]; exact hn); rw [hg0] at hs0; obtain ⟨hrA, _⟩ := hbn (by rw [hg0]; exact hn); have hml : ((goalT M ps).map tmC).length = ps.length := by rw [List.length_map, hg0]
   have kS := w_sort hrA (by omega) (fun c hc => by obtain ⟨z, _, rfl⟩ := List.mem_map.1 hc; exact ⟨_, _, rfl⟩); rw [hml] at kS; simp only [hd, hs0, List.take_length, hg0, go_sem]; refine jai kS (by decide) rfl hR (ja3 (by decide) hR (SubR.refl _)) ?_; rintro _ L1 ⟨rfl, es', hperm, hsorted, hL1⟩ _; have hes := keys_T hperm hsorted; obtain ⟨ks, hks⟩ : ∃ ks, Go.LW.isort (ps.map (pickK M)) = ks := ⟨_, rfl⟩; have hkl : ks.length = ps.length := by rw [<- hks, (Go.LW.isort_perm _).length_eq, List.length_map]
   have hgs : (goalS M ps).map tmC = ks.map (fun k => tmC (k, 1)) := by rw [goalS, hks, Go.LP.ones, List.map_map]; rfl
   have lA : Abs.look L1 (hp A) = some (5, ks.map (fun k => tmC (k, 1))) := by rw [hL1, hes, hgs]; exact jbr (by rw [hrA]; rfl)
   have bL1 : blks L1 := hL1 ▸ jb5 hR; clear hL1 hperm hsorted hes hrA hbn; obtain ⟨cs, ct, cb, cd, hfc⟩ : ∃ (s t : Int) (b d : List (List IV)), fc (1 : Rat) = [.int s, .sl b, .int t, .sl d] := ⟨_, _, _, _, rfl⟩; have hTk : ∀ (j x : Nat), ks[j]? = some x -> (ks.map (fun k => tmC (k, 1)))[j]? = some [.int x, .int cs, .sl cb, .int ct, .sl cd] := fun j x h => by
    rw [List.getElem?_map, h, Option.map_some, tmC, hfc]
   have hTl : (ks.map (fun k => tmC (k, 1))).length = ps.length := by rw [List.length_map, hkl]
   generalize ks.map (fun k => tmC (k, 1)) = TT at *; refine ⟨(2, 8, [e.c]) :: L1, jao [_] (jbc hR (by simp)), ?_⟩; have F2 := bF bL1; have K2 := bK bL1; have G2 := bN bL1; have hok : ∀ b, Go.LW.noDup ks = b -> okP e ps = b := fun b hb => by
    unfold okP; rw [hMe, hks, hb, hc, List.all_eq_true.2 hall]; rfl
   simp only [F2, K2, G2, go_sem]; refine jb4 [2, 6, 9] (fun g : Nat => ⟨[(2, .loc 2 8 0 0), (6, .im (.ref A 132 5 ps.length)), (9, .im (.int ((g : Int) + 1)))], (2, 8, [e.c]) :: L1, []⟩)
    (fun g => g < ps.length /\ ∀ (j x y : Nat), j < g -> ks[j]? = some x -> ks[j + 1]? = some y -> x ≠ y) (fun g => ps.length - g) 0 ?_ (SubR.of_eq rfl) rfl ⟨by omega, fun j x y h => by omega⟩ ?_
   ·simp only [Int.natCast_zero, Int.zero_add, go_sem]
   rintro j ⟨hj, hne⟩; rcases Nat.lt_or_ge (j + 1) ps.length with hlt2 | hlt2
   ·have hd2 : decide ((j : Int) + 1 < ps.length) = true := decide_eq_true (by omega); have h0 : IntKind.i64.wrap ((j : Int) + 1 - 1) = (j : Int) := by rw [Int.add_sub_cancel]; exact jaa (by omega)
    have h1 := jaa (n := (j : Int) + 1 + 1) (by omega); obtain ⟨x, hx⟩ : ∃ x, ks[j]? = some x := ⟨_, List.getElem?_eq_getElem (by omega)⟩; obtain ⟨y, hy⟩ : ∃ y, ks[j + 1]? = some y := ⟨_, List.getElem?_eq_getElem (by omega)⟩; have gx := hTk j x hx; have gy := hTk (j + 1) y hy; have hj0 : (0 : Int) <= j := by omega
    have hj1 : (j : Int) < ps.length := by omega
    have hj2 : (0 : Int) <= (j : Int) + 1 := by omega
    have hj3 : (j : Int) + 1 < ps.length := by omega
    have ht : ((j : Int) + 1).toNat = j + 1 := by omega
    rcases hxy : decide ((x : Int) = (y : Int)) with _ | _
    ·simp only [hd2, go_sem]; refine jau 12 (by decide +kernel) ?_; simp only [h0, lA, gx, gy, hxy, hj0, hj1, hj2, hj3, ht, Int.toNat_natCast, F2, K2, G2, go_sem]; refine jab (j + 1) ?_ (SubR.of_eq rfl) rfl (by show ps.length - (j + 1) < ps.length - j; omega) ⟨hlt2, fun k u v hk hu hv => ?_⟩
     ·simp only [h1, Int.natCast_add, go_sem]
     ·rcases Nat.lt_or_ge k j with h | h
      ·exact hne k u v h hu hv
      ·have : k = j := by omega
       subst this; rw [hx] at hu; rw [hy] at hv; cases hu; cases hv; have := of_decide_eq_false hxy; omega
    ·have hbv : jev e ps = .tup [.sl [], .bool false] := by
      have : Go.LW.noDup ks = false := by
       rcases hb : Go.LW.noDup ks with _ | _
       ·rfl
       ·exact absurd (by have := of_decide_eq_true hxy; omega) (Go.LW.noDup_at.1 hb j x y hx hy)
      unfold jev; rw [hok _ this]; rfl
     simp only [hd2, go_sem]; refine jau 12 (by decide +kernel) ?_; simp only [h0, lA, gx, gy, hxy, hj0, hj1, hj2, hj3, ht, Int.toNat_natCast, F2, K2, G2, go_sem]; refine jba ?_; simp only [go_sem]; exact ⟨_, [], rfl, by rw [hbv]; rfl⟩
   ·have hd2 : decide ((j : Int) + 1 < ps.length) = false := decide_eq_false (by omega); have hgv : jev e ps = .tup [.sl TT, .bool true] := by
     have : Go.LW.noDup ks = true := Go.LW.noDup_at.2 fun k u v hu hv => by
      have := (List.getElem?_eq_some_iff.1 hv).1; exact hne k u v (by omega) hu hv
     unfold jev; rw [hok _ this, hMe, hgs]; rfl
    simp only [hd2, go_sem]; refine jba ?_; simp only [go_sem]; refine ⟨_, [A], rfl, ?_⟩; rw [hgv, jdm (s := 5) (by rw [jaf, ja0 _ _ (hp_ne (by decide)).symm]; exact lA), jfr]; have e1 : List.take ps.length TT = TT := List.take_of_length_le (by omega); have e2 : ps.length <= TT.length := by omega
    simp only [frz3, frz2, frz1, List.map_cons, List.map_nil, e1, e2, and_self, if_true]
theorem w_goal (hl : ps.length <= 10000) : Ctr G.P 77 [e.iv, .sl (ps.map pickC)] (· = jev e ps) := by
 by_cases hc : jcq e = 0
 ·obtain ⟨hfit, hm1, _⟩ := jcw hc; obtain ⟨M, hM⟩ : ∃ M : Nat, e.mats = (M : Int) := ⟨e.mats.toNat, by omega⟩; exact jlz (w_goal1 hc hM hl) (fun r L' ⟨y, bs, h1, h2⟩ => ⟨y, bs, h1, h2⟩)
 ·have h := w_goal0 (ps := ps) hc; have e1 : jev e ps = .tup [.sl [], .bool false] := by
   unfold jev okP; rw [decide_eq_false hc]; rfl
  rw [e1]; exact h
end
end
section
open Go.Abs
open Go.LP (Rw RT Ov OvRw tsum)
theorem Ov_int {z : Int} (h : z.natAbs <= 2 ^ 80) : Ov (2 ^ 100) 1000 (z : Rat) :=
 ⟨z * 1000, by rw [Rat.intCast_mul]; rfl, by rw [Int.natAbs_mul]; exact Nat.le_trans (Nat.mul_le_mul_right _ h) (by decide)⟩
theorem Ov_err {c : Cert} {rd day : Int} (h : jdu c day = true) (hr : 0 <= rd /\ rd <= 1099511627776) : ∃ z : Int, errF c rd day * ((1000 : Nat) : Rat) = (z : Rat) /\ z.natAbs <= 2 ^ 80 := by
 obtain ⟨_, _, _, h1, h2, h3, h4⟩ := FL_err h hr; refine ⟨c.perMille * rd + (c.grams + c.drift * (day - c.fr)) * 1000, ?_, ?_⟩
 ·unfold errF; generalize c.grams + c.drift * (day - c.fr) = w0; generalize c.perMille * rd = u0; rw [Rat.divInt_eq_div, Rat.intCast_add, Rat.intCast_mul w0 1000]; generalize (u0 : Rat) = u; generalize (w0 : Rat) = w; have : ((1000 : Int) : Rat) ≠ 0 := by decide
  have e2 : ((1000 : Nat) : Rat) = ((1000 : Int) : Rat) := rfl; rw [e2]; have := Rat.div_mul_cancel (a := u) this; grind
 ·generalize c.perMille * rd = a at *; generalize c.drift * (day - c.fr) = b at *; have : (2 : Nat) ^ 80 = 1208925819614629174706176 := by decide
  omega
theorem Ov_ivl {cs : List Cert} {rs : List Recall} {sc rd day : Int} {a b : Rat} (h : ivlF cs rs sc rd day = some (a, b)) : Ov (2 ^ 100) 1000 a /\ Ov (2 ^ 100) 1000 b := by
 unfold ivlF at h; split at h
 ·cases h
 split at h
 ·cases h
 split at h
 ·cases h
 rename_i c _; split at h
 ·rename_i hv; rw [Bool.and_eq_true] at hv; have hb := btw_iff.1 hv.2; obtain ⟨z, h1, h2⟩ := Ov_err hv.1 hb; injection h with h; injection h with h3 h4; subst h3 h4; have e2 : (2 : Nat) ^ 80 = 1208925819614629174706176 := by decide
  have e3 : (2 : Nat) ^ 100 = 1267650600228229401496703205376 := by decide
  have e4 : ((rd : Int) : Rat) * ((1000 : Nat) : Rat) = ((rd * 1000 : Int) : Rat) := by rw [Rat.intCast_mul]; rfl
  refine ⟨?_, rd * 1000 + z, ?_, ?_⟩
  ·split
   ·exact Go.LP.Ov_zero
   ·refine ⟨rd * 1000 - z, ?_, by omega⟩; rw [Go.LP.cast_sub, <- h1, <- e4]; grind
  ·rw [Rat.intCast_add, <- h1, <- e4]; grind
  ·omega
 ·cases h
theorem jhq {M : Nat} {fr : Int} {mat : Nat} {ms : List Move} : ∀ i, ∀ t ∈ jag M fr mat ms i, Ov (2 ^ 100) 1000 t.2
 | 0 => fun t ht => by cases ht
 | i + 1 => by
  rw [jag]; split
  ·split
   ·exact jhq i
   ·intro t ht; rcases List.mem_append.1 ht with ht | ht
    ·exact jhq i t ht
    ·rw [List.mem_singleton.1 ht]; refine Ov_int ?_; unfold sgnF; split
     ·decide
     ·split <;> decide
  ·exact jhq i
theorem jie {M mv : Nat} {b own more : Int} (hb : -1000 <= b /\ b <= 1000) (hm : -1000 <= more /\ more <= 1000) : ∀ k, ∀ t ∈ sumT M mv b own more k, Ov (2 ^ 100) 1000 t.2
 | 0 => fun t ht => by cases ht
 | k + 1 => by
  rw [sumT]; split
  ·exact jie hb hm k
  ·intro t ht; rcases List.mem_append.1 ht with ht | ht
   ·exact jie hb hm k t ht
   ·rw [List.mem_singleton.1 ht]; refine Ov_int ?_; have e2 : (2 : Nat) ^ 80 = 1208925819614629174706176 := by decide
    unfold coF; split <;> omega
theorem jm7 : Ov (2 ^ 100) 1000 0 := Go.LP.Ov_zero
theorem rows_ov {e : Evid} (hp : ∀ p ∈ e.purs, 0 <= p.least /\ p.least <= 1000 /\ 0 <= p.most /\ p.most <= 1000) (w : Rw) (hw : w ∈ rowsE e) : OvRw (2 ^ 100) 1000 w := by
 obtain ⟨k, x, hk, hx, hw⟩ := mem_rowsU.1 hw; unfold moveR at hw; simp only [List.mem_append] at hw; rcases hw with (hw | hw) | hw
 ·split at hw
  ·cases hw
  ·obtain ⟨mat, h1, rfl⟩ := mem_stockR.1 hw; exact ⟨jm7, jhq _⟩
 ·unfold jel at hw; split at hw
  ·cases hw
  ·split at hw
   ·rename_i lo hi hv; obtain ⟨o1, o2⟩ := Ov_ivl hv; rcases List.mem_cons.1 hw with rfl | hw
    ·exact ⟨o1, jie (by omega) (by omega) _⟩
    ·rcases List.mem_cons.1 hw with rfl | hw
     ·exact ⟨o2, jie (by omega) (by omega) _⟩
     ·cases hw
   ·cases hw
 ·unfold purR at hw; obtain ⟨p, hpm, hw⟩ := List.mem_flatMap.1 hw; have := hp p hpm; unfold pur1 at hw; split at hw
  ·rcases List.mem_cons.1 hw with rfl | hw
   ·exact ⟨jm7, jie (by omega) (by omega) _⟩
   ·rcases List.mem_cons.1 hw with rfl | hw
    ·exact ⟨jm7, jie (by omega) (by omega) _⟩
    ·cases hw
  ·cases hw
end
section
open Go.Abs
open Go.LP (Dic Rw RT Ov OvRw tsum Sol IsMin NoMin Bds ksum ones jfo jj1)
open Go.LW (isort noDup)
attribute [local go_sem] ints ic big frac fc zc
structure SmallE (e : Evid) : Prop where
 mv : e.moves.length <= 9
 mt : e.mats <= 2
 pu : e.purs.length <= 40
def nV (e : Evid) : Nat := e.moves.length * e.mats.toNat
section
variable {e : Evid} {ps : List (Int × Int)}
theorem sys_ok (hc : jcq e = 0) (hs : SmallE e) : SysOk (nV e) (rowsE e) where
 ok := rows_ok
 n := by
  have h1 := hs.mv; have h2 := hs.mt; have : e.moves.length * e.mats.toNat <= 9 * 2 := Nat.mul_le_mul (by omega) (by omega); exact this
 len := by
  have h1 := hs.mv; have h2 := hs.mt; have h3 := hs.pu; have h4 := jjb (e := e) (M := e.mats.toNat) e.moves.length; have : e.moves.length * (e.mats.toNat + 2 + 2 * e.purs.length) <= 9 * 84 := Nat.mul_le_mul (by omega) (by omega); exact Nat.le_trans (Nat.le_trans h4 this) (by omega)
 mn := fun h => by
  obtain ⟨_, hm1, _⟩ := jcw hc; have h0 : e.moves.length ≠ 0 := fun h0 => h (by unfold rowsE; rw [h0]; rfl); have : 1 * 1 <= e.moves.length * e.mats.toNat := Nat.mul_le_mul (by omega) (by omega); unfold nV; omega
 ov := rows_ov fun p hp => by
  have := purF_iff.1 (jkx hc p hp); omega
theorem jjf (h : okP e ps = true) : jcq e = 0 /\ (∀ p ∈ ps, je5 e p = true) /\ noDup (isort (ps.map (pickK e.mats.toNat))) = true := by
 simp only [okP, Bool.and_eq_true, decide_eq_true_eq, List.all_eq_true] at h; exact h
theorem pick_lt {p : Int × Int} (h : je5 e p = true) : pickK e.mats.toNat p < nV e := by
 simp only [je5, Bool.and_eq_true, decide_eq_true_eq] at h; obtain ⟨h1, h2, h3, h4⟩ := h; have : (p.1.toNat + 1) * e.mats.toNat <= e.moves.length * e.mats.toNat := Nat.mul_le_mul_right _ (by omega); rw [Nat.succ_mul] at this; unfold pickK nV; omega
theorem keys_lt (h : ∀ p ∈ ps, je5 e p = true) : ∀ k ∈ isort (ps.map (pickK e.mats.toNat)), k < nV e := fun k hk => by
 obtain ⟨p, hp, rfl⟩ := List.mem_map.1 ((Go.LW.isort_perm _).mem_iff.1 hk); exact pick_lt (h p hp)
theorem goal_ok (h : okP e ps = true) : GoalOk (nV e) (goalS e.mats.toNat ps) where
 rt := by
  obtain ⟨_, h1, h2⟩ := jjf h; exact Go.LP.RT_ones (Go.LW.noDup_lt (Go.LW.isort_sorted _) h2) fun k hk => ⟨Nat.zero_le _, keys_lt h1 k hk⟩
 ov t ht := by
  obtain ⟨k, _, rfl⟩ := List.mem_map.1 ht; exact Ov_int (z := 1) (by decide)
def wgt (e : Evid) (ps : List (Int × Int)) (x : Nat -> Rat) : Rat := ksum (ps.map (pickK e.mats.toNat)) x
theorem jp3 (x : Nat -> Rat) : tsum (goalS e.mats.toNat ps) x = wgt e ps x := by
 rw [goalS, jj1]; exact Go.LP.ksum_perm (Go.LW.isort_perm _) x
end
def RShape (r : List IV) : Prop := ∃ (k1 a1 c1 : Int) (b1 d1 P1 Y1 Z1 : List (List IV)) (k2 a2 c2 : Int) (b2 d2 P2 Y2 Z2 : List (List IV)),
 r = [.int k1, .int a1, .sl b1, .int c1, .sl d1, .sl P1, .sl Y1, .sl Z1, .int k2, .int a2, .sl b2, .int c2, .sl d2, .sl P2, .sl Y2, .sl Z2]
def RFound (N : Nat) (ws : List Rw) (f : (Nat -> Rat) -> Rat) (r : List IV) (lo : Rat) (hi : Option Rat) : Prop := ∃ (x x' : Nat -> Rat) (Y Z : List (List IV)) (k : Int) (Y' Z' : List (List IV)),
 r = ([.int 0] ++ fc lo ++ [xl N x, .sl Y, .sl Z]) ++ ([.int k] ++ sideC (hi.map fun v => -v) ++ [xl N x', .sl Y', .sl Z']) /\ decide (k = 0) = hi.isSome /\ Sol N ws x /\ f x = lo /\ Sol N ws x' /\ ∀ w, hi = some w -> f x' = w
theorem RFound.shape {N : Nat} {ws : List Rw} {f : (Nat -> Rat) -> Rat} {r : List IV} {lo : Rat} {hi : Option Rat} (h : RFound N ws f r lo hi) : RShape r := by
 obtain ⟨x, x', Y, Z, k, Y', Z', rfl, _⟩ := h; cases hi with
 | none => exact ⟨_, _, _, _, _, _, _, _, _, _, _, _, _, _, _, _, rfl⟩
 | some w => exact ⟨_, _, _, _, _, _, _, _, _, _, _, _, _, _, _, _, rfl⟩
def bdC (lo : Rat) (hi : Option Rat) : List IV := fc lo ++ sideC hi ++ [.bool true, .bool hi.isSome]
section
variable {N : Nat} {ws : List Rw} {goal : List (Nat × Rat)}
theorem span_says (hs : SysOk N ws) (hg : GoalOk N goal) (hp : ∀ t ∈ goal, 0 <= t.2) :
  (spanR N ws goal = .tup [.agg (zo ++ zo), .int 15] /\ ∀ x, ¬ Sol N ws x) \/
  (∃ (r : List IV) (lo : Rat) (hi : Option Rat), spanR N ws goal = .tup [.agg r, .int 0] /\ Bds N ws (tsum goal) lo hi /\ FL 4000000000 lo /\ (∀ w, hi = some w -> FL 4000000000 w) /\
   Ctr G.P 28 [.agg r] (· = .agg (bdC lo hi)) /\ RFound N ws (tsum goal) r lo hi) := by
 have h1 := jfn hs hg; have h2 := jfn hs hg.opp; have e1 : ((-1 : Int) : Rat) = -1 := by decide
 unfold spanR; generalize jhg N ws goal = o at *; generalize jhg N ws (mulT ((-1 : Int) : Rat) goal) = o' at *; cases h1 with
 | none Y hno => exact .inl ⟨if_pos rfl, hno⟩
 | free x Z hno hx =>
  exfalso; obtain ⟨y, hy, hl⟩ := hno.2 0; have := Go.LP.tsum_nonneg hg.rt hp hy.pos; grind
 | found v x Y hf hmin hx hv =>
  right; have hnn : isNone ([.int 0] ++ fc v ++ [xl N x, .sl Y, .sl []]) = false := rfl; rw [hnn, if_neg (by decide)]; cases h2 with
  | none Y' hno => exact absurd hx (hno x)
  | found u x' Y' hf' hmin' hx' hv' =>
   have hx'v : tsum goal x' = -u := by rw [jh6, e1] at hv'; grind
   have huu : - -u = u := by grind
   refine ⟨_, v, some (-u), rfl, ⟨hmin.at', hmin.le, ?_, ?_, fun h => by cases h⟩, hf, ?_, ?_, ⟨x, x', Y, [], 0, Y', [], ?_, rfl, hx, hv, hx', fun w hw => by cases hw; exact hx'v⟩⟩
   ·intro w hw; cases hw; exact ⟨x', hx', hx'v⟩
   ·intro w hw y hy; cases hw; have := hmin'.le y hy; rw [jh6, e1] at this; grind
   ·intro w hw; cases hw; exact jl6 hf'
   ·exact x_bnd (some v) (some u) 0 0 _ _ _ _ _ _ rfl rfl (fun w h => by cases h; exact hf) (fun w h => by cases h; exact hf')
   ·rw [Option.map_some, huu]; rfl
  | free x' Z' hno hx' =>
   refine ⟨_, v, none, rfl, ⟨hmin.at', hmin.le, (fun w hw => by cases hw), (fun w hw => by cases hw), fun _ c => ?_⟩, hf, (fun w hw => by cases hw), ?_, ⟨x, x', Y, [], 2, [], Z', rfl, rfl, hx, hv, hx', fun w hw => by cases hw⟩⟩
   ·obtain ⟨y, hy, hl⟩ := hno.2 (-c); refine ⟨y, hy, ?_⟩; rw [jh6, e1] at hl; grind
   ·exact x_bnd (some v) none 0 2 _ _ _ _ _ _ rfl rfl (fun w h => by cases h; exact hf) (fun w h => by cases h)
end
end
end Go.Proofs.YtfahloobpegieaaGreat
