/- A part of the proof. No further condition. -/
import Derived.Test.YtfahloobpegieaaGreatKX32
set_option linter.all false
set_option maxRecDepth 100000
namespace Go.Proofs.YtfahloobpegieaaGreat
section
open Go.Abs
open Go.LP (Dic Rw RT Ov OvRw tsum Sol IsMin NoMin Bds ksum jlq jfp noDup_iff)
attribute [local go_sem] ints ic big frac fc zc
theorem okP_iff {e : Evid} {ps : List (Int × Int)} : okP e ps = true ↔ jcq e = 0 /\ (∀ p ∈ ps, je5 e p = true) /\ (ps.map (pickK e.mats.toNat)).Nodup := by
 constructor
 ·intro h; obtain ⟨h1, h2, h3⟩ := jjf h; exact ⟨h1, h2, noDup_iff.1 h3⟩
 ·rintro ⟨h1, h2, h3⟩; simp only [okP, Bool.and_eq_true, decide_eq_true_eq, List.all_eq_true]; exact ⟨h1, h2, noDup_iff.2 h3⟩
theorem jnt {e : Evid} {ps qs : List (Int × Int)} (hs : qs.Sublist ps) (h : okP e ps = true) : okP e qs = true := by
 obtain ⟨h1, h2, h3⟩ := okP_iff.1 h; exact okP_iff.2 ⟨h1, fun p hp => h2 p (hs.subset hp), List.Nodup.sublist (hs.map _) h3⟩
theorem okP_nil {e : Evid} (h : jcq e = 0) : okP e [] = true := okP_iff.2 ⟨h, (fun p hp => by cases hp), List.Pairwise.nil⟩
theorem wgt_cut (e : Evid) (ps : List (Int × Int)) (k : Nat) (x : Nat -> Rat) : wgt e ps x = wgt e (ps.take k) x + wgt e (ps.drop k) x := by
 unfold wgt; rw [<- jlq, <- List.map_append, List.take_append_drop]
theorem wgt_nonneg {e : Evid} {ps : List (Int × Int)} (h : okP e ps = true) {x : Nat -> Rat} (hx : Sol (nV e) (rowsE e) x) : 0 <= wgt e ps x := by
 obtain ⟨_, h2, _⟩ := okP_iff.1 h; refine jfp hx.pos fun k hk => ?_; obtain ⟨p, hp, rfl⟩ := List.mem_map.1 hk; exact pick_lt (h2 p hp)
theorem BSay.get {e : Evid} {ps : List (Int × Int)} {b : Option (Rat × Option Rat)} (h : BSay e ps b) (hok : okP e ps = true) (hx : ∃ x, Sol (nV e) (rowsE e) x) :
  ∃ lo hi, b = Option.some (lo, hi) /\ Bds (nV e) (rowsE e) (wgt e ps) lo hi /\ FL 4000000000 lo /\ ∀ w, hi = Option.some w -> FL 4000000000 w := by
 cases h with
 | none hno => obtain ⟨x, hx⟩ := hx; exact absurd hx (hno hok x)
 | some l u h1 h2 h3 h4 => exact ⟨l, u, rfl, h2, h3, h4⟩
theorem BSay.inv {e : Evid} {ps : List (Int × Int)} {lo : Rat} {hi : Option Rat} (h : BSay e ps (Option.some (lo, hi))) : okP e ps = true /\ Bds (nV e) (rowsE e) (wgt e ps) lo hi /\ FL 4000000000 lo /\ ∀ w, hi = Option.some w -> FL 4000000000 w := by
 cases h with
 | some l u h1 h2 h3 h4 => exact ⟨h1, h2, h3, h4⟩
theorem t_addz1 (s t : Int) (b d : List (List IV)) : Ctr G.P 17 [.agg zc, .agg [.int s, .sl b, .int t, .sl d]] (· = .tup [.agg zc, .int 1]) := by
 have k1 := jh9 0 0 [] [] (by decide) (by decide); have e : fracF 0 [] 0 [] = false := by decide +kernel
 rw [e] at k1; simp only [ints, List.map_nil] at k1; unfold zc; refine jac good _ _ [.cell 4 42, .tmp 5] Tryz.func17 rfl rfl (by decide +kernel) rfl ?_; simp only [go_sem]; refine ja1 k1 (by decide) ?_; simp only [go_sem]
theorem t_addz2 {a : Rat} (ha : FL 19000000000 a) : Ctr G.P 17 [frac a, .agg zc] (· = .tup [.agg zc, .int 1]) := by
 have k1 := jh9 0 0 [] [] (by decide) (by decide); have e : fracF 0 [] 0 [] = false := by decide +kernel
 rw [e] at k1; have k0 := jnx ha; simp only [ints, frac, List.map_nil] at k0 k1 ⊢; unfold zc; refine jac good _ _ [.cell 4 42, .tmp 5] Tryz.func17 rfl rfl (by decide +kernel) rfl ?_; simp only [go_sem]; refine ja1 k0 (by decide) ?_; simp only [go_sem]; refine ja1 k1 (by decide) ?_; simp only [go_sem]
theorem jgk (h : Option Rat) : ∃ (s t : Int) (b d : List (List IV)), sideC h = [.int s, .sl b, .int t, .sl d] := by
 cases h with
 | none => exact ⟨_, _, _, _, rfl⟩
 | some w => exact ⟨_, _, _, _, rfl⟩
theorem side_add {h1 h2 : Option Rat} (f1 : ∀ w, h1 = some w -> FL 4000000000 w) (f2 : ∀ w, h2 = some w -> FL 4000000000 w) : ∃ (s t : Int) (b d : List (List IV)) (f : Int), Ctr G.P 17 [.agg (sideC h1), .agg (sideC h2)] (· = .tup [.agg [.int s, .sl b, .int t, .sl d], .int f]) /\
  ∀ w w', h1 = some w -> h2 = some w' -> fc (w + w') = [.int s, .sl b, .int t, .sl d] := by
 cases h1 with
 | none =>
  obtain ⟨s, t, b, d, e⟩ := jgk h2; rw [e]; exact ⟨_, _, _, _, _, t_addz1 s t b d, fun w w' h => by cases h⟩
 | some w =>
  cases h2 with
  | none => exact ⟨_, _, _, _, _, t_addz2 ((f1 w rfl).mono (by omega)), fun w w' _ h => by cases h⟩
  | some w' => exact ⟨_, _, _, _, _, f_add ((f1 w rfl).mono (by omega)) ((f2 w' rfl).mono (by omega)), fun u u' h h' => by cases h; cases h'; rfl⟩
set_option maxHeartbeats 8000000 in
theorem w_adds (e : Evid) (ps : List (Int × Int)) (c : Int) (hc : 0 <= c /\ c <= 255) : Ctr G.P 4 [e.iv, .sl (ps.map pickC), .sc (.int .u8 c)] (· = .bool true) := by
 have k0 := w_small; have kF := t_few17z e (ps.map pickC) 5; rw [List.length_map] at kF; rcases hf : few17 e ps.length 5 with _ | _
 ·rw [hf] at kF; unfold zo at kF; generalize ps.map pickC = pl at *; refine jac good _ _ [.tmp 6] Tryz.func4 rfl rfl (by decide +kernel) rfl ?_; unfold Evid.iv Evid.c at *; simp only [go_sem]; refine ja1 k0 (by decide) ?_; simp only [go_sem]; refine ja1 kF (by decide) ?_; simp only [go_sem]
 rw [hf] at kF; obtain ⟨hs, hn, _⟩ := few_small hf (by omega); obtain ⟨k, hk, hkl⟩ : ∃ k : Nat, c.tmod ((ps.length : Int) + 1) = (k : Int) /\ k <= ps.length := by
  have h1 : 0 <= c.tmod ((ps.length : Int) + 1) := Int.tmod_nonneg _ hc.1; have h2 := Int.tmod_lt_of_pos c (show (0 : Int) < (ps.length : Int) + 1 by omega); exact ⟨(c.tmod ((ps.length : Int) + 1)).toNat, by omega, by omega⟩
 have wc : IntKind.i64.wrap c = c := jaa (by omega); have wn : IntKind.i64.wrap ((ps.length : Int) + 1) = (ps.length : Int) + 1 := jaa (by omega); have nz : ¬ ((ps.length : Int) + 1 = 0) := by omega
 have nzd : decide ((ps.length : Int) + 1 = 0) = false := decide_eq_false nz; have hk0 : (0 : Int) <= (k : Int) := by omega
 have hkn : (k : Int) <= (ps.length : Int) := by omega
 have hall : (ps.map pickC).all (fun c => c.length == 2) = true := List.all_eq_true.2 fun c hc => by
  obtain ⟨z, _, rfl⟩ := List.mem_map.1 hc; rfl
 have htk : (ps.map pickC).take k = (ps.take k).map pickC := List.map_take.symm; have hdk : ((ps.map pickC).drop k).take (ps.length - k) = (ps.drop k).map pickC := by
  rw [<- List.map_drop, List.take_of_length_le]; rw [List.length_map, List.length_drop]; exact Nat.le_refl _
 obtain ⟨r1, f1, b1, s1, kR1⟩ := jez (e := e) (ps := ps) hs (by omega); have kb1 := jl9 s1 kR1; obtain ⟨r2, f2, b2, s2, kR2⟩ := jez (e := e) (ps := ps.take k) hs (by rw [List.length_take]; omega); have kb2 := jl9 s2 kR2; obtain ⟨r3, f3, b3, s3, kR3⟩ := jez (e := e) (ps := ps.drop k) hs (by rw [List.length_drop]; omega); have kb3 := jl9 s3 kR3; have y1 := s1.say; have y2 := s2.say; have y3 := s3.say; obtain ⟨a2, c2, x2, d2, a2', c2', x2', d2', l2, h2, e2⟩ := jm4 b2; obtain ⟨a3, c3, x3, d3, a3', c3', x3', d3', l3, h3, e3⟩ := jm4 b3; cases b1 with
 | none =>
  rw [e2] at kb2; rw [e3] at kb3; simp only [bB, zc, zo, List.cons_append, List.nil_append, Option.isSome] at *; clear s1 s2 s3 y1 y2 y3 kR1 kR2 kR3 e2 e3; refine jac good _ _ [.tmp 6] Tryz.func4 rfl rfl (by decide +kernel) rfl ?_; unfold Evid.iv Evid.c at *; simp only [go_sem]; refine ja1 k0 (by decide) ?_; simp only [go_sem]; refine ja1 kF (by decide) ?_; simp only [wc, wn, nz, hk, List.length_map, go_sem]; refine ja1 kb1 (by decide) ?_; simp only [hk, go_sem]; refine jay (by decide +kernel) ?_; simp only [hk0, hkn, hall, htk, hdk, Nat.sub_zero, List.length_map, go_sem]; refine ja4 kb2 (by decide) ?_; simp only [go_sem]; refine jay (by decide +kernel) ?_; simp only [hk0, hkn, hall, htk, hdk, Nat.sub_zero, List.length_map, Int.le_refl, go_sem]; refine ja4 kb3 (by decide) ?_; simp only [go_sem]
 | some p =>
  obtain ⟨lo, hi⟩ := p; clear e2 e3; obtain ⟨g1, g2, g3, g4⟩ := y1.inv; obtain ⟨lo2, hi2, rfl, q2, q3, q4⟩ := y2.get (jnt (List.take_sublist _ _) g1) g2.sol; obtain ⟨lo3, hi3, rfl, t2, t3, t4⟩ := y3.get (jnt (List.drop_sublist _ _) g1) g2.sol; have hc0 := (okP_iff.1 g1).1; obtain ⟨r5, f5, b5, s5, kR5⟩ := jez (e := e) (ps := []) hs (by simp); have kL := w_least s5 kR5; obtain ⟨lo5, hi5, hb5, v2, _, _⟩ := s5.say.get (okP_nil hc0) g2.sol; have hz5 : lo5 = ((0 : Int) : Rat) := v2.zero fun x => rfl; subst hb5 hz5; unfold jlo at kL; have kL' : Ctr G.P 16 [e.iv, .sl []] (· = .tup [frac ((0 : Int) : Rat), .int 0]) := kL; obtain ⟨m1, m2⟩ := q2.add t2 (g2.congr fun x => wgt_cut e ps k x); have m3 : lo2 <= lo := q2.mono g2 fun x hx => by
   rw [wgt_cut e ps k x]; have := wgt_nonneg (jnt (List.drop_sublist k _) g1) hx; grind
  have kI0 : Ctr G.P 19 [.int 0] (· = frac ((0 : Int) : Rat)) := jc6 0 (by omega); have kS0 := jp9 (FL.mono (jce (n := 0) (by omega)) (by omega : 4 <= 19000000000)); have kA := f_add (q3.mono (by omega : 4000000000 <= 19000000000)) (t3.mono (by omega : 4000000000 <= 19000000000)); have fs : FL 19000000000 (lo2 + lo3) := (jk8 q3 t3).mono (by omega); have kC1 := f_cmp fs (g3.mono (by omega : 4000000000 <= 19000000000)); have kC2 := f_cmp (q3.mono (by omega : 4000000000 <= 19000000000)) (g3.mono (by omega : 4000000000 <= 19000000000)); have dC1 : decide (0 < cmpR (lo2 + lo3) lo) = false := decide_eq_false (fun h => by have := cmpR_pos.1 h; grind); have dC2 : decide (0 < cmpR lo2 lo) = false := decide_eq_false (fun h => by have := cmpR_pos.1 h; grind); obtain ⟨zs, zt, zb, zd, zf, kM, hM⟩ := side_add q4 t4; obtain ⟨us, ut, ub, ud, e4⟩ := jgk hi; obtain ⟨vs, vt, vb, vd, e5⟩ := jgk hi2; obtain ⟨ws, wt, wb, wd, e6⟩ := jgk hi3; have hlast : ∀ h2 h3 : Bool, hi2.isSome = h2 -> hi3.isSome = h3 -> (h2 = true /\ h3 = true -> hi.isSome = true /\ ∃ n : Int, decide (n <= 0) = true /\ Ctr G.P 20 [.agg [.int us, .sl ub, .int ut, .sl ud], .agg [.int zs, .sl zb, .int zt, .sl zd]] (· = .int n)) := by
   rintro _ _ rfl rfl ⟨i2, i3⟩; obtain ⟨w2, rfl⟩ := Option.isSome_iff_exists.1 i2; obtain ⟨w3, rfl⟩ := Option.isSome_iff_exists.1 i3; obtain ⟨u, rfl, hu⟩ := m2 w2 w3 rfl rfl; refine ⟨rfl, cmpR u (w2 + w3), decide_eq_true ?_, ?_⟩
   ·have := (not_congr (cmpR_pos (a := u) (b := w2 + w3))).2 (by grind); omega
   ·have h := f_cmp ((g4 u rfl).mono (by omega : 4000000000 <= 19000000000)) ((jk8 (q4 w2 rfl) (t4 w3 rfl)).mono (by omega : 4000000000 + 4000000000 + 1 <= 19000000000)); rw [frac_fc, frac_fc, hM w2 w3 rfl rfl] at h; rw [show fc u = sideC (some u) from rfl, e4] at h; exact h
  rw [e5, e6] at kM; simp only [bB, bdC, e4, e5, e6, List.cons_append, List.nil_append, Option.isSome_some, frac, ints, fc] at kb1 kb2 kb3 kL' kI0 kS0 kA kC1 kC2 kM; clear s1 s2 s3 s5 y1 y2 y3 kR1 kR2 kR3 kR5 kL g2 q2 t2 v2 m1 m2 m3; generalize (dig (((0 : Int) : Rat).num.natAbs)).map ic = o1 at *; generalize (dig ((((0 : Int) : Rat).den : Int).natAbs)).map ic = o2 at *; rcases i2 : hi2.isSome with _ | _
  ·rw [i2] at kb2; refine jac good _ _ [.tmp 6] Tryz.func4 rfl rfl (by decide +kernel) rfl ?_; unfold Evid.iv Evid.c at *; simp only [go_sem]; refine ja1 k0 (by decide) ?_; simp only [go_sem]; refine ja1 kF (by decide) ?_; simp only [wc, wn, nz, hk, List.length_map, go_sem]; refine ja1 kb1 (by decide) ?_; simp only [hk, go_sem]; refine jay (by decide +kernel) ?_; simp only [hk0, hkn, hall, htk, hdk, Nat.sub_zero, List.length_map, go_sem]; refine ja4 kb2 (by decide) ?_; simp only [go_sem]; refine jay (by decide +kernel) ?_; simp only [hk0, hkn, hall, htk, hdk, Nat.sub_zero, List.length_map, Int.le_refl, go_sem]; refine ja4 kb3 (by decide) ?_; simp only [go_sem]; refine ja1 kL' (by decide) ?_; simp only [go_sem]; refine ja1 kA (by decide) ?_; simp only [go_sem]; refine ja1 kM (by decide) ?_; simp only [go_sem]; refine jau 31 (by decide +kernel) ?_; simp only [go_sem]; refine ja4 kI0 (by decide) ?_; simp only [go_sem]; refine ja4 kS0 (by decide) ?_; simp only [go_sem]; refine ja4 kC1 (by decide) ?_; simp only [dC1, go_sem]; refine ja4 kC2 (by decide) ?_; simp only [dC1, dC2, go_sem]
  ·rcases i3 : hi3.isSome with _ | _
   ·rw [i2] at kb2; rw [i3] at kb3; refine jac good _ _ [.tmp 6] Tryz.func4 rfl rfl (by decide +kernel) rfl ?_; unfold Evid.iv Evid.c at *; simp only [go_sem]; refine ja1 k0 (by decide) ?_; simp only [go_sem]; refine ja1 kF (by decide) ?_; simp only [wc, wn, nz, hk, List.length_map, go_sem]; refine ja1 kb1 (by decide) ?_; simp only [hk, go_sem]; refine jay (by decide +kernel) ?_; simp only [hk0, hkn, hall, htk, hdk, Nat.sub_zero, List.length_map, go_sem]; refine ja4 kb2 (by decide) ?_; simp only [go_sem]; refine jay (by decide +kernel) ?_; simp only [hk0, hkn, hall, htk, hdk, Nat.sub_zero, List.length_map, Int.le_refl, go_sem]; refine ja4 kb3 (by decide) ?_; simp only [go_sem]; refine ja1 kL' (by decide) ?_; simp only [go_sem]; refine ja1 kA (by decide) ?_; simp only [go_sem]; refine ja1 kM (by decide) ?_; simp only [go_sem]; refine jau 31 (by decide +kernel) ?_; simp only [go_sem]; refine ja4 kI0 (by decide) ?_; simp only [go_sem]; refine ja4 kS0 (by decide) ?_; simp only [go_sem]; refine ja4 kC1 (by decide) ?_; simp only [dC1, go_sem]; refine ja4 kC2 (by decide) ?_; simp only [dC1, dC2, go_sem]
   ·rw [i2] at kb2; rw [i3] at kb3; obtain ⟨i1, n, dn, kn⟩ := hlast _ _ i2 i3 ⟨rfl, rfl⟩; rw [i1] at kb1; refine jac good _ _ [.tmp 6] Tryz.func4 rfl rfl (by decide +kernel) rfl ?_; unfold Evid.iv Evid.c at *; simp only [go_sem]; refine ja1 k0 (by decide) ?_; simp only [go_sem]; refine ja1 kF (by decide) ?_; simp only [wc, wn, nz, hk, List.length_map, go_sem]; refine ja1 kb1 (by decide) ?_; simp only [hk, go_sem]; refine jay (by decide +kernel) ?_; simp only [hk0, hkn, hall, htk, hdk, Nat.sub_zero, List.length_map, go_sem]; refine ja4 kb2 (by decide) ?_; simp only [go_sem]; refine jay (by decide +kernel) ?_; simp only [hk0, hkn, hall, htk, hdk, Nat.sub_zero, List.length_map, Int.le_refl, go_sem]; refine ja4 kb3 (by decide) ?_; simp only [go_sem]; refine ja1 kL' (by decide) ?_; simp only [go_sem]; refine ja1 kA (by decide) ?_; simp only [go_sem]; refine ja1 kM (by decide) ?_; simp only [go_sem]; refine jau 31 (by decide +kernel) ?_; simp only [go_sem]; refine ja4 kI0 (by decide) ?_; simp only [go_sem]; refine ja4 kS0 (by decide) ?_; simp only [go_sem]; refine ja4 kC1 (by decide) ?_; simp only [dC1, go_sem]; refine ja4 kC2 (by decide) ?_; simp only [dC1, dC2, go_sem]; refine ja1 kn (by decide) ?_; simp only [dn, go_sem]
end
end Go.Proofs.YtfahloobpegieaaGreat
