/- A part of the proof: what functions of the program do, and the layer under it. No further condition. -/
import Derived.Test.YtpnlfkaijdjhlabKX18
import Derived.Test.YtpnlfkaijdjhlabKX17
namespace Go.Proofs.Ytpnlfkaijdjhlab
set_option linter.all false
open Go.Abs

set_option maxRecDepth 100000 in
set_option maxHeartbeats 1000000 in
theorem t_divf (a b : Int) (hb : b ≠ 0) (la : (dig a.natAbs).length ≤ 50000) (lb : (dig b.natAbs).length ≤ 50000) : Ctr G.P 64 [big a, big b] (· = .tup [big (a.fdiv b), big (a.fmod b), .int 0]) := by
  have ra := t_rightb a (by omega)
  have rb := t_rightb b (by omega)
  have hbs : decide (b.sign = 0) = false := decide_eq_false fun h => hb (Int.sign_eq_zero_iff_zero.1 h)
  have ho := t_overn a.natAbs b.natAbs (by omega) (by omega) lb
  have hlq := len_fdiv hb la
  have hlr := len_fmod (a := a) hb lb
  have w := i64_ok (n := a.sign * b.sign) (by rw [← Int.sign_mul]; have := sign_le (a * b); omega)
  have hB : 0 < b.natAbs := by omega
  have hmlt := Nat.mod_lt a.natAbs hB
  by_cases h : ¬ a.sign * b.sign < 0 ∨ a.natAbs % b.natAbs = 0
  · obtain ⟨⟨e1, e2⟩, e3, e4⟩ := fdiv_same hb h
    have hm := t_madeb (a.sign * b.sign) (a.fdiv b) (a.natAbs / b.natAbs) e1 e2 (by omega)
    have hm2 := t_madeb a.sign (a.fmod b) (a.natAbs % b.natAbs) e3 e4 (by omega)
    refine ctr_go good _ _ [.cell 4 24, .cell 5 24, .tmp 6] Try.func64 rfl rfl (by decide +kernel) rfl ?_
    simp only [go_sem, Int.reduceNegSucc, Nat.reduceAdd, Nat.reduceSub, Nat.reduceMul, Nat.reduceEqDiff, Nat.reduceLeDiff, Nat.reduceLT, Nat.reduceBEq, Nat.reduceBNe, reduceIte, reduceCtorEq, Int.reduceToNat, Int.reduceAdd, Int.reduceSub, Int.reduceMul, Int.reduceNeg, Int.reduceLT, Int.reduceLE, Int.reduceEq, Int.reduceNe, ints, ic, big]
    refine CallP_eq ra (by decide) ?_
    simp only [go_sem, Int.reduceNegSucc, Nat.reduceAdd, Nat.reduceSub, Nat.reduceMul, Nat.reduceEqDiff, Nat.reduceLeDiff, Nat.reduceLT, Nat.reduceBEq, Nat.reduceBNe, reduceIte, reduceCtorEq, Int.reduceToNat, Int.reduceAdd, Int.reduceSub, Int.reduceMul, Int.reduceNeg, Int.reduceLT, Int.reduceLE, Int.reduceEq, Int.reduceNe, ints, ic, big]
    refine CallP_eq rb (by decide) ?_
    simp only [hbs, go_sem, Int.reduceNegSucc, Nat.reduceAdd, Nat.reduceSub, Nat.reduceMul, Nat.reduceEqDiff, Nat.reduceLeDiff, Nat.reduceLT, Nat.reduceBEq, Nat.reduceBNe, reduceIte, reduceCtorEq, Int.reduceToNat, Int.reduceAdd, Int.reduceSub, Int.reduceMul, Int.reduceNeg, Int.reduceLT, Int.reduceLE, Int.reduceEq, Int.reduceNe, ints, ic, big]
    refine CallP_eq ho (by decide) ?_
    simp only [w, go_sem, Int.reduceNegSucc, Nat.reduceAdd, Nat.reduceSub, Nat.reduceMul, Nat.reduceEqDiff, Nat.reduceLeDiff, Nat.reduceLT, Nat.reduceBEq, Nat.reduceBNe, reduceIte, reduceCtorEq, Int.reduceToNat, Int.reduceAdd, Int.reduceSub, Int.reduceMul, Int.reduceNeg, Int.reduceLT, Int.reduceLE, Int.reduceEq, Int.reduceNe, ints, ic, big]
    refine Two_dec (fun d d' => ?_) (fun d d' => ?_)
    · simp only [d, go_sem, Int.reduceNegSucc, Nat.reduceAdd, Nat.reduceSub, Nat.reduceMul, Nat.reduceEqDiff, Nat.reduceLeDiff, Nat.reduceLT, Nat.reduceBEq, Nat.reduceBNe, reduceIte, reduceCtorEq, Int.reduceToNat, Int.reduceAdd, Int.reduceSub, Int.reduceMul, Int.reduceNeg, Int.reduceLT, Int.reduceLE, Int.reduceEq, Int.reduceNe, ints, ic, big]
      refine DrawS_of (by decide +kernel) ?_
      simp only [w, go_sem, Int.reduceNegSucc, Nat.reduceAdd, Nat.reduceSub, Nat.reduceMul, Nat.reduceEqDiff, Nat.reduceLeDiff, Nat.reduceLT, Nat.reduceBEq, Nat.reduceBNe, reduceIte, reduceCtorEq, Int.reduceToNat, Int.reduceAdd, Int.reduceSub, Int.reduceMul, Int.reduceNeg, Int.reduceLT, Int.reduceLE, Int.reduceEq, Int.reduceNe, ints, ic, big]
      refine CallD_eq hm (by decide) ?_
      simp only [go_sem, Int.reduceNegSucc, Nat.reduceAdd, Nat.reduceSub, Nat.reduceMul, Nat.reduceEqDiff, Nat.reduceLeDiff, Nat.reduceLT, Nat.reduceBEq, Nat.reduceBNe, reduceIte, reduceCtorEq, Int.reduceToNat, Int.reduceAdd, Int.reduceSub, Int.reduceMul, Int.reduceNeg, Int.reduceLT, Int.reduceLE, Int.reduceEq, Int.reduceNe, ints, ic, big]
      refine CallD_eq hm2 (by decide) ?_
      simp only [go_sem, Int.reduceNegSucc, Nat.reduceAdd, Nat.reduceSub, Nat.reduceMul, Nat.reduceEqDiff, Nat.reduceLeDiff, Nat.reduceLT, Nat.reduceBEq, Nat.reduceBNe, reduceIte, reduceCtorEq, Int.reduceToNat, Int.reduceAdd, Int.reduceSub, Int.reduceMul, Int.reduceNeg, Int.reduceLT, Int.reduceLE, Int.reduceEq, Int.reduceNe, ints, ic, big]
    · have hz := h.resolve_left (fun h => h (by omega))
      rw [hz, dig_zero] at hm2
      simp only [d, hz, dig_zero, List.map_nil, List.length_nil, Int.natCast_zero, decide_true, go_sem, Int.reduceNegSucc, Nat.reduceAdd, Nat.reduceSub, Nat.reduceMul, Nat.reduceEqDiff, Nat.reduceLeDiff, Nat.reduceLT, Nat.reduceBEq, Nat.reduceBNe, reduceIte, reduceCtorEq, Int.reduceToNat, Int.reduceAdd, Int.reduceSub, Int.reduceMul, Int.reduceNeg, Int.reduceLT, Int.reduceLE, Int.reduceEq, Int.reduceNe, ints, ic, big]
      refine DrawS_of (by decide +kernel) ?_
      simp only [w, go_sem, Int.reduceNegSucc, Nat.reduceAdd, Nat.reduceSub, Nat.reduceMul, Nat.reduceEqDiff, Nat.reduceLeDiff, Nat.reduceLT, Nat.reduceBEq, Nat.reduceBNe, reduceIte, reduceCtorEq, Int.reduceToNat, Int.reduceAdd, Int.reduceSub, Int.reduceMul, Int.reduceNeg, Int.reduceLT, Int.reduceLE, Int.reduceEq, Int.reduceNe, ints, ic, big]
      refine CallD_eq hm (by decide) ?_
      simp only [go_sem, Int.reduceNegSucc, Nat.reduceAdd, Nat.reduceSub, Nat.reduceMul, Nat.reduceEqDiff, Nat.reduceLeDiff, Nat.reduceLT, Nat.reduceBEq, Nat.reduceBNe, reduceIte, reduceCtorEq, Int.reduceToNat, Int.reduceAdd, Int.reduceSub, Int.reduceMul, Int.reduceNeg, Int.reduceLT, Int.reduceLE, Int.reduceEq, Int.reduceNe, ints, ic, big]
      refine CallD_eq hm2 (by decide) ?_
      simp only [go_sem, Int.reduceNegSucc, Nat.reduceAdd, Nat.reduceSub, Nat.reduceMul, Nat.reduceEqDiff, Nat.reduceLeDiff, Nat.reduceLT, Nat.reduceBEq, Nat.reduceBNe, reduceIte, reduceCtorEq, Int.reduceToNat, Int.reduceAdd, Int.reduceSub, Int.reduceMul, Int.reduceNeg, Int.reduceLT, Int.reduceLE, Int.reduceEq, Int.reduceNe, ints, ic, big]
  · simp only [not_or, Classical.not_not] at h
    obtain ⟨hs, hr⟩ := h
    obtain ⟨⟨e1, e2⟩, e3, e4⟩ := fdiv_opp hs hr
    have hd : decide (0 ≤ a.sign * b.sign) = false := decide_eq_false (by omega)
    have hlen : decide (((dig (a.natAbs % b.natAbs)).length : Int) = 0) = false := decide_eq_false (by
      have : dig (a.natAbs % b.natAbs) ≠ [] := fun h => hr (dig_nil.1 h)
      have := List.length_pos_iff.2 this
      omega)
    have hle : (dig (a.natAbs / b.natAbs)).length ≤ 50000 := len_mono (Nat.div_le_self _ _) la
    have hle2 : (dig (a.natAbs % b.natAbs)).length ≤ 50000 := len_mono (by omega) lb
    have hone : OkD [1] := OkD.cons (by omega) OkD.nil
    have hp := t_plus (dig (a.natAbs / b.natAbs)) [1] (dig_ok _) hone (by omega) (by simp)
    rw [val_dig, val_one, show ((a.natAbs / b.natAbs : Nat) + 1 : Int).toNat = a.natAbs / b.natAbs + 1 by omega] at hp
    simp only [ints, ic, List.map_cons, List.map_nil] at hp
    have hq := t_minus (dig b.natAbs) (dig (a.natAbs % b.natAbs)) (dig_ok _) (dig_ok _) (by rw [val_dig, val_dig]; omega) (by omega) (by omega)
    rw [val_dig, val_dig, show ((b.natAbs : Int) - (a.natAbs % b.natAbs : Nat)).toNat = b.natAbs - a.natAbs % b.natAbs by omega] at hq
    have hm := t_madeb (-1) (a.fdiv b) (a.natAbs / b.natAbs + 1) e1 e2 (by omega)
    have hm2 := t_madeb b.sign (a.fmod b) (b.natAbs - a.natAbs % b.natAbs) e3 e4 (by omega)
    refine ctr_go good _ _ [.cell 4 24, .cell 5 24, .tmp 6] Try.func64 rfl rfl (by decide +kernel) rfl ?_
    simp only [go_sem, Int.reduceNegSucc, Nat.reduceAdd, Nat.reduceSub, Nat.reduceMul, Nat.reduceEqDiff, Nat.reduceLeDiff, Nat.reduceLT, Nat.reduceBEq, Nat.reduceBNe, reduceIte, reduceCtorEq, Int.reduceToNat, Int.reduceAdd, Int.reduceSub, Int.reduceMul, Int.reduceNeg, Int.reduceLT, Int.reduceLE, Int.reduceEq, Int.reduceNe, ints, ic, big]
    refine CallP_eq ra (by decide) ?_
    simp only [go_sem, Int.reduceNegSucc, Nat.reduceAdd, Nat.reduceSub, Nat.reduceMul, Nat.reduceEqDiff, Nat.reduceLeDiff, Nat.reduceLT, Nat.reduceBEq, Nat.reduceBNe, reduceIte, reduceCtorEq, Int.reduceToNat, Int.reduceAdd, Int.reduceSub, Int.reduceMul, Int.reduceNeg, Int.reduceLT, Int.reduceLE, Int.reduceEq, Int.reduceNe, ints, ic, big]
    refine CallP_eq rb (by decide) ?_
    simp only [hbs, go_sem, Int.reduceNegSucc, Nat.reduceAdd, Nat.reduceSub, Nat.reduceMul, Nat.reduceEqDiff, Nat.reduceLeDiff, Nat.reduceLT, Nat.reduceBEq, Nat.reduceBNe, reduceIte, reduceCtorEq, Int.reduceToNat, Int.reduceAdd, Int.reduceSub, Int.reduceMul, Int.reduceNeg, Int.reduceLT, Int.reduceLE, Int.reduceEq, Int.reduceNe, ints, ic, big]
    refine CallP_eq ho (by decide) ?_
    simp only [w, hd, hlen, go_sem, Int.reduceNegSucc, Nat.reduceAdd, Nat.reduceSub, Nat.reduceMul, Nat.reduceEqDiff, Nat.reduceLeDiff, Nat.reduceLT, Nat.reduceBEq, Nat.reduceBNe, reduceIte, reduceCtorEq, Int.reduceToNat, Int.reduceAdd, Int.reduceSub, Int.reduceMul, Int.reduceNeg, Int.reduceLT, Int.reduceLE, Int.reduceEq, Int.reduceNe, ints, ic, big]
    refine DrawS_of (by decide +kernel) ?_
    simp only [w, go_sem, Int.reduceNegSucc, Nat.reduceAdd, Nat.reduceSub, Nat.reduceMul, Nat.reduceEqDiff, Nat.reduceLeDiff, Nat.reduceLT, Nat.reduceBEq, Nat.reduceBNe, reduceIte, reduceCtorEq, Int.reduceToNat, Int.reduceAdd, Int.reduceSub, Int.reduceMul, Int.reduceNeg, Int.reduceLT, Int.reduceLE, Int.reduceEq, Int.reduceNe, ints, ic, big]
    refine CallD_eq hp (by decide) ?_
    simp only [go_sem, Int.reduceNegSucc, Nat.reduceAdd, Nat.reduceSub, Nat.reduceMul, Nat.reduceEqDiff, Nat.reduceLeDiff, Nat.reduceLT, Nat.reduceBEq, Nat.reduceBNe, reduceIte, reduceCtorEq, Int.reduceToNat, Int.reduceAdd, Int.reduceSub, Int.reduceMul, Int.reduceNeg, Int.reduceLT, Int.reduceLE, Int.reduceEq, Int.reduceNe, ints, ic, big]
    refine CallD_eq hm (by decide) ?_
    simp only [go_sem, Int.reduceNegSucc, Nat.reduceAdd, Nat.reduceSub, Nat.reduceMul, Nat.reduceEqDiff, Nat.reduceLeDiff, Nat.reduceLT, Nat.reduceBEq, Nat.reduceBNe, reduceIte, reduceCtorEq, Int.reduceToNat, Int.reduceAdd, Int.reduceSub, Int.reduceMul, Int.reduceNeg, Int.reduceLT, Int.reduceLE, Int.reduceEq, Int.reduceNe, ints, ic, big]
    refine CallD_eq hq (by decide) ?_
    simp only [go_sem, Int.reduceNegSucc, Nat.reduceAdd, Nat.reduceSub, Nat.reduceMul, Nat.reduceEqDiff, Nat.reduceLeDiff, Nat.reduceLT, Nat.reduceBEq, Nat.reduceBNe, reduceIte, reduceCtorEq, Int.reduceToNat, Int.reduceAdd, Int.reduceSub, Int.reduceMul, Int.reduceNeg, Int.reduceLT, Int.reduceLE, Int.reduceEq, Int.reduceNe, ints, ic, big]
    refine CallD_eq hm2 (by decide) ?_
    simp only [go_sem, Int.reduceNegSucc, Nat.reduceAdd, Nat.reduceSub, Nat.reduceMul, Nat.reduceEqDiff, Nat.reduceLeDiff, Nat.reduceLT, Nat.reduceBEq, Nat.reduceBNe, reduceIte, reduceCtorEq, Int.reduceToNat, Int.reduceAdd, Int.reduceSub, Int.reduceMul, Int.reduceNeg, Int.reduceLT, Int.reduceLE, Int.reduceEq, Int.reduceNe, ints, ic, big]
theorem fits_cmp (z : Int) : decide (cmpI z (-9223372036854775808) < 0) = !decide (-9223372036854775808 ≤ z) ∧ decide (0 < cmpI z 9223372036854775807) = !decide (z ≤ 9223372036854775807) := by
  unfold cmpI
  rw [← decide_not, ← decide_not, decide_eq_decide, decide_eq_decide]
  constructor
  · split <;> (try split) <;> omega
  · split <;> (try split) <;> omega
theorem drop_bound {l : List Int} (h : OkD l) (i : Nat) : val (l.drop i) ≤ val l := by
  have h1 := val_split l i
  have h3 := val_nonneg (h.take i)
  have h4 := val_nonneg (h.drop i)
  have h5 : 1 * val (l.drop i) ≤ 1048576 ^ i * val (l.drop i) := Int.mul_le_mul_of_nonneg_right (by have := pow_pos' i; omega) h4
  omega
theorem sign_bound {z n : Int} (h : n ≤ z.natAbs) (h0 : 0 ≤ n) (hf : -9223372036854775808 ≤ z ∧ z ≤ 9223372036854775807) : -9223372036854775808 ≤ z.sign * n ∧ z.sign * n ≤ 9223372036854775807 := by
  rcases Int.lt_trichotomy z 0 with h1 | h1 | h1
  · rw [Int.sign_eq_neg_one_of_neg h1]; omega
  · subst h1; simp
  · rw [Int.sign_eq_one_of_pos h1]; omega
set_option maxRecDepth 100000 in
set_option maxHeartbeats 1000000 in
theorem t_int (z : Int) (lz : (dig z.natAbs).length ≤ 1000000) : Ctr G.P 41 [big z] (· = .tup [.int (intF z), .bool (fits z)]) := by
  have rz := t_rightb z (by omega)
  have o1 := t_of (-9223372036854775808) (by omega)
  have o2 := t_of 9223372036854775807 (by omega)
  have k1 : (dig (-9223372036854775808 : Int).natAbs).length ≤ 1000000 := Nat.le_trans (dig_len_le (k := 4) (by decide)) (by omega)
  have k2 : (dig (9223372036854775807 : Int).natAbs).length ≤ 1000000 := Nat.le_trans (dig_len_le (k := 4) (by decide)) (by omega)
  have c1 := t_compare z (-9223372036854775808) lz k1
  have c2 := t_compare z 9223372036854775807 lz k2
  obtain ⟨f1, f2⟩ := fits_cmp z
  by_cases h1 : -9223372036854775808 ≤ z
  case neg =>
    have d1 : decide (-9223372036854775808 ≤ z) = false := decide_eq_false h1
    rw [d1] at f1
    have hf : fits z = false := by rw [fits, d1, Bool.false_and]
    rw [fits_no hf, hf]
    simp only [big, ints] at o1 o2 c1 c2
    refine ctr_go good _ _ [.tmp 2, .tmp 3] Try.func41 rfl rfl (by decide +kernel) rfl ?_
    simp only [go_sem, Int.reduceNegSucc, Nat.reduceAdd, Nat.reduceSub, Nat.reduceMul, Nat.reduceEqDiff, Nat.reduceLeDiff, Nat.reduceLT, Nat.reduceBEq, Nat.reduceBNe, reduceIte, reduceCtorEq, Int.reduceToNat, Int.reduceAdd, Int.reduceSub, Int.reduceMul, Int.reduceNeg, Int.reduceLT, Int.reduceLE, Int.reduceEq, Int.reduceNe, ints, ic, big]
    refine CallP_eq rz (by decide) ?_
    simp only [go_sem, Int.reduceNegSucc, Nat.reduceAdd, Nat.reduceSub, Nat.reduceMul, Nat.reduceEqDiff, Nat.reduceLeDiff, Nat.reduceLT, Nat.reduceBEq, Nat.reduceBNe, reduceIte, reduceCtorEq, Int.reduceToNat, Int.reduceAdd, Int.reduceSub, Int.reduceMul, Int.reduceNeg, Int.reduceLT, Int.reduceLE, Int.reduceEq, Int.reduceNe, ints, ic, big]
    refine DrawP_of 11 (by decide +kernel) ?_
    simp only [go_sem, Int.reduceNegSucc, Nat.reduceAdd, Nat.reduceSub, Nat.reduceMul, Nat.reduceEqDiff, Nat.reduceLeDiff, Nat.reduceLT, Nat.reduceBEq, Nat.reduceBNe, reduceIte, reduceCtorEq, Int.reduceToNat, Int.reduceAdd, Int.reduceSub, Int.reduceMul, Int.reduceNeg, Int.reduceLT, Int.reduceLE, Int.reduceEq, Int.reduceNe, ints, ic, big]
    refine CallD_eq o1 (by decide) ?_
    simp only [go_sem, Int.reduceNegSucc, Nat.reduceAdd, Nat.reduceSub, Nat.reduceMul, Nat.reduceEqDiff, Nat.reduceLeDiff, Nat.reduceLT, Nat.reduceBEq, Nat.reduceBNe, reduceIte, reduceCtorEq, Int.reduceToNat, Int.reduceAdd, Int.reduceSub, Int.reduceMul, Int.reduceNeg, Int.reduceLT, Int.reduceLE, Int.reduceEq, Int.reduceNe, ints, ic, big]
    refine CallD_eq c1 (by decide) ?_
    simp only [f1, go_sem, Int.reduceNegSucc, Nat.reduceAdd, Nat.reduceSub, Nat.reduceMul, Nat.reduceEqDiff, Nat.reduceLeDiff, Nat.reduceLT, Nat.reduceBEq, Nat.reduceBNe, reduceIte, reduceCtorEq, Int.reduceToNat, Int.reduceAdd, Int.reduceSub, Int.reduceMul, Int.reduceNeg, Int.reduceLT, Int.reduceLE, Int.reduceEq, Int.reduceNe, ints, ic, big]
  case pos =>
  have d1 : decide (-9223372036854775808 ≤ z) = true := decide_eq_true h1
  rw [d1] at f1
  by_cases h2 : z ≤ 9223372036854775807
  case neg =>
    have d2 : decide (z ≤ 9223372036854775807) = false := decide_eq_false h2
    rw [d2] at f2
    have hf : fits z = false := by rw [fits, d2, Bool.and_false]
    rw [fits_no hf, hf]
    simp only [big, ints] at o1 o2 c1 c2
    refine ctr_go good _ _ [.tmp 2, .tmp 3] Try.func41 rfl rfl (by decide +kernel) rfl ?_
    simp only [go_sem, Int.reduceNegSucc, Nat.reduceAdd, Nat.reduceSub, Nat.reduceMul, Nat.reduceEqDiff, Nat.reduceLeDiff, Nat.reduceLT, Nat.reduceBEq, Nat.reduceBNe, reduceIte, reduceCtorEq, Int.reduceToNat, Int.reduceAdd, Int.reduceSub, Int.reduceMul, Int.reduceNeg, Int.reduceLT, Int.reduceLE, Int.reduceEq, Int.reduceNe, ints, ic, big]
    refine CallP_eq rz (by decide) ?_
    simp only [go_sem, Int.reduceNegSucc, Nat.reduceAdd, Nat.reduceSub, Nat.reduceMul, Nat.reduceEqDiff, Nat.reduceLeDiff, Nat.reduceLT, Nat.reduceBEq, Nat.reduceBNe, reduceIte, reduceCtorEq, Int.reduceToNat, Int.reduceAdd, Int.reduceSub, Int.reduceMul, Int.reduceNeg, Int.reduceLT, Int.reduceLE, Int.reduceEq, Int.reduceNe, ints, ic, big]
    refine DrawP_of 11 (by decide +kernel) ?_
    simp only [go_sem, Int.reduceNegSucc, Nat.reduceAdd, Nat.reduceSub, Nat.reduceMul, Nat.reduceEqDiff, Nat.reduceLeDiff, Nat.reduceLT, Nat.reduceBEq, Nat.reduceBNe, reduceIte, reduceCtorEq, Int.reduceToNat, Int.reduceAdd, Int.reduceSub, Int.reduceMul, Int.reduceNeg, Int.reduceLT, Int.reduceLE, Int.reduceEq, Int.reduceNe, ints, ic, big]
    refine CallD_eq o1 (by decide) ?_
    simp only [go_sem, Int.reduceNegSucc, Nat.reduceAdd, Nat.reduceSub, Nat.reduceMul, Nat.reduceEqDiff, Nat.reduceLeDiff, Nat.reduceLT, Nat.reduceBEq, Nat.reduceBNe, reduceIte, reduceCtorEq, Int.reduceToNat, Int.reduceAdd, Int.reduceSub, Int.reduceMul, Int.reduceNeg, Int.reduceLT, Int.reduceLE, Int.reduceEq, Int.reduceNe, ints, ic, big]
    refine CallD_eq c1 (by decide) ?_
    simp only [f1, go_sem, Int.reduceNegSucc, Nat.reduceAdd, Nat.reduceSub, Nat.reduceMul, Nat.reduceEqDiff, Nat.reduceLeDiff, Nat.reduceLT, Nat.reduceBEq, Nat.reduceBNe, reduceIte, reduceCtorEq, Int.reduceToNat, Int.reduceAdd, Int.reduceSub, Int.reduceMul, Int.reduceNeg, Int.reduceLT, Int.reduceLE, Int.reduceEq, Int.reduceNe, ints, ic, big]
    refine CallD_eq o2 (by decide) ?_
    simp only [go_sem, Int.reduceNegSucc, Nat.reduceAdd, Nat.reduceSub, Nat.reduceMul, Nat.reduceEqDiff, Nat.reduceLeDiff, Nat.reduceLT, Nat.reduceBEq, Nat.reduceBNe, reduceIte, reduceCtorEq, Int.reduceToNat, Int.reduceAdd, Int.reduceSub, Int.reduceMul, Int.reduceNeg, Int.reduceLT, Int.reduceLE, Int.reduceEq, Int.reduceNe, ints, ic, big]
    refine CallD_eq c2 (by decide) ?_
    simp only [f2, go_sem, Int.reduceNegSucc, Nat.reduceAdd, Nat.reduceSub, Nat.reduceMul, Nat.reduceEqDiff, Nat.reduceLeDiff, Nat.reduceLT, Nat.reduceBEq, Nat.reduceBNe, reduceIte, reduceCtorEq, Int.reduceToNat, Int.reduceAdd, Int.reduceSub, Int.reduceMul, Int.reduceNeg, Int.reduceLT, Int.reduceLE, Int.reduceEq, Int.reduceNe, ints, ic, big]
  case pos =>
  have d2 : decide (z ≤ 9223372036854775807) = true := decide_eq_true h2
  rw [d2] at f2
  have hf : fits z = true := by rw [fits, d1, d2]; rfl
  rw [fits_yes hf, hf]
  simp only [big, ints] at o1 o2 c1 c2
  have hok := dig_ok z.natAbs
  have hz := val_dig z.natAbs
  have hw0 := i64_ok (n := ((dig z.natAbs).length : Int) - 1) (by omega)
  refine ctr_go good _ _ [.tmp 2, .tmp 3] Try.func41 rfl rfl (by decide +kernel) rfl ?_
  simp only [go_sem, Int.reduceNegSucc, Nat.reduceAdd, Nat.reduceSub, Nat.reduceMul, Nat.reduceEqDiff, Nat.reduceLeDiff, Nat.reduceLT, Nat.reduceBEq, Nat.reduceBNe, reduceIte, reduceCtorEq, Int.reduceToNat, Int.reduceAdd, Int.reduceSub, Int.reduceMul, Int.reduceNeg, Int.reduceLT, Int.reduceLE, Int.reduceEq, Int.reduceNe, ints, ic, big]
  refine CallP_eq rz (by decide) ?_
  simp only [go_sem, Int.reduceNegSucc, Nat.reduceAdd, Nat.reduceSub, Nat.reduceMul, Nat.reduceEqDiff, Nat.reduceLeDiff, Nat.reduceLT, Nat.reduceBEq, Nat.reduceBNe, reduceIte, reduceCtorEq, Int.reduceToNat, Int.reduceAdd, Int.reduceSub, Int.reduceMul, Int.reduceNeg, Int.reduceLT, Int.reduceLE, Int.reduceEq, Int.reduceNe, ints, ic, big]
  refine DrawP_of 11 (by decide +kernel) ?_
  simp only [go_sem, Int.reduceNegSucc, Nat.reduceAdd, Nat.reduceSub, Nat.reduceMul, Nat.reduceEqDiff, Nat.reduceLeDiff, Nat.reduceLT, Nat.reduceBEq, Nat.reduceBNe, reduceIte, reduceCtorEq, Int.reduceToNat, Int.reduceAdd, Int.reduceSub, Int.reduceMul, Int.reduceNeg, Int.reduceLT, Int.reduceLE, Int.reduceEq, Int.reduceNe, ints, ic, big]
  refine CallD_eq o1 (by decide) ?_
  simp only [go_sem, Int.reduceNegSucc, Nat.reduceAdd, Nat.reduceSub, Nat.reduceMul, Nat.reduceEqDiff, Nat.reduceLeDiff, Nat.reduceLT, Nat.reduceBEq, Nat.reduceBNe, reduceIte, reduceCtorEq, Int.reduceToNat, Int.reduceAdd, Int.reduceSub, Int.reduceMul, Int.reduceNeg, Int.reduceLT, Int.reduceLE, Int.reduceEq, Int.reduceNe, ints, ic, big]
  refine CallD_eq c1 (by decide) ?_
  simp only [f1, go_sem, Int.reduceNegSucc, Nat.reduceAdd, Nat.reduceSub, Nat.reduceMul, Nat.reduceEqDiff, Nat.reduceLeDiff, Nat.reduceLT, Nat.reduceBEq, Nat.reduceBNe, reduceIte, reduceCtorEq, Int.reduceToNat, Int.reduceAdd, Int.reduceSub, Int.reduceMul, Int.reduceNeg, Int.reduceLT, Int.reduceLE, Int.reduceEq, Int.reduceNe, ints, ic, big]
  refine CallD_eq o2 (by decide) ?_
  simp only [go_sem, Int.reduceNegSucc, Nat.reduceAdd, Nat.reduceSub, Nat.reduceMul, Nat.reduceEqDiff, Nat.reduceLeDiff, Nat.reduceLT, Nat.reduceBEq, Nat.reduceBNe, reduceIte, reduceCtorEq, Int.reduceToNat, Int.reduceAdd, Int.reduceSub, Int.reduceMul, Int.reduceNeg, Int.reduceLT, Int.reduceLE, Int.reduceEq, Int.reduceNe, ints, ic, big]
  refine CallD_eq c2 (by decide) ?_
  simp only [f2, go_sem, Int.reduceNegSucc, Nat.reduceAdd, Nat.reduceSub, Nat.reduceMul, Nat.reduceEqDiff, Nat.reduceLeDiff, Nat.reduceLT, Nat.reduceBEq, Nat.reduceBNe, reduceIte, reduceCtorEq, Int.reduceToNat, Int.reduceAdd, Int.reduceSub, Int.reduceMul, Int.reduceNeg, Int.reduceLT, Int.reduceLE, Int.reduceEq, Int.reduceNe, ints, ic, big]
  refine LoopP_of [1, 5, 6] [1] (fun n : Nat => ⟨[(1, .loc 1 2 0 0), (5, .im (.int (z.sign * val ((dig z.natAbs).drop n)))), (6, .im (.int ((n : Int) - 1)))], [(1, 2, [[.int z.sign, ints (dig z.natAbs)]])], []⟩)
    (fun n => n ≤ (dig z.natAbs).length) (fun n => n) (dig z.natAbs).length ?_ (Nat.le_refl _) ?_
  · simp only [hw0, List.drop_length, val, Int.mul_zero, go_sem, Int.reduceNegSucc, Nat.reduceAdd, Nat.reduceSub, Nat.reduceMul, Nat.reduceEqDiff, Nat.reduceLeDiff, Nat.reduceLT, Nat.reduceBEq, Nat.reduceBNe, reduceIte, reduceCtorEq, Int.reduceToNat, Int.reduceAdd, Int.reduceSub, Int.reduceMul, Int.reduceNeg, Int.reduceLT, Int.reduceLE, Int.reduceEq, Int.reduceNe, ints, ic, big]
  generalize dig z.natAbs = l at *
  intro n hn
  rcases n with _ | m
  · have hd : decide ((0 : Int) ≤ ((0 : Nat) : Int) - 1) = false := by decide
    have he : z.sign * val (l.drop 0) = z := by rw [List.drop_zero, hz, Int.sign_mul_natAbs]
    rw [he]
    simp only [hd, go_sem, Int.reduceNegSucc, Nat.reduceAdd, Nat.reduceSub, Nat.reduceMul, Nat.reduceEqDiff, Nat.reduceLeDiff, Nat.reduceLT, Nat.reduceBEq, Nat.reduceBNe, reduceIte, reduceCtorEq, Int.reduceToNat, Int.reduceAdd, Int.reduceSub, Int.reduceMul, Int.reduceNeg, Int.reduceLT, Int.reduceLE, Int.reduceEq, Int.reduceNe, ints, ic, big]
  · have h2 : ((m + 1 : Nat) : Int) - 1 = m := by omega
    have hd : decide ((0 : Int) ≤ (m : Int)) = true := decide_eq_true (by omega)
    have hml : (m : Int) < l.length := by omega
    have hx := get_nat (l := l) (i := m) (by omega)
    have hw3 := i64_ok (n := (m : Int) - 1) (by omega)
    have hst := val_drop l m
    have hb0 := drop_bound hok m
    have hb1 := val_nonneg (hok.drop m)
    have hb2 := val_nonneg (hok.drop (m + 1))
    have hdg := hok.dgt m
    rw [hz] at hb0
    have hb3 := sign_bound hb0 hb1 ⟨h1, ‹z ≤ 9223372036854775807›⟩
    have hb4 := sign_bound (z := z) (n := dgt l m) (by omega) hdg.1 ⟨h1, ‹z ≤ 9223372036854775807›⟩
    have hb5 := sign_bound (z := z) (n := val (l.drop (m + 1)) * 1048576) (by omega) (by omega) ⟨h1, ‹z ≤ 9223372036854775807›⟩
    have e1 : z.sign * val (l.drop (m + 1)) * 1048576 + z.sign * dgt l m = z.sign * val (l.drop m) := by
      rw [hst, Int.mul_add, Int.mul_comm 1048576, Int.mul_assoc, Int.add_comm]
    rw [← Int.mul_assoc] at hb5
    have w1 := i64_ok (n := z.sign * val (l.drop (m + 1)) * 1048576) hb5
    have w2 := i64_ok (n := z.sign * dgt l m) hb4
    have w3 := i64_ok (n := z.sign * val (l.drop m)) hb3
    simp only [h2, hd, go_sem, Int.reduceNegSucc, Nat.reduceAdd, Nat.reduceSub, Nat.reduceMul, Nat.reduceEqDiff, Nat.reduceLeDiff, Nat.reduceLT, Nat.reduceBEq, Nat.reduceBNe, reduceIte, reduceCtorEq, Int.reduceToNat, Int.reduceAdd, Int.reduceSub, Int.reduceMul, Int.reduceNeg, Int.reduceLT, Int.reduceLE, Int.reduceEq, Int.reduceNe, ints, ic, big]
    refine DrawP_of 12 (by decide +kernel) ?_
    simp only [h2, List.getElem?_map, hx, w1, w2, hml, go_sem, Int.reduceNegSucc, Nat.reduceAdd, Nat.reduceSub, Nat.reduceMul, Nat.reduceEqDiff, Nat.reduceLeDiff, Nat.reduceLT, Nat.reduceBEq, Nat.reduceBNe, reduceIte, reduceCtorEq, Int.reduceToNat, Int.reduceAdd, Int.reduceSub, Int.reduceMul, Int.reduceNeg, Int.reduceLT, Int.reduceLE, Int.reduceEq, Int.reduceNe, ints, ic, big]
    refine RoundP_of m ?_ (by omega) (by omega)
    simp only [h2, hw3, w1, w2, e1, w3, go_sem, Int.reduceNegSucc, Nat.reduceAdd, Nat.reduceSub, Nat.reduceMul, Nat.reduceEqDiff, Nat.reduceLeDiff, Nat.reduceLT, Nat.reduceBEq, Nat.reduceBNe, reduceIte, reduceCtorEq, Int.reduceToNat, Int.reduceAdd, Int.reduceSub, Int.reduceMul, Int.reduceNeg, Int.reduceLT, Int.reduceLE, Int.reduceEq, Int.reduceNe, ints, ic, big]
end Go.Proofs.Ytpnlfkaijdjhlab

namespace Go.Proofs.Ytpnlfkaijdjhlab
set_option linter.all false
open Go.Abs

theorem divInt_pos {p q : Int} (hq : 0 < q) : (Rat.divInt p q).num = p / (Nat.gcd p.natAbs q.natAbs : Nat) ∧ ((Rat.divInt p q).den : Int) = q / (Nat.gcd p.natAbs q.natAbs : Nat) := by
  have hg : (Int.gcd q p : Nat) = Nat.gcd p.natAbs q.natAbs := Nat.gcd_comm ..
  constructor
  · rw [Rat.num_divInt, Int.sign_eq_one_of_pos hq, Int.one_mul, hg]
  · rw [Rat.den_divInt, if_neg (by omega), hg, Int.natCast_ediv, Int.natAbs_of_nonneg (by omega)]
set_option maxRecDepth 100000 in
set_option maxHeartbeats 1000000 in
theorem t_new (p q : Int) (hq : q ≠ 0) (lp : (dig p.natAbs).length ≤ 40000) (lq : (dig q.natAbs).length ≤ 40000) : Ctr G.P 58 [big p, big q] (· = .tup [frac (Rat.divInt p q), .int 0]) := by
  have rp := t_rightb p (by omega)
  have rq := t_rightb q (by omega)
  have d0 : decide (q.sign = 0) = false := decide_eq_false fun h => hq (Int.sign_eq_zero_iff_zero.1 h)
  have main : ∀ P Q : Int, 0 < Q → (dig P.natAbs).length ≤ 40000 → (dig Q.natAbs).length ≤ 40000 → Rat.divInt P Q = Rat.divInt p q →
      Ctr G.P 62 [big P, big Q] (· = .tup [big (Nat.gcd P.natAbs Q.natAbs : Nat), .int 0]) ∧
      Ctr G.P 64 [big P, big (Nat.gcd P.natAbs Q.natAbs : Nat)] (· = .tup [big (Rat.divInt p q).num, big 0, .int 0]) ∧
      Ctr G.P 64 [big Q, big (Nat.gcd P.natAbs Q.natAbs : Nat)] (· = .tup [big ((Rat.divInt p q).den : Int), big 0, .int 0]) := by
    intro P Q hQ lP lQ he
    obtain ⟨e1, e2⟩ := divInt_pos (p := P) hQ
    rw [he] at e1 e2
    rw [e1, e2]
    have hgp : Nat.gcd P.natAbs Q.natAbs ≠ 0 := fun h => by have := Nat.eq_zero_of_gcd_eq_zero_right h; omega
    have hgl : (dig (Nat.gcd P.natAbs Q.natAbs)).length ≤ 40000 := len_mono (Nat.le_of_dvd (by omega) (Nat.gcd_dvd_right _ _)) lQ
    refine ⟨t_gcd P Q (by omega) (by omega), t_div P _ (by omega) (by rw [Int.natAbs_natCast]; exact Nat.gcd_dvd_left _ _) (by omega) (by rw [Int.natAbs_natCast]; omega),
      t_div Q _ (by omega) (by rw [Int.natAbs_natCast]; exact Nat.gcd_dvd_right _ _) (by omega) (by rw [Int.natAbs_natCast]; omega)⟩
  rcases Int.lt_or_gt_of_ne hq with hlt | hgt
  · have d1 : decide (q.sign < 0) = true := by rw [Int.sign_eq_neg_one_of_neg hlt]; rfl
    have n1 := t_neg p (by omega)
    have n2 := t_neg q (by omega)
    obtain ⟨hg, hd1, hd2⟩ := main (-p) (-q) (by omega) (by rw [Int.natAbs_neg]; exact lp) (by rw [Int.natAbs_neg]; exact lq) (by have := Rat.divInt_mul_right (n := p) (d := q) (a := -1) (by decide); rwa [Int.mul_neg, Int.mul_neg, Int.mul_one, Int.mul_one] at this)
    simp only [big, frac, ints] at rp rq n1 n2 hg hd1 hd2
    refine ctr_go good _ _ [.cell 4 26, .tmp 5] Try.func58 rfl rfl (by decide +kernel) rfl ?_
    simp only [go_sem, Int.reduceNegSucc, Nat.reduceAdd, Nat.reduceSub, Nat.reduceMul, Nat.reduceEqDiff, Nat.reduceLeDiff, Nat.reduceLT, Nat.reduceBEq, Nat.reduceBNe, reduceIte, reduceCtorEq, Int.reduceToNat, Int.reduceAdd, Int.reduceSub, Int.reduceMul, Int.reduceNeg, Int.reduceLT, Int.reduceLE, Int.reduceEq, Int.reduceNe, ints, ic, big, frac]
    refine CallP_eq rp (by decide) ?_
    simp only [go_sem, Int.reduceNegSucc, Nat.reduceAdd, Nat.reduceSub, Nat.reduceMul, Nat.reduceEqDiff, Nat.reduceLeDiff, Nat.reduceLT, Nat.reduceBEq, Nat.reduceBNe, reduceIte, reduceCtorEq, Int.reduceToNat, Int.reduceAdd, Int.reduceSub, Int.reduceMul, Int.reduceNeg, Int.reduceLT, Int.reduceLE, Int.reduceEq, Int.reduceNe, ints, ic, big, frac]
    refine CallP_eq rq (by decide) ?_
    simp only [d0, d1, go_sem, Int.reduceNegSucc, Nat.reduceAdd, Nat.reduceSub, Nat.reduceMul, Nat.reduceEqDiff, Nat.reduceLeDiff, Nat.reduceLT, Nat.reduceBEq, Nat.reduceBNe, reduceIte, reduceCtorEq, Int.reduceToNat, Int.reduceAdd, Int.reduceSub, Int.reduceMul, Int.reduceNeg, Int.reduceLT, Int.reduceLE, Int.reduceEq, Int.reduceNe, ints, ic, big, frac]
    refine CallP_eq n1 (by decide) ?_
    simp only [go_sem, Int.reduceNegSucc, Nat.reduceAdd, Nat.reduceSub, Nat.reduceMul, Nat.reduceEqDiff, Nat.reduceLeDiff, Nat.reduceLT, Nat.reduceBEq, Nat.reduceBNe, reduceIte, reduceCtorEq, Int.reduceToNat, Int.reduceAdd, Int.reduceSub, Int.reduceMul, Int.reduceNeg, Int.reduceLT, Int.reduceLE, Int.reduceEq, Int.reduceNe, ints, ic, big, frac]
    refine CallP_eq n2 (by decide) ?_
    simp only [go_sem, Int.reduceNegSucc, Nat.reduceAdd, Nat.reduceSub, Nat.reduceMul, Nat.reduceEqDiff, Nat.reduceLeDiff, Nat.reduceLT, Nat.reduceBEq, Nat.reduceBNe, reduceIte, reduceCtorEq, Int.reduceToNat, Int.reduceAdd, Int.reduceSub, Int.reduceMul, Int.reduceNeg, Int.reduceLT, Int.reduceLE, Int.reduceEq, Int.reduceNe, ints, ic, big, frac]
    refine CallP_eq hg (by decide) ?_
    simp only [go_sem, Int.reduceNegSucc, Nat.reduceAdd, Nat.reduceSub, Nat.reduceMul, Nat.reduceEqDiff, Nat.reduceLeDiff, Nat.reduceLT, Nat.reduceBEq, Nat.reduceBNe, reduceIte, reduceCtorEq, Int.reduceToNat, Int.reduceAdd, Int.reduceSub, Int.reduceMul, Int.reduceNeg, Int.reduceLT, Int.reduceLE, Int.reduceEq, Int.reduceNe, ints, ic, big, frac]
    refine CallP_eq hd1 (by decide) ?_
    simp only [go_sem, Int.reduceNegSucc, Nat.reduceAdd, Nat.reduceSub, Nat.reduceMul, Nat.reduceEqDiff, Nat.reduceLeDiff, Nat.reduceLT, Nat.reduceBEq, Nat.reduceBNe, reduceIte, reduceCtorEq, Int.reduceToNat, Int.reduceAdd, Int.reduceSub, Int.reduceMul, Int.reduceNeg, Int.reduceLT, Int.reduceLE, Int.reduceEq, Int.reduceNe, ints, ic, big, frac]
    refine CallP_eq hd2 (by decide) ?_
    simp only [go_sem, Int.reduceNegSucc, Nat.reduceAdd, Nat.reduceSub, Nat.reduceMul, Nat.reduceEqDiff, Nat.reduceLeDiff, Nat.reduceLT, Nat.reduceBEq, Nat.reduceBNe, reduceIte, reduceCtorEq, Int.reduceToNat, Int.reduceAdd, Int.reduceSub, Int.reduceMul, Int.reduceNeg, Int.reduceLT, Int.reduceLE, Int.reduceEq, Int.reduceNe, ints, ic, big, frac]
  · have d1 : decide (q.sign < 0) = false := by rw [Int.sign_eq_one_of_pos hgt]; rfl
    obtain ⟨hg, hd1, hd2⟩ := main p q hgt lp lq rfl
    simp only [big, frac, ints] at rp rq hg hd1 hd2
    refine ctr_go good _ _ [.cell 4 26, .tmp 5] Try.func58 rfl rfl (by decide +kernel) rfl ?_
    simp only [go_sem, Int.reduceNegSucc, Nat.reduceAdd, Nat.reduceSub, Nat.reduceMul, Nat.reduceEqDiff, Nat.reduceLeDiff, Nat.reduceLT, Nat.reduceBEq, Nat.reduceBNe, reduceIte, reduceCtorEq, Int.reduceToNat, Int.reduceAdd, Int.reduceSub, Int.reduceMul, Int.reduceNeg, Int.reduceLT, Int.reduceLE, Int.reduceEq, Int.reduceNe, ints, ic, big, frac]
    refine CallP_eq rp (by decide) ?_
    simp only [go_sem, Int.reduceNegSucc, Nat.reduceAdd, Nat.reduceSub, Nat.reduceMul, Nat.reduceEqDiff, Nat.reduceLeDiff, Nat.reduceLT, Nat.reduceBEq, Nat.reduceBNe, reduceIte, reduceCtorEq, Int.reduceToNat, Int.reduceAdd, Int.reduceSub, Int.reduceMul, Int.reduceNeg, Int.reduceLT, Int.reduceLE, Int.reduceEq, Int.reduceNe, ints, ic, big, frac]
    refine CallP_eq rq (by decide) ?_
    simp only [d0, d1, go_sem, Int.reduceNegSucc, Nat.reduceAdd, Nat.reduceSub, Nat.reduceMul, Nat.reduceEqDiff, Nat.reduceLeDiff, Nat.reduceLT, Nat.reduceBEq, Nat.reduceBNe, reduceIte, reduceCtorEq, Int.reduceToNat, Int.reduceAdd, Int.reduceSub, Int.reduceMul, Int.reduceNeg, Int.reduceLT, Int.reduceLE, Int.reduceEq, Int.reduceNe, ints, ic, big, frac]
    refine CallP_eq hg (by decide) ?_
    simp only [go_sem, Int.reduceNegSucc, Nat.reduceAdd, Nat.reduceSub, Nat.reduceMul, Nat.reduceEqDiff, Nat.reduceLeDiff, Nat.reduceLT, Nat.reduceBEq, Nat.reduceBNe, reduceIte, reduceCtorEq, Int.reduceToNat, Int.reduceAdd, Int.reduceSub, Int.reduceMul, Int.reduceNeg, Int.reduceLT, Int.reduceLE, Int.reduceEq, Int.reduceNe, ints, ic, big, frac]
    refine CallP_eq hd1 (by decide) ?_
    simp only [go_sem, Int.reduceNegSucc, Nat.reduceAdd, Nat.reduceSub, Nat.reduceMul, Nat.reduceEqDiff, Nat.reduceLeDiff, Nat.reduceLT, Nat.reduceBEq, Nat.reduceBNe, reduceIte, reduceCtorEq, Int.reduceToNat, Int.reduceAdd, Int.reduceSub, Int.reduceMul, Int.reduceNeg, Int.reduceLT, Int.reduceLE, Int.reduceEq, Int.reduceNe, ints, ic, big, frac]
    refine CallP_eq hd2 (by decide) ?_
    simp only [go_sem, Int.reduceNegSucc, Nat.reduceAdd, Nat.reduceSub, Nat.reduceMul, Nat.reduceEqDiff, Nat.reduceLeDiff, Nat.reduceLT, Nat.reduceBEq, Nat.reduceBNe, reduceIte, reduceCtorEq, Int.reduceToNat, Int.reduceAdd, Int.reduceSub, Int.reduceMul, Int.reduceNeg, Int.reduceLT, Int.reduceLE, Int.reduceEq, Int.reduceNe, ints, ic, big, frac]
end Go.Proofs.Ytpnlfkaijdjhlab

namespace Go.Proofs.Ytpnlfkaijdjhlab
set_option linter.all false
open Go.Abs

set_option maxRecDepth 100000 in
theorem t_floorf (r : Rat) (lp : (dig r.num.natAbs).length ≤ 50000) (lq : (dig r.den).length ≤ 50000) : Ctr G.P 42 [frac r] (· = big (r.num.fdiv r.den)) := by
  have h := t_rightf r lp lq
  have hd := t_divf r.num r.den (by have := r.den_pos; omega) lp (by rw [Int.natAbs_natCast]; exact lq)
  simp only [big, ints] at hd
  refine ctr_go good _ _ [.cell 2 24] Try.func42 rfl rfl (by decide +kernel) rfl ?_
  simp only [go_sem, Int.reduceNegSucc, Nat.reduceAdd, Nat.reduceSub, Nat.reduceMul, Nat.reduceEqDiff, Nat.reduceLeDiff, Nat.reduceLT, Nat.reduceBEq, Nat.reduceBNe, reduceIte, reduceCtorEq, Int.reduceToNat, Int.reduceAdd, Int.reduceSub, Int.reduceMul, Int.reduceNeg, Int.reduceLT, Int.reduceLE, Int.reduceEq, Int.reduceNe, ints, ic, big, frac]
  refine CallP_eq h (by decide) ?_
  simp only [go_sem, Int.reduceNegSucc, Nat.reduceAdd, Nat.reduceSub, Nat.reduceMul, Nat.reduceEqDiff, Nat.reduceLeDiff, Nat.reduceLT, Nat.reduceBEq, Nat.reduceBNe, reduceIte, reduceCtorEq, Int.reduceToNat, Int.reduceAdd, Int.reduceSub, Int.reduceMul, Int.reduceNeg, Int.reduceLT, Int.reduceLE, Int.reduceEq, Int.reduceNe, ints, ic, big, frac]
  refine CallP_eq hd (by decide) ?_
  simp only [go_sem, Int.reduceNegSucc, Nat.reduceAdd, Nat.reduceSub, Nat.reduceMul, Nat.reduceEqDiff, Nat.reduceLeDiff, Nat.reduceLT, Nat.reduceBEq, Nat.reduceBNe, reduceIte, reduceCtorEq, Int.reduceToNat, Int.reduceAdd, Int.reduceSub, Int.reduceMul, Int.reduceNeg, Int.reduceLT, Int.reduceLE, Int.reduceEq, Int.reduceNe, ints, ic, big, frac]
end Go.Proofs.Ytpnlfkaijdjhlab

namespace Go.Proofs.Ytpnlfkaijdjhlab
set_option linter.all false
open Go.Abs

theorem i64_len {z : Int} (h : -9223372036854775808 ≤ z ∧ z ≤ 9223372036854775807) : (dig z.natAbs).length ≤ 4 := dig_len_le (by omega)
theorem t_off (p q : Int) (hq : q ≠ 0) (hp : -9223372036854775808 ≤ p ∧ p ≤ 9223372036854775807) (hq' : -9223372036854775808 ≤ q ∧ q ≤ 9223372036854775807) :
    Ctr G.P 31 [.int p, .int q] (· = .tup [frac (Rat.divInt p q), .int 0]) := by
  have h1 := t_of p hp
  have h2 := t_of q hq'
  have h3 := t_new p q hq (by have := i64_len hp; omega) (by have := i64_len hq'; omega)
  simp only [big, frac, ints] at h1 h2 h3
  refine ctr_go good _ _ [.cell 4 26, .tmp 5] Try.func31 rfl rfl (by decide +kernel) rfl ?_
  simp only [go_sem, Int.reduceNegSucc, Nat.reduceAdd, Nat.reduceSub, Nat.reduceMul, Nat.reduceEqDiff, Nat.reduceLeDiff, Nat.reduceLT, Nat.reduceBEq, Nat.reduceBNe, reduceIte, reduceCtorEq, Int.reduceToNat, Int.reduceAdd, Int.reduceSub, Int.reduceMul, Int.reduceNeg, Int.reduceLT, Int.reduceLE, Int.reduceEq, Int.reduceNe, ints, ic, big, frac]
  refine CallP_eq h1 (by decide) ?_
  simp only [go_sem, Int.reduceNegSucc, Nat.reduceAdd, Nat.reduceSub, Nat.reduceMul, Nat.reduceEqDiff, Nat.reduceLeDiff, Nat.reduceLT, Nat.reduceBEq, Nat.reduceBNe, reduceIte, reduceCtorEq, Int.reduceToNat, Int.reduceAdd, Int.reduceSub, Int.reduceMul, Int.reduceNeg, Int.reduceLT, Int.reduceLE, Int.reduceEq, Int.reduceNe, ints, ic, big, frac]
  refine CallP_eq h2 (by decide) ?_
  simp only [go_sem, Int.reduceNegSucc, Nat.reduceAdd, Nat.reduceSub, Nat.reduceMul, Nat.reduceEqDiff, Nat.reduceLeDiff, Nat.reduceLT, Nat.reduceBEq, Nat.reduceBNe, reduceIte, reduceCtorEq, Int.reduceToNat, Int.reduceAdd, Int.reduceSub, Int.reduceMul, Int.reduceNeg, Int.reduceLT, Int.reduceLE, Int.reduceEq, Int.reduceNe, ints, ic, big, frac]
  refine CallP_eq h3 (by decide) ?_
  simp only [go_sem, Int.reduceNegSucc, Nat.reduceAdd, Nat.reduceSub, Nat.reduceMul, Nat.reduceEqDiff, Nat.reduceLeDiff, Nat.reduceLT, Nat.reduceBEq, Nat.reduceBNe, reduceIte, reduceCtorEq, Int.reduceToNat, Int.reduceAdd, Int.reduceSub, Int.reduceMul, Int.reduceNeg, Int.reduceLT, Int.reduceLE, Int.reduceEq, Int.reduceNe, ints, ic, big, frac]
theorem t_intf (n : Int) (hn : -9223372036854775808 ≤ n ∧ n ≤ 9223372036854775807) : Ctr G.P 22 [.int n] (· = frac (Rat.divInt n 1)) := by
  have h := t_off n 1 (by omega) hn (by omega)
  simp only [frac, ints] at h
  refine ctr_go good _ _ [.cell 2 26] Try.func22 rfl rfl (by decide +kernel) rfl ?_
  simp only [go_sem, Int.reduceNegSucc, Nat.reduceAdd, Nat.reduceSub, Nat.reduceMul, Nat.reduceEqDiff, Nat.reduceLeDiff, Nat.reduceLT, Nat.reduceBEq, Nat.reduceBNe, reduceIte, reduceCtorEq, Int.reduceToNat, Int.reduceAdd, Int.reduceSub, Int.reduceMul, Int.reduceNeg, Int.reduceLT, Int.reduceLE, Int.reduceEq, Int.reduceNe, ints, ic, big, frac]
  refine CallP_eq h (by decide) ?_
  simp only [go_sem, Int.reduceNegSucc, Nat.reduceAdd, Nat.reduceSub, Nat.reduceMul, Nat.reduceEqDiff, Nat.reduceLeDiff, Nat.reduceLT, Nat.reduceBEq, Nat.reduceBNe, reduceIte, reduceCtorEq, Int.reduceToNat, Int.reduceAdd, Int.reduceSub, Int.reduceMul, Int.reduceNeg, Int.reduceLT, Int.reduceLE, Int.reduceEq, Int.reduceNe, ints, ic, big, frac]
theorem t_signf (r : Rat) (lp : (dig r.num.natAbs).length ≤ 50000) (lq : (dig r.den).length ≤ 50000) : Ctr G.P 40 [frac r] (· = .int r.num.sign) := by
  have h := t_rightf r lp lq
  simp only [frac, ints] at h
  refine ctr_go good _ _ [.tmp 2] Try.func40 rfl rfl (by decide +kernel) rfl ?_
  simp only [go_sem, Int.reduceNegSucc, Nat.reduceAdd, Nat.reduceSub, Nat.reduceMul, Nat.reduceEqDiff, Nat.reduceLeDiff, Nat.reduceLT, Nat.reduceBEq, Nat.reduceBNe, reduceIte, reduceCtorEq, Int.reduceToNat, Int.reduceAdd, Int.reduceSub, Int.reduceMul, Int.reduceNeg, Int.reduceLT, Int.reduceLE, Int.reduceEq, Int.reduceNe, ints, ic, big, frac]
  refine CallP_eq h (by decide) ?_
  simp only [go_sem, Int.reduceNegSucc, Nat.reduceAdd, Nat.reduceSub, Nat.reduceMul, Nat.reduceEqDiff, Nat.reduceLeDiff, Nat.reduceLT, Nat.reduceBEq, Nat.reduceBNe, reduceIte, reduceCtorEq, Int.reduceToNat, Int.reduceAdd, Int.reduceSub, Int.reduceMul, Int.reduceNeg, Int.reduceLT, Int.reduceLE, Int.reduceEq, Int.reduceNe, ints, ic, big, frac]
theorem frac_neg (r : Rat) : frac (-r) = .agg [.int (-r.num).sign, ints (dig (-r.num).natAbs), .int (r.den : Int).sign, ints (dig (r.den : Int).natAbs)] := by
  have h1 : (-r).num = -r.num := rfl
  have h2 : (-r).den = r.den := rfl
  rw [frac, h1, h2]
end Go.Proofs.Ytpnlfkaijdjhlab

namespace Go.Proofs.Ytpnlfkaijdjhlab
set_option linter.all false
open Go.Abs

def flr (r : Rat) : Int := r.num.fdiv r.den
def centsN (n : Int) (ok : Bool) (limit : Int) : Int := min (min (if ok = true then n else 1125899906842624) (if limit < 0 then 1125899906842624 else limit)) 1125899906842624
def centsR (r : Rat) (limit : Int) : Int := if r.num.sign < 0 then 0 else centsN (intF (flr r)) (fits (flr r)) limit
theorem len_flr {r : Rat} (lp : (dig r.num.natAbs).length ≤ 50000) : (dig (flr r).natAbs).length ≤ 1000000 := by
  have := len_fdiv (a := r.num) (b := r.den) (by have := r.den_pos; omega) lp
  unfold flr; omega
set_option maxRecDepth 100000 in
theorem t_pcents0 (s t : Int) (l m : List Int) (limit : Int) (hl : l.length ≤ 50000) (hm : m.length ≤ 50000) (h : fracF s l t m = false) : Ctr G.P 13 [.agg [.int s, ints l, .int t, ints m], .int limit] (· = .int 0) := by
  have hr := t_pfright s t l m hl hm
  rw [h] at hr
  refine ctr_go good _ _ [.tmp 4] Try.func13 rfl rfl (by decide +kernel) rfl ?_
  simp only [go_sem, Int.reduceNegSucc, Nat.reduceAdd, Nat.reduceSub, Nat.reduceMul, Nat.reduceEqDiff, Nat.reduceLeDiff, Nat.reduceLT, Nat.reduceBEq, Nat.reduceBNe, reduceIte, reduceCtorEq, Int.reduceToNat, Int.reduceAdd, Int.reduceSub, Int.reduceMul, Int.reduceNeg, Int.reduceLT, Int.reduceLE, Int.reduceEq, Int.reduceNe, ints, ic, big, frac]
  refine CallP_eq hr (by decide) ?_
  simp only [go_sem, Int.reduceNegSucc, Nat.reduceAdd, Nat.reduceSub, Nat.reduceMul, Nat.reduceEqDiff, Nat.reduceLeDiff, Nat.reduceLT, Nat.reduceBEq, Nat.reduceBNe, reduceIte, reduceCtorEq, Int.reduceToNat, Int.reduceAdd, Int.reduceSub, Int.reduceMul, Int.reduceNeg, Int.reduceLT, Int.reduceLE, Int.reduceEq, Int.reduceNe, ints, ic, big, frac]
set_option maxRecDepth 100000 in
theorem t_cents0 (s t : Int) (l m : List Int) (limit : Int) (hl : l.length ≤ 50000) (hm : m.length ≤ 50000) (h : fracF s l t m = false) : Ctr G.P 14 [.agg [.int s, ints l, .int t, ints m], .int limit] (· = .int 0) := by
  have hr := t_fright s t l m hl hm
  rw [h] at hr
  refine ctr_go good _ _ [.tmp 4] Try.func14 rfl rfl (by decide +kernel) rfl ?_
  simp only [go_sem, Int.reduceNegSucc, Nat.reduceAdd, Nat.reduceSub, Nat.reduceMul, Nat.reduceEqDiff, Nat.reduceLeDiff, Nat.reduceLT, Nat.reduceBEq, Nat.reduceBNe, reduceIte, reduceCtorEq, Int.reduceToNat, Int.reduceAdd, Int.reduceSub, Int.reduceMul, Int.reduceNeg, Int.reduceLT, Int.reduceLE, Int.reduceEq, Int.reduceNe, ints, ic, big, frac]
  refine CallP_eq hr (by decide) ?_
  simp only [go_sem, Int.reduceNegSucc, Nat.reduceAdd, Nat.reduceSub, Nat.reduceMul, Nat.reduceEqDiff, Nat.reduceLeDiff, Nat.reduceLT, Nat.reduceBEq, Nat.reduceBNe, reduceIte, reduceCtorEq, Int.reduceToNat, Int.reduceAdd, Int.reduceSub, Int.reduceMul, Int.reduceNeg, Int.reduceLT, Int.reduceLE, Int.reduceEq, Int.reduceNe, ints, ic, big, frac]
set_option maxRecDepth 100000 in
theorem t_pcents (r : Rat) (limit : Int) (lp : (dig r.num.natAbs).length ≤ 50000) (lq : (dig r.den).length ≤ 50000) : Ctr G.P 13 [frac r, .int limit] (· = .int (centsR r limit)) := by
  have hr := t_prightf r lp lq
  have hs := t_psignf r lp lq
  have hf := t_pfloor r lp lq
  have hi := t_pint (flr r) (len_flr lp)
  rw [show r.num.fdiv r.den = flr r from rfl] at hf
  simp only [big, ints] at hf hi
  by_cases h1 : r.num.sign < 0
  · have d1 : decide (r.num.sign < 0) = true := decide_eq_true h1
    rw [centsR, if_pos h1]
    refine ctr_go good _ _ [.tmp 4] Try.func13 rfl rfl (by decide +kernel) rfl ?_
    simp only [go_sem, Int.reduceNegSucc, Nat.reduceAdd, Nat.reduceSub, Nat.reduceMul, Nat.reduceEqDiff, Nat.reduceLeDiff, Nat.reduceLT, Nat.reduceBEq, Nat.reduceBNe, reduceIte, reduceCtorEq, Int.reduceToNat, Int.reduceAdd, Int.reduceSub, Int.reduceMul, Int.reduceNeg, Int.reduceLT, Int.reduceLE, Int.reduceEq, Int.reduceNe, ints, ic, big, frac]
    refine CallP_eq hr (by decide) ?_
    simp only [go_sem, Int.reduceNegSucc, Nat.reduceAdd, Nat.reduceSub, Nat.reduceMul, Nat.reduceEqDiff, Nat.reduceLeDiff, Nat.reduceLT, Nat.reduceBEq, Nat.reduceBNe, reduceIte, reduceCtorEq, Int.reduceToNat, Int.reduceAdd, Int.reduceSub, Int.reduceMul, Int.reduceNeg, Int.reduceLT, Int.reduceLE, Int.reduceEq, Int.reduceNe, ints, ic, big, frac]
    refine CallP_eq hs (by decide) ?_
    simp only [d1, go_sem, Int.reduceNegSucc, Nat.reduceAdd, Nat.reduceSub, Nat.reduceMul, Nat.reduceEqDiff, Nat.reduceLeDiff, Nat.reduceLT, Nat.reduceBEq, Nat.reduceBNe, reduceIte, reduceCtorEq, Int.reduceToNat, Int.reduceAdd, Int.reduceSub, Int.reduceMul, Int.reduceNeg, Int.reduceLT, Int.reduceLE, Int.reduceEq, Int.reduceNe, ints, ic, big, frac]
  · have d1 : decide (r.num.sign < 0) = false := decide_eq_false h1
    rw [centsR, if_neg h1]
    by_cases h2 : limit < 0
    · have d2 : decide (limit < 0) = true := decide_eq_true h2
      rw [centsN, if_pos h2]
      refine ctr_go good _ _ [.tmp 4] Try.func13 rfl rfl (by decide +kernel) rfl ?_
      simp only [go_sem, Int.reduceNegSucc, Nat.reduceAdd, Nat.reduceSub, Nat.reduceMul, Nat.reduceEqDiff, Nat.reduceLeDiff, Nat.reduceLT, Nat.reduceBEq, Nat.reduceBNe, reduceIte, reduceCtorEq, Int.reduceToNat, Int.reduceAdd, Int.reduceSub, Int.reduceMul, Int.reduceNeg, Int.reduceLT, Int.reduceLE, Int.reduceEq, Int.reduceNe, ints, ic, big, frac]
      refine CallP_eq hr (by decide) ?_
      simp only [go_sem, Int.reduceNegSucc, Nat.reduceAdd, Nat.reduceSub, Nat.reduceMul, Nat.reduceEqDiff, Nat.reduceLeDiff, Nat.reduceLT, Nat.reduceBEq, Nat.reduceBNe, reduceIte, reduceCtorEq, Int.reduceToNat, Int.reduceAdd, Int.reduceSub, Int.reduceMul, Int.reduceNeg, Int.reduceLT, Int.reduceLE, Int.reduceEq, Int.reduceNe, ints, ic, big, frac]
      refine CallP_eq hs (by decide) ?_
      simp only [d1, d2, go_sem, Int.reduceNegSucc, Nat.reduceAdd, Nat.reduceSub, Nat.reduceMul, Nat.reduceEqDiff, Nat.reduceLeDiff, Nat.reduceLT, Nat.reduceBEq, Nat.reduceBNe, reduceIte, reduceCtorEq, Int.reduceToNat, Int.reduceAdd, Int.reduceSub, Int.reduceMul, Int.reduceNeg, Int.reduceLT, Int.reduceLE, Int.reduceEq, Int.reduceNe, ints, ic, big, frac]
      refine CallP_eq hf (by decide) ?_
      simp only [go_sem, Int.reduceNegSucc, Nat.reduceAdd, Nat.reduceSub, Nat.reduceMul, Nat.reduceEqDiff, Nat.reduceLeDiff, Nat.reduceLT, Nat.reduceBEq, Nat.reduceBNe, reduceIte, reduceCtorEq, Int.reduceToNat, Int.reduceAdd, Int.reduceSub, Int.reduceMul, Int.reduceNeg, Int.reduceLT, Int.reduceLE, Int.reduceEq, Int.reduceNe, ints, ic, big, frac]
      refine CallP_eq hi (by decide) ?_
      simp only [go_sem, Int.reduceNegSucc, Nat.reduceAdd, Nat.reduceSub, Nat.reduceMul, Nat.reduceEqDiff, Nat.reduceLeDiff, Nat.reduceLT, Nat.reduceBEq, Nat.reduceBNe, reduceIte, reduceCtorEq, Int.reduceToNat, Int.reduceAdd, Int.reduceSub, Int.reduceMul, Int.reduceNeg, Int.reduceLT, Int.reduceLE, Int.reduceEq, Int.reduceNe, ints, ic, big, frac]
      refine Two_of (fun d3 => ?_) (fun d3 => ?_)
      · simp only [d3, if_pos, go_sem, Int.reduceNegSucc, Nat.reduceAdd, Nat.reduceSub, Nat.reduceMul, Nat.reduceEqDiff, Nat.reduceLeDiff, Nat.reduceLT, Nat.reduceBEq, Nat.reduceBNe, reduceIte, reduceCtorEq, Int.reduceToNat, Int.reduceAdd, Int.reduceSub, Int.reduceMul, Int.reduceNeg, Int.reduceLT, Int.reduceLE, Int.reduceEq, Int.reduceNe, ints, ic, big, frac]
      · simp only [d3, if_neg, go_sem, Int.reduceNegSucc, Nat.reduceAdd, Nat.reduceSub, Nat.reduceMul, Nat.reduceEqDiff, Nat.reduceLeDiff, Nat.reduceLT, Nat.reduceBEq, Nat.reduceBNe, reduceIte, reduceCtorEq, Int.reduceToNat, Int.reduceAdd, Int.reduceSub, Int.reduceMul, Int.reduceNeg, Int.reduceLT, Int.reduceLE, Int.reduceEq, Int.reduceNe, ints, ic, big, frac]
    · have d2 : decide (limit < 0) = false := decide_eq_false h2
      rw [centsN, if_neg h2]
      refine ctr_go good _ _ [.tmp 4] Try.func13 rfl rfl (by decide +kernel) rfl ?_
      simp only [go_sem, Int.reduceNegSucc, Nat.reduceAdd, Nat.reduceSub, Nat.reduceMul, Nat.reduceEqDiff, Nat.reduceLeDiff, Nat.reduceLT, Nat.reduceBEq, Nat.reduceBNe, reduceIte, reduceCtorEq, Int.reduceToNat, Int.reduceAdd, Int.reduceSub, Int.reduceMul, Int.reduceNeg, Int.reduceLT, Int.reduceLE, Int.reduceEq, Int.reduceNe, ints, ic, big, frac]
      refine CallP_eq hr (by decide) ?_
      simp only [go_sem, Int.reduceNegSucc, Nat.reduceAdd, Nat.reduceSub, Nat.reduceMul, Nat.reduceEqDiff, Nat.reduceLeDiff, Nat.reduceLT, Nat.reduceBEq, Nat.reduceBNe, reduceIte, reduceCtorEq, Int.reduceToNat, Int.reduceAdd, Int.reduceSub, Int.reduceMul, Int.reduceNeg, Int.reduceLT, Int.reduceLE, Int.reduceEq, Int.reduceNe, ints, ic, big, frac]
      refine CallP_eq hs (by decide) ?_
      simp only [d1, d2, go_sem, Int.reduceNegSucc, Nat.reduceAdd, Nat.reduceSub, Nat.reduceMul, Nat.reduceEqDiff, Nat.reduceLeDiff, Nat.reduceLT, Nat.reduceBEq, Nat.reduceBNe, reduceIte, reduceCtorEq, Int.reduceToNat, Int.reduceAdd, Int.reduceSub, Int.reduceMul, Int.reduceNeg, Int.reduceLT, Int.reduceLE, Int.reduceEq, Int.reduceNe, ints, ic, big, frac]
      refine CallP_eq hf (by decide) ?_
      simp only [go_sem, Int.reduceNegSucc, Nat.reduceAdd, Nat.reduceSub, Nat.reduceMul, Nat.reduceEqDiff, Nat.reduceLeDiff, Nat.reduceLT, Nat.reduceBEq, Nat.reduceBNe, reduceIte, reduceCtorEq, Int.reduceToNat, Int.reduceAdd, Int.reduceSub, Int.reduceMul, Int.reduceNeg, Int.reduceLT, Int.reduceLE, Int.reduceEq, Int.reduceNe, ints, ic, big, frac]
      refine CallP_eq hi (by decide) ?_
      simp only [go_sem, Int.reduceNegSucc, Nat.reduceAdd, Nat.reduceSub, Nat.reduceMul, Nat.reduceEqDiff, Nat.reduceLeDiff, Nat.reduceLT, Nat.reduceBEq, Nat.reduceBNe, reduceIte, reduceCtorEq, Int.reduceToNat, Int.reduceAdd, Int.reduceSub, Int.reduceMul, Int.reduceNeg, Int.reduceLT, Int.reduceLE, Int.reduceEq, Int.reduceNe, ints, ic, big, frac]
      refine Two_of (fun d3 => ?_) (fun d3 => ?_)
      · simp only [d3, if_pos, go_sem, Int.reduceNegSucc, Nat.reduceAdd, Nat.reduceSub, Nat.reduceMul, Nat.reduceEqDiff, Nat.reduceLeDiff, Nat.reduceLT, Nat.reduceBEq, Nat.reduceBNe, reduceIte, reduceCtorEq, Int.reduceToNat, Int.reduceAdd, Int.reduceSub, Int.reduceMul, Int.reduceNeg, Int.reduceLT, Int.reduceLE, Int.reduceEq, Int.reduceNe, ints, ic, big, frac]
      · simp only [d3, if_neg, go_sem, Int.reduceNegSucc, Nat.reduceAdd, Nat.reduceSub, Nat.reduceMul, Nat.reduceEqDiff, Nat.reduceLeDiff, Nat.reduceLT, Nat.reduceBEq, Nat.reduceBNe, reduceIte, reduceCtorEq, Int.reduceToNat, Int.reduceAdd, Int.reduceSub, Int.reduceMul, Int.reduceNeg, Int.reduceLT, Int.reduceLE, Int.reduceEq, Int.reduceNe, ints, ic, big, frac]
theorem cents_le {n limit : Int} {ok : Bool} (h1 : ok = false ∨ 1125899906842624 < n) : (0 ≤ limit → 1125899906842624 ≤ limit → centsN n ok limit = 1125899906842624) ∧ (0 ≤ limit → limit < 1125899906842624 → centsN n ok limit = limit) ∧ (limit < 0 → centsN n ok limit = 1125899906842624) := by
  unfold centsN
  rcases h1 with h | h
  · subst h
    refine ⟨fun h1 h2 => ?_, fun h1 h2 => ?_, fun h1 => ?_⟩ <;> simp only [Bool.false_eq_true, if_false] <;> (try split) <;> omega
  · refine ⟨fun h1 h2 => ?_, fun h1 h2 => ?_, fun h1 => ?_⟩ <;> split <;> (try split) <;> omega
theorem cents_in {n limit : Int} (h1 : n ≤ 1125899906842624) : (0 ≤ limit → n ≤ limit → centsN n true limit = n) ∧ (0 ≤ limit → limit < n → centsN n true limit = limit) ∧ (limit < 0 → centsN n true limit = n) := by
  unfold centsN
  refine ⟨fun h1 h2 => ?_, fun h1 h2 => ?_, fun h1 => ?_⟩ <;> simp only [if_true] <;> (try split) <;> omega
set_option maxRecDepth 100000 in
theorem t_cents (r : Rat) (limit : Int) (lp : (dig r.num.natAbs).length ≤ 50000) (lq : (dig r.den).length ≤ 50000) : Ctr G.P 14 [frac r, .int limit] (· = .int (centsR r limit)) := by
  have hr := t_rightf r lp lq
  have hs := t_signf r lp lq
  have hf := t_floorf r lp lq
  have hi := t_int (flr r) (len_flr lp)
  rw [show r.num.fdiv r.den = flr r from rfl] at hf
  simp only [big, ints] at hf hi
  by_cases h1 : r.num.sign < 0
  · have d1 : decide (r.num.sign < 0) = true := decide_eq_true h1
    rw [centsR, if_pos h1]
    refine ctr_go good _ _ [.tmp 4] Try.func14 rfl rfl (by decide +kernel) rfl ?_
    simp only [go_sem, Int.reduceNegSucc, Nat.reduceAdd, Nat.reduceSub, Nat.reduceMul, Nat.reduceEqDiff, Nat.reduceLeDiff, Nat.reduceLT, Nat.reduceBEq, Nat.reduceBNe, reduceIte, reduceCtorEq, Int.reduceToNat, Int.reduceAdd, Int.reduceSub, Int.reduceMul, Int.reduceNeg, Int.reduceLT, Int.reduceLE, Int.reduceEq, Int.reduceNe, ints, ic, big, frac]
    refine CallP_eq hr (by decide) ?_
    simp only [go_sem, Int.reduceNegSucc, Nat.reduceAdd, Nat.reduceSub, Nat.reduceMul, Nat.reduceEqDiff, Nat.reduceLeDiff, Nat.reduceLT, Nat.reduceBEq, Nat.reduceBNe, reduceIte, reduceCtorEq, Int.reduceToNat, Int.reduceAdd, Int.reduceSub, Int.reduceMul, Int.reduceNeg, Int.reduceLT, Int.reduceLE, Int.reduceEq, Int.reduceNe, ints, ic, big, frac]
    refine CallP_eq hs (by decide) ?_
    simp only [d1, go_sem, Int.reduceNegSucc, Nat.reduceAdd, Nat.reduceSub, Nat.reduceMul, Nat.reduceEqDiff, Nat.reduceLeDiff, Nat.reduceLT, Nat.reduceBEq, Nat.reduceBNe, reduceIte, reduceCtorEq, Int.reduceToNat, Int.reduceAdd, Int.reduceSub, Int.reduceMul, Int.reduceNeg, Int.reduceLT, Int.reduceLE, Int.reduceEq, Int.reduceNe, ints, ic, big, frac]
  · have d1 : decide (r.num.sign < 0) = false := decide_eq_false h1
    rw [centsR, if_neg h1]
    generalize intF (flr r) = n at *
    generalize fits (flr r) = ok at *
    by_cases h2 : ok = false ∨ 1125899906842624 < n
    · obtain ⟨c1, c2, c3⟩ := cents_le (limit := limit) h2
      have hb : (!ok || decide (1125899906842624 < n)) = true := by
        rcases h2 with h | h
        · rw [h]; rfl
        · rw [decide_eq_true h, Bool.or_true]
      refine ctr_go good _ _ [.tmp 4] Try.func14 rfl rfl (by decide +kernel) rfl ?_
      simp only [go_sem, Int.reduceNegSucc, Nat.reduceAdd, Nat.reduceSub, Nat.reduceMul, Nat.reduceEqDiff, Nat.reduceLeDiff, Nat.reduceLT, Nat.reduceBEq, Nat.reduceBNe, reduceIte, reduceCtorEq, Int.reduceToNat, Int.reduceAdd, Int.reduceSub, Int.reduceMul, Int.reduceNeg, Int.reduceLT, Int.reduceLE, Int.reduceEq, Int.reduceNe, ints, ic, big, frac]
      refine CallP_eq hr (by decide) ?_
      simp only [go_sem, Int.reduceNegSucc, Nat.reduceAdd, Nat.reduceSub, Nat.reduceMul, Nat.reduceEqDiff, Nat.reduceLeDiff, Nat.reduceLT, Nat.reduceBEq, Nat.reduceBNe, reduceIte, reduceCtorEq, Int.reduceToNat, Int.reduceAdd, Int.reduceSub, Int.reduceMul, Int.reduceNeg, Int.reduceLT, Int.reduceLE, Int.reduceEq, Int.reduceNe, ints, ic, big, frac]
      refine CallP_eq hs (by decide) ?_
      simp only [d1, go_sem, Int.reduceNegSucc, Nat.reduceAdd, Nat.reduceSub, Nat.reduceMul, Nat.reduceEqDiff, Nat.reduceLeDiff, Nat.reduceLT, Nat.reduceBEq, Nat.reduceBNe, reduceIte, reduceCtorEq, Int.reduceToNat, Int.reduceAdd, Int.reduceSub, Int.reduceMul, Int.reduceNeg, Int.reduceLT, Int.reduceLE, Int.reduceEq, Int.reduceNe, ints, ic, big, frac]
      refine CallP_eq hf (by decide) ?_
      simp only [go_sem, Int.reduceNegSucc, Nat.reduceAdd, Nat.reduceSub, Nat.reduceMul, Nat.reduceEqDiff, Nat.reduceLeDiff, Nat.reduceLT, Nat.reduceBEq, Nat.reduceBNe, reduceIte, reduceCtorEq, Int.reduceToNat, Int.reduceAdd, Int.reduceSub, Int.reduceMul, Int.reduceNeg, Int.reduceLT, Int.reduceLE, Int.reduceEq, Int.reduceNe, ints, ic, big, frac]
      refine CallP_eq hi (by decide) ?_
      simp only [go_sem, Int.reduceNegSucc, Nat.reduceAdd, Nat.reduceSub, Nat.reduceMul, Nat.reduceEqDiff, Nat.reduceLeDiff, Nat.reduceLT, Nat.reduceBEq, Nat.reduceBNe, reduceIte, reduceCtorEq, Int.reduceToNat, Int.reduceAdd, Int.reduceSub, Int.reduceMul, Int.reduceNeg, Int.reduceLT, Int.reduceLE, Int.reduceEq, Int.reduceNe, ints, ic, big, frac]
      refine Two_of (fun d3 => ?_) (fun d3 => ?_)
      · have d4 : decide (1125899906842624 < n) = true := decide_eq_true (h2.resolve_left (by rw [d3]; decide))
        simp only [d3, d4, go_sem, Int.reduceNegSucc, Nat.reduceAdd, Nat.reduceSub, Nat.reduceMul, Nat.reduceEqDiff, Nat.reduceLeDiff, Nat.reduceLT, Nat.reduceBEq, Nat.reduceBNe, reduceIte, reduceCtorEq, Int.reduceToNat, Int.reduceAdd, Int.reduceSub, Int.reduceMul, Int.reduceNeg, Int.reduceLT, Int.reduceLE, Int.reduceEq, Int.reduceNe, ints, ic, big, frac]
        refine Two_dec (fun d5 d5' => ?_) (fun d5 d5' => ?_)
        · simp only [d5, go_sem, Int.reduceNegSucc, Nat.reduceAdd, Nat.reduceSub, Nat.reduceMul, Nat.reduceEqDiff, Nat.reduceLeDiff, Nat.reduceLT, Nat.reduceBEq, Nat.reduceBNe, reduceIte, reduceCtorEq, Int.reduceToNat, Int.reduceAdd, Int.reduceSub, Int.reduceMul, Int.reduceNeg, Int.reduceLT, Int.reduceLE, Int.reduceEq, Int.reduceNe, ints, ic, big, frac]
          refine Two_dec (fun d6 d6' => ?_) (fun d6 d6' => ?_)
          · rw [c2 d5' (by omega)]
            simp only [go_sem, Int.reduceNegSucc, Nat.reduceAdd, Nat.reduceSub, Nat.reduceMul, Nat.reduceEqDiff, Nat.reduceLeDiff, Nat.reduceLT, Nat.reduceBEq, Nat.reduceBNe, reduceIte, reduceCtorEq, Int.reduceToNat, Int.reduceAdd, Int.reduceSub, Int.reduceMul, Int.reduceNeg, Int.reduceLT, Int.reduceLE, Int.reduceEq, Int.reduceNe, ints, ic, big, frac]
          · rw [c1 d5' (by omega)]
            simp only [go_sem, Int.reduceNegSucc, Nat.reduceAdd, Nat.reduceSub, Nat.reduceMul, Nat.reduceEqDiff, Nat.reduceLeDiff, Nat.reduceLT, Nat.reduceBEq, Nat.reduceBNe, reduceIte, reduceCtorEq, Int.reduceToNat, Int.reduceAdd, Int.reduceSub, Int.reduceMul, Int.reduceNeg, Int.reduceLT, Int.reduceLE, Int.reduceEq, Int.reduceNe, ints, ic, big, frac]
        · rw [c3 (by omega)]
          simp only [d5, go_sem, Int.reduceNegSucc, Nat.reduceAdd, Nat.reduceSub, Nat.reduceMul, Nat.reduceEqDiff, Nat.reduceLeDiff, Nat.reduceLT, Nat.reduceBEq, Nat.reduceBNe, reduceIte, reduceCtorEq, Int.reduceToNat, Int.reduceAdd, Int.reduceSub, Int.reduceMul, Int.reduceNeg, Int.reduceLT, Int.reduceLE, Int.reduceEq, Int.reduceNe, ints, ic, big, frac]
      · simp only [d3, go_sem, Int.reduceNegSucc, Nat.reduceAdd, Nat.reduceSub, Nat.reduceMul, Nat.reduceEqDiff, Nat.reduceLeDiff, Nat.reduceLT, Nat.reduceBEq, Nat.reduceBNe, reduceIte, reduceCtorEq, Int.reduceToNat, Int.reduceAdd, Int.reduceSub, Int.reduceMul, Int.reduceNeg, Int.reduceLT, Int.reduceLE, Int.reduceEq, Int.reduceNe, ints, ic, big, frac]
        refine Two_dec (fun d5 d5' => ?_) (fun d5 d5' => ?_)
        · simp only [d5, go_sem, Int.reduceNegSucc, Nat.reduceAdd, Nat.reduceSub, Nat.reduceMul, Nat.reduceEqDiff, Nat.reduceLeDiff, Nat.reduceLT, Nat.reduceBEq, Nat.reduceBNe, reduceIte, reduceCtorEq, Int.reduceToNat, Int.reduceAdd, Int.reduceSub, Int.reduceMul, Int.reduceNeg, Int.reduceLT, Int.reduceLE, Int.reduceEq, Int.reduceNe, ints, ic, big, frac]
          refine Two_dec (fun d6 d6' => ?_) (fun d6 d6' => ?_)
          · rw [c2 d5' (by omega)]
            simp only [go_sem, Int.reduceNegSucc, Nat.reduceAdd, Nat.reduceSub, Nat.reduceMul, Nat.reduceEqDiff, Nat.reduceLeDiff, Nat.reduceLT, Nat.reduceBEq, Nat.reduceBNe, reduceIte, reduceCtorEq, Int.reduceToNat, Int.reduceAdd, Int.reduceSub, Int.reduceMul, Int.reduceNeg, Int.reduceLT, Int.reduceLE, Int.reduceEq, Int.reduceNe, ints, ic, big, frac]
          · rw [c1 d5' (by omega)]
            simp only [go_sem, Int.reduceNegSucc, Nat.reduceAdd, Nat.reduceSub, Nat.reduceMul, Nat.reduceEqDiff, Nat.reduceLeDiff, Nat.reduceLT, Nat.reduceBEq, Nat.reduceBNe, reduceIte, reduceCtorEq, Int.reduceToNat, Int.reduceAdd, Int.reduceSub, Int.reduceMul, Int.reduceNeg, Int.reduceLT, Int.reduceLE, Int.reduceEq, Int.reduceNe, ints, ic, big, frac]
        · rw [c3 (by omega)]
          simp only [d5, go_sem, Int.reduceNegSucc, Nat.reduceAdd, Nat.reduceSub, Nat.reduceMul, Nat.reduceEqDiff, Nat.reduceLeDiff, Nat.reduceLT, Nat.reduceBEq, Nat.reduceBNe, reduceIte, reduceCtorEq, Int.reduceToNat, Int.reduceAdd, Int.reduceSub, Int.reduceMul, Int.reduceNeg, Int.reduceLT, Int.reduceLE, Int.reduceEq, Int.reduceNe, ints, ic, big, frac]
    · simp only [not_or] at h2
      have hok : ok = true := by simpa using h2.1
      subst hok
      obtain ⟨c1, c2, c3⟩ := cents_in (limit := limit) (by omega : n ≤ 1125899906842624)
      have d4 : decide (1125899906842624 < n) = false := decide_eq_false h2.2
      refine ctr_go good _ _ [.tmp 4] Try.func14 rfl rfl (by decide +kernel) rfl ?_
      simp only [go_sem, Int.reduceNegSucc, Nat.reduceAdd, Nat.reduceSub, Nat.reduceMul, Nat.reduceEqDiff, Nat.reduceLeDiff, Nat.reduceLT, Nat.reduceBEq, Nat.reduceBNe, reduceIte, reduceCtorEq, Int.reduceToNat, Int.reduceAdd, Int.reduceSub, Int.reduceMul, Int.reduceNeg, Int.reduceLT, Int.reduceLE, Int.reduceEq, Int.reduceNe, ints, ic, big, frac]
      refine CallP_eq hr (by decide) ?_
      simp only [go_sem, Int.reduceNegSucc, Nat.reduceAdd, Nat.reduceSub, Nat.reduceMul, Nat.reduceEqDiff, Nat.reduceLeDiff, Nat.reduceLT, Nat.reduceBEq, Nat.reduceBNe, reduceIte, reduceCtorEq, Int.reduceToNat, Int.reduceAdd, Int.reduceSub, Int.reduceMul, Int.reduceNeg, Int.reduceLT, Int.reduceLE, Int.reduceEq, Int.reduceNe, ints, ic, big, frac]
      refine CallP_eq hs (by decide) ?_
      simp only [d1, go_sem, Int.reduceNegSucc, Nat.reduceAdd, Nat.reduceSub, Nat.reduceMul, Nat.reduceEqDiff, Nat.reduceLeDiff, Nat.reduceLT, Nat.reduceBEq, Nat.reduceBNe, reduceIte, reduceCtorEq, Int.reduceToNat, Int.reduceAdd, Int.reduceSub, Int.reduceMul, Int.reduceNeg, Int.reduceLT, Int.reduceLE, Int.reduceEq, Int.reduceNe, ints, ic, big, frac]
      refine CallP_eq hf (by decide) ?_
      simp only [go_sem, Int.reduceNegSucc, Nat.reduceAdd, Nat.reduceSub, Nat.reduceMul, Nat.reduceEqDiff, Nat.reduceLeDiff, Nat.reduceLT, Nat.reduceBEq, Nat.reduceBNe, reduceIte, reduceCtorEq, Int.reduceToNat, Int.reduceAdd, Int.reduceSub, Int.reduceMul, Int.reduceNeg, Int.reduceLT, Int.reduceLE, Int.reduceEq, Int.reduceNe, ints, ic, big, frac]
      refine CallP_eq hi (by decide) ?_
      simp only [d4, go_sem, Int.reduceNegSucc, Nat.reduceAdd, Nat.reduceSub, Nat.reduceMul, Nat.reduceEqDiff, Nat.reduceLeDiff, Nat.reduceLT, Nat.reduceBEq, Nat.reduceBNe, reduceIte, reduceCtorEq, Int.reduceToNat, Int.reduceAdd, Int.reduceSub, Int.reduceMul, Int.reduceNeg, Int.reduceLT, Int.reduceLE, Int.reduceEq, Int.reduceNe, ints, ic, big, frac]
      refine Two_dec (fun d5 d5' => ?_) (fun d5 d5' => ?_)
      · simp only [d5, go_sem, Int.reduceNegSucc, Nat.reduceAdd, Nat.reduceSub, Nat.reduceMul, Nat.reduceEqDiff, Nat.reduceLeDiff, Nat.reduceLT, Nat.reduceBEq, Nat.reduceBNe, reduceIte, reduceCtorEq, Int.reduceToNat, Int.reduceAdd, Int.reduceSub, Int.reduceMul, Int.reduceNeg, Int.reduceLT, Int.reduceLE, Int.reduceEq, Int.reduceNe, ints, ic, big, frac]
        refine Two_dec (fun d6 d6' => ?_) (fun d6 d6' => ?_)
        · rw [c2 d5' d6']
          simp only [go_sem, Int.reduceNegSucc, Nat.reduceAdd, Nat.reduceSub, Nat.reduceMul, Nat.reduceEqDiff, Nat.reduceLeDiff, Nat.reduceLT, Nat.reduceBEq, Nat.reduceBNe, reduceIte, reduceCtorEq, Int.reduceToNat, Int.reduceAdd, Int.reduceSub, Int.reduceMul, Int.reduceNeg, Int.reduceLT, Int.reduceLE, Int.reduceEq, Int.reduceNe, ints, ic, big, frac]
        · rw [c1 d5' (by omega)]
          simp only [go_sem, Int.reduceNegSucc, Nat.reduceAdd, Nat.reduceSub, Nat.reduceMul, Nat.reduceEqDiff, Nat.reduceLeDiff, Nat.reduceLT, Nat.reduceBEq, Nat.reduceBNe, reduceIte, reduceCtorEq, Int.reduceToNat, Int.reduceAdd, Int.reduceSub, Int.reduceMul, Int.reduceNeg, Int.reduceLT, Int.reduceLE, Int.reduceEq, Int.reduceNe, ints, ic, big, frac]
      · rw [c3 (by omega)]
        simp only [d5, go_sem, Int.reduceNegSucc, Nat.reduceAdd, Nat.reduceSub, Nat.reduceMul, Nat.reduceEqDiff, Nat.reduceLeDiff, Nat.reduceLT, Nat.reduceBEq, Nat.reduceBNe, reduceIte, reduceCtorEq, Int.reduceToNat, Int.reduceAdd, Int.reduceSub, Int.reduceMul, Int.reduceNeg, Int.reduceLT, Int.reduceLE, Int.reduceEq, Int.reduceNe, ints, ic, big, frac]
end Go.Proofs.Ytpnlfkaijdjhlab
