/- A part of the proof: what functions of the program do, and the layer under it. No further condition. -/
import Derived.Test.YtpnlfkaijdjhlaaKM2
namespace Go.Proofs.Ytpnlfkaijdjhlaa
set_option linter.all false
open Go.Abs

def big (z : Int) : IV := .agg [.int z.sign, ints (dig z.natAbs)]
theorem right_big (z : Int) : rightF z.sign (dig z.natAbs) = true := by
  have h1 : (dig z.natAbs).all okd = true := all_okd.2 (dig_ok _)
  have hs : -1 ≤ z.sign ∧ z.sign ≤ 1 := by
    rcases Int.lt_trichotomy z 0 with h | h | h
    · rw [Int.sign_eq_neg_one_of_neg h]; omega
    · subst h; decide
    · rw [Int.sign_eq_one_of_pos h]; omega
  have hz : (dig z.natAbs = []) ↔ z.sign = 0 := by
    rw [dig_nil, Int.sign_eq_zero_iff_zero]; omega
  simp only [rightF, h1, Bool.true_and, Bool.and_eq_true, Bool.not_eq_true', decide_eq_false_iff_not, beq_iff_eq, Bool.or_eq_true, decide_eq_true_eq]
  refine ⟨by omega, by omega, ?_, ?_⟩
  · rw [decide_eq_decide, ← hz]
    constructor
    · intro h; exact List.length_eq_zero_iff.1 (by omega)
    · intro h; rw [h]; rfl
  · by_cases h : dig z.natAbs = []
    · left; rw [h]; rfl
    · right
      intro h2
      have h3 := last_dig z.natAbs
      rw [List.getLast?_eq_getElem?] at h3
      have h4 := List.length_pos_iff.2 h
      have h5 := get_nat (l := dig z.natAbs) (i := (dig z.natAbs).length - 1) (by omega)
      rw [h5, h2] at h3
      exact h3 rfl
theorem sign_le (z : Int) : -1 ≤ z.sign ∧ z.sign ≤ 1 := by
  rcases Int.lt_trichotomy z 0 with h | h | h
  · rw [Int.sign_eq_neg_one_of_neg h]; omega
  · subst h; decide
  · rw [Int.sign_eq_one_of_pos h]; omega
theorem t_rightb (z : Int) (h : (dig z.natAbs).length ≤ 1000000) : Ctr G.P 59 [big z] (· = .bool true) := by
  have := t_right z.sign (dig z.natAbs) (by omega)
  rw [right_big] at this
  exact this
theorem t_madeb (s z : Int) (n : Nat) (hn : n = z.natAbs) (hs : z ≠ 0 → s = z.sign) (h : (dig z.natAbs).length ≤ 1000000) : Ctr G.P 61 [.int s, ints (dig n)] (· = big z) := by
  subst hn
  have := t_made s (dig z.natAbs) (dig_ok _) h
  rw [val_dig] at this
  have e : (if (z.natAbs : Int) = 0 then 0 else s) = z.sign := by
    by_cases hz : z = 0
    · subst hz; rfl
    · rw [if_neg (by omega), hs hz]
  rw [e, Int.toNat_natCast] at this
  exact this
theorem len_mul {a b : Nat} {k m : Nat} (ha : (dig a).length ≤ k) (hb : (dig b).length ≤ m) : (dig (a * b)).length ≤ k + m := by
  refine dig_len_le ?_
  have h1 : (a : Int) < 1048576 ^ k := by
    have := val_lt (dig_ok a); rw [val_dig] at this
    exact Int.lt_of_lt_of_le this (by
      have h3 := Int.ofNat_le.2 (Nat.pow_le_pow_right (n := 1048576) (by omega) ha)
      rw [Int.natCast_pow, Int.natCast_pow] at h3; exact h3)
  have h2 : (b : Int) < 1048576 ^ m := by
    have := val_lt (dig_ok b); rw [val_dig] at this
    exact Int.lt_of_lt_of_le this (by
      have h3 := Int.ofNat_le.2 (Nat.pow_le_pow_right (n := 1048576) (by omega) hb)
      rw [Int.natCast_pow, Int.natCast_pow] at h3; exact h3)
  have g1 : a < 1048576 ^ k := Int.ofNat_lt.1 (by rw [Int.natCast_pow]; exact h1)
  have g2 : b < 1048576 ^ m := Int.ofNat_lt.1 (by rw [Int.natCast_pow]; exact h2)
  have g3 := Int.ofNat_lt.2 (Nat.mul_lt_mul'' g1 g2)
  rw [← Nat.pow_add, Int.natCast_pow] at g3
  exact g3
set_option maxRecDepth 100000 in
theorem t_mul (a b : Int) (la : (dig a.natAbs).length ≤ 100000) (lb : (dig b.natAbs).length ≤ 100000) : Ctr G.P 41 [big a, big b] (· = .tup [big (a * b), .int 0]) := by
  have ra := t_rightb a (by omega)
  have rb := t_rightb b (by omega)
  have ht := t_times (dig a.natAbs) (dig b.natAbs) (dig_ok _) (dig_ok _) la lb
  rw [val_dig, val_dig, ← Int.natCast_mul, Int.toNat_natCast] at ht
  have hl : (dig (a * b).natAbs).length ≤ 1000000 := by
    rw [Int.natAbs_mul]; have := len_mul la lb; omega
  have hm := t_madeb (a.sign * b.sign) (a * b) (a.natAbs * b.natAbs) (by rw [Int.natAbs_mul]) (fun _ => (Int.sign_mul a b).symm) hl
  have w := i64_ok (n := a.sign * b.sign) (by rw [← Int.sign_mul]; have := sign_le (a * b); omega)
  refine ctr_go good _ _ [.cell 4 47, .tmp 5] Try.func41 rfl rfl (by decide +kernel) rfl ?_
  simp only [go_sem, Int.reduceNegSucc, Nat.reduceAdd, Nat.reduceSub, Nat.reduceMul, Nat.reduceEqDiff, Nat.reduceLeDiff, Nat.reduceLT, Nat.reduceBEq, Nat.reduceBNe, reduceIte, reduceCtorEq, Int.reduceToNat, Int.reduceAdd, Int.reduceSub, Int.reduceMul, Int.reduceNeg, Int.reduceLT, Int.reduceLE, Int.reduceEq, Int.reduceNe, ints, ic, big]
  refine CallP_eq ra (by decide) ?_
  simp only [go_sem, Int.reduceNegSucc, Nat.reduceAdd, Nat.reduceSub, Nat.reduceMul, Nat.reduceEqDiff, Nat.reduceLeDiff, Nat.reduceLT, Nat.reduceBEq, Nat.reduceBNe, reduceIte, reduceCtorEq, Int.reduceToNat, Int.reduceAdd, Int.reduceSub, Int.reduceMul, Int.reduceNeg, Int.reduceLT, Int.reduceLE, Int.reduceEq, Int.reduceNe, ints, ic, big]
  refine CallP_eq rb (by decide) ?_
  simp only [go_sem, Int.reduceNegSucc, Nat.reduceAdd, Nat.reduceSub, Nat.reduceMul, Nat.reduceEqDiff, Nat.reduceLeDiff, Nat.reduceLT, Nat.reduceBEq, Nat.reduceBNe, reduceIte, reduceCtorEq, Int.reduceToNat, Int.reduceAdd, Int.reduceSub, Int.reduceMul, Int.reduceNeg, Int.reduceLT, Int.reduceLE, Int.reduceEq, Int.reduceNe, ints, ic, big]
  refine DrawS_of (by decide +kernel) ?_
  simp only [w, go_sem, Int.reduceNegSucc, Nat.reduceAdd, Nat.reduceSub, Nat.reduceMul, Nat.reduceEqDiff, Nat.reduceLeDiff, Nat.reduceLT, Nat.reduceBEq, Nat.reduceBNe, reduceIte, reduceCtorEq, Int.reduceToNat, Int.reduceAdd, Int.reduceSub, Int.reduceMul, Int.reduceNeg, Int.reduceLT, Int.reduceLE, Int.reduceEq, Int.reduceNe, ints, ic, big]
  refine CallD_eq ht (by decide) ?_
  simp only [go_sem, Int.reduceNegSucc, Nat.reduceAdd, Nat.reduceSub, Nat.reduceMul, Nat.reduceEqDiff, Nat.reduceLeDiff, Nat.reduceLT, Nat.reduceBEq, Nat.reduceBNe, reduceIte, reduceCtorEq, Int.reduceToNat, Int.reduceAdd, Int.reduceSub, Int.reduceMul, Int.reduceNeg, Int.reduceLT, Int.reduceLE, Int.reduceEq, Int.reduceNe, ints, ic, big]
  refine CallD_eq hm (by decide) ?_
  simp only [go_sem, Int.reduceNegSucc, Nat.reduceAdd, Nat.reduceSub, Nat.reduceMul, Nat.reduceEqDiff, Nat.reduceLeDiff, Nat.reduceLT, Nat.reduceBEq, Nat.reduceBNe, reduceIte, reduceCtorEq, Int.reduceToNat, Int.reduceAdd, Int.reduceSub, Int.reduceMul, Int.reduceNeg, Int.reduceLT, Int.reduceLE, Int.reduceEq, Int.reduceNe, ints, ic, big]
theorem t_neg (z : Int) (h : (dig z.natAbs).length ≤ 1000000) : Ctr G.P 66 [big z] (· = big (-z)) := by
  have rz := t_rightb z h
  have hm := t_madeb (0 - z.sign) (-z) z.natAbs (by rw [Int.natAbs_neg]) (fun _ => by rw [Int.sign_neg]; omega) (by rw [Int.natAbs_neg]; exact h)
  have w := i64_ok (n := 0 - z.sign) (by have := sign_le z; omega)
  refine ctr_go good _ _ [.cell 2 47] Try.func66 rfl rfl (by decide +kernel) rfl ?_
  simp only [go_sem, Int.reduceNegSucc, Nat.reduceAdd, Nat.reduceSub, Nat.reduceMul, Nat.reduceEqDiff, Nat.reduceLeDiff, Nat.reduceLT, Nat.reduceBEq, Nat.reduceBNe, reduceIte, reduceCtorEq, Int.reduceToNat, Int.reduceAdd, Int.reduceSub, Int.reduceMul, Int.reduceNeg, Int.reduceLT, Int.reduceLE, Int.reduceEq, Int.reduceNe, ints, ic, big]
  refine CallP_eq rz (by decide) ?_
  simp only [w, go_sem, Int.reduceNegSucc, Nat.reduceAdd, Nat.reduceSub, Nat.reduceMul, Nat.reduceEqDiff, Nat.reduceLeDiff, Nat.reduceLT, Nat.reduceBEq, Nat.reduceBNe, reduceIte, reduceCtorEq, Int.reduceToNat, Int.reduceAdd, Int.reduceSub, Int.reduceMul, Int.reduceNeg, Int.reduceLT, Int.reduceLE, Int.reduceEq, Int.reduceNe, ints, ic, big]
  refine CallP_eq hm (by decide) ?_
  simp only [go_sem, Int.reduceNegSucc, Nat.reduceAdd, Nat.reduceSub, Nat.reduceMul, Nat.reduceEqDiff, Nat.reduceLeDiff, Nat.reduceLT, Nat.reduceBEq, Nat.reduceBNe, reduceIte, reduceCtorEq, Int.reduceToNat, Int.reduceAdd, Int.reduceSub, Int.reduceMul, Int.reduceNeg, Int.reduceLT, Int.reduceLE, Int.reduceEq, Int.reduceNe, ints, ic, big]
end Go.Proofs.Ytpnlfkaijdjhlaa

namespace Go.Proofs.Ytpnlfkaijdjhlaa
set_option linter.all false
open Go.Abs

theorem take_same {l m : List Int} {i : Nat} (h : l.take i = m.take i) (hl : (i : Int) < l.length) (hm : (i : Int) < m.length) (hd : dgt l i = dgt m i) : l.take (i + 1) = m.take (i + 1) := by
  rw [List.take_add_one, List.take_add_one, h, get_nat hl, get_nat hm, hd]
theorem ne_of_dgt {l m : List Int} {i : Nat} (h : dgt l i ≠ dgt m i) : l ≠ m := fun e => h (by rw [e])
set_option maxRecDepth 100000 in
theorem t_same (s t : Int) (l m : List Int) (hl : l.length ≤ 1000000000) : Ctr G.P 63 [.agg [.int s, ints l], .agg [.int t, ints m]] (· = .bool (decide (s = t) && decide (l = m))) := by
  by_cases h1 : s = t
  · by_cases h2 : (l.length : Int) = m.length
    · have d1 : decide (s = t) = true := decide_eq_true h1
      have d2 : decide ((l.length : Int) = m.length) = true := decide_eq_true h2
      rw [d1, Bool.true_and]
      refine ctr_go good _ _ [.tmp 4] Try.func63 rfl rfl (by decide +kernel) rfl ?_
      simp only [d1, d2, go_sem, Int.reduceNegSucc, Nat.reduceAdd, Nat.reduceSub, Nat.reduceMul, Nat.reduceEqDiff, Nat.reduceLeDiff, Nat.reduceLT, Nat.reduceBEq, Nat.reduceBNe, reduceIte, reduceCtorEq, Int.reduceToNat, Int.reduceAdd, Int.reduceSub, Int.reduceMul, Int.reduceNeg, Int.reduceLT, Int.reduceLE, Int.reduceEq, Int.reduceNe, ints, ic, big]
      refine LoopP_of [2, 3, 5] [2, 3] (fun i : Nat => ⟨[(2, .loc 2 2 0 0), (3, .loc 3 2 0 0), (5, .im (.int i))], [(3, 2, [[.int t, ints m]]), (2, 2, [[.int s, ints l]])], []⟩) (fun i => i ≤ l.length ∧ l.take i = m.take i) (fun i => l.length - i) 0 ?_ ⟨Nat.zero_le _, rfl⟩ ?_
      · simp only [Int.natCast_zero, go_sem, Int.reduceNegSucc, Nat.reduceAdd, Nat.reduceSub, Nat.reduceMul, Nat.reduceEqDiff, Nat.reduceLeDiff, Nat.reduceLT, Nat.reduceBEq, Nat.reduceBNe, reduceIte, reduceCtorEq, Int.reduceToNat, Int.reduceAdd, Int.reduceSub, Int.reduceMul, Int.reduceNeg, Int.reduceLT, Int.reduceLE, Int.reduceEq, Int.reduceNe, ints, ic, big]
      · intro i ⟨hi, ha⟩
        by_cases hp : (i : Int) < l.length
        · have hp' : (i : Int) < m.length := by omega
          have hd : decide ((i : Int) < l.length) = true := decide_eq_true hp
          have hx := get_nat hp
          have hy := get_nat hp'
          have hw := i64_ok (n := (i : Int) + 1) (by omega)
          simp only [hd, go_sem, Int.reduceNegSucc, Nat.reduceAdd, Nat.reduceSub, Nat.reduceMul, Nat.reduceEqDiff, Nat.reduceLeDiff, Nat.reduceLT, Nat.reduceBEq, Nat.reduceBNe, reduceIte, reduceCtorEq, Int.reduceToNat, Int.reduceAdd, Int.reduceSub, Int.reduceMul, Int.reduceNeg, Int.reduceLT, Int.reduceLE, Int.reduceEq, Int.reduceNe, ints, ic, big]
          refine DrawP_of 11 (by decide +kernel) ?_
          simp only [hd, List.getElem?_map, hx, hy, go_sem, Int.reduceNegSucc, Nat.reduceAdd, Nat.reduceSub, Nat.reduceMul, Nat.reduceEqDiff, Nat.reduceLeDiff, Nat.reduceLT, Nat.reduceBEq, Nat.reduceBNe, reduceIte, reduceCtorEq, Int.reduceToNat, Int.reduceAdd, Int.reduceSub, Int.reduceMul, Int.reduceNeg, Int.reduceLT, Int.reduceLE, Int.reduceEq, Int.reduceNe, ints, ic, big]
          refine Two_dec (fun he he' => ?_) (fun he he' => ?_)
          · simp only [go_sem, Int.reduceNegSucc, Nat.reduceAdd, Nat.reduceSub, Nat.reduceMul, Nat.reduceEqDiff, Nat.reduceLeDiff, Nat.reduceLT, Nat.reduceBEq, Nat.reduceBNe, reduceIte, reduceCtorEq, Int.reduceToNat, Int.reduceAdd, Int.reduceSub, Int.reduceMul, Int.reduceNeg, Int.reduceLT, Int.reduceLE, Int.reduceEq, Int.reduceNe, ints, ic, big]
            refine RoundP_of (i + 1) ?_ (by omega) ⟨by omega, take_same ha hp hp' he'⟩
            simp only [hw, Int.natCast_add, go_sem, Int.reduceNegSucc, Nat.reduceAdd, Nat.reduceSub, Nat.reduceMul, Nat.reduceEqDiff, Nat.reduceLeDiff, Nat.reduceLT, Nat.reduceBEq, Nat.reduceBNe, reduceIte, reduceCtorEq, Int.reduceToNat, Int.reduceAdd, Int.reduceSub, Int.reduceMul, Int.reduceNeg, Int.reduceLT, Int.reduceLE, Int.reduceEq, Int.reduceNe, ints, ic, big]
          · have hf : decide (l = m) = false := decide_eq_false (ne_of_dgt he')
            rw [hf]
            simp only [go_sem, Int.reduceNegSucc, Nat.reduceAdd, Nat.reduceSub, Nat.reduceMul, Nat.reduceEqDiff, Nat.reduceLeDiff, Nat.reduceLT, Nat.reduceBEq, Nat.reduceBNe, reduceIte, reduceCtorEq, Int.reduceToNat, Int.reduceAdd, Int.reduceSub, Int.reduceMul, Int.reduceNeg, Int.reduceLT, Int.reduceLE, Int.reduceEq, Int.reduceNe, ints, ic, big]
        · have hd : decide ((i : Int) < l.length) = false := decide_eq_false hp
          have hf : decide (l = m) = true := decide_eq_true (by
            rw [List.take_of_length_le (by omega), List.take_of_length_le (by omega)] at ha; exact ha)
          rw [hf]
          simp only [hd, go_sem, Int.reduceNegSucc, Nat.reduceAdd, Nat.reduceSub, Nat.reduceMul, Nat.reduceEqDiff, Nat.reduceLeDiff, Nat.reduceLT, Nat.reduceBEq, Nat.reduceBNe, reduceIte, reduceCtorEq, Int.reduceToNat, Int.reduceAdd, Int.reduceSub, Int.reduceMul, Int.reduceNeg, Int.reduceLT, Int.reduceLE, Int.reduceEq, Int.reduceNe, ints, ic, big]
    · have d1 : decide (s = t) = true := decide_eq_true h1
      have d2 : decide ((l.length : Int) = m.length) = false := decide_eq_false h2
      have d3 : decide (l = m) = false := decide_eq_false fun e => h2 (by rw [e])
      rw [d3, Bool.and_false]
      refine ctr_go good _ _ [.tmp 4] Try.func63 rfl rfl (by decide +kernel) rfl ?_
      simp only [d1, d2, go_sem, Int.reduceNegSucc, Nat.reduceAdd, Nat.reduceSub, Nat.reduceMul, Nat.reduceEqDiff, Nat.reduceLeDiff, Nat.reduceLT, Nat.reduceBEq, Nat.reduceBNe, reduceIte, reduceCtorEq, Int.reduceToNat, Int.reduceAdd, Int.reduceSub, Int.reduceMul, Int.reduceNeg, Int.reduceLT, Int.reduceLE, Int.reduceEq, Int.reduceNe, ints, ic, big]
  · have d1 : decide (s = t) = false := decide_eq_false h1
    rw [d1, Bool.false_and]
    refine ctr_go good _ _ [.tmp 4] Try.func63 rfl rfl (by decide +kernel) rfl ?_
    simp only [d1, go_sem, Int.reduceNegSucc, Nat.reduceAdd, Nat.reduceSub, Nat.reduceMul, Nat.reduceEqDiff, Nat.reduceLeDiff, Nat.reduceLT, Nat.reduceBEq, Nat.reduceBNe, reduceIte, reduceCtorEq, Int.reduceToNat, Int.reduceAdd, Int.reduceSub, Int.reduceMul, Int.reduceNeg, Int.reduceLT, Int.reduceLE, Int.reduceEq, Int.reduceNe, ints, ic, big]
theorem dig_inj {a b : Nat} (h : dig a = dig b) : a = b := by
  have h1 := val_dig a
  rw [h, val_dig] at h1
  omega
theorem big_inj {a b : Int} : (decide (a.sign = b.sign) && decide (dig a.natAbs = dig b.natAbs)) = decide (a = b) := by
  rw [Bool.eq_iff_iff]
  simp only [Bool.and_eq_true, decide_eq_true_eq]
  constructor
  · intro ⟨h1, h2⟩
    have h3 := dig_inj h2
    have h4 := Int.sign_mul_natAbs a
    have h5 := Int.sign_mul_natAbs b
    rw [← h4, ← h5, h1, h3]
  · intro h; subst h; exact ⟨rfl, rfl⟩
def cmpI (a b : Int) : Int := if a < b then -1 else if a = b then 0 else 1
theorem sign_lt {a b : Int} (h : a.sign < b.sign) : a < b := by
  rcases Int.lt_trichotomy a 0 with h1 | h1 | h1 <;> rcases Int.lt_trichotomy b 0 with h2 | h2 | h2 <;>
    simp [Int.sign_eq_neg_one_of_neg, Int.sign_eq_one_of_pos, *] at h <;> omega
theorem less_sign {a b : Int} (hs : a.sign = b.sign) (hne : a ≠ b) : (decide ((a.natAbs : Int) < b.natAbs) == decide (0 < a.sign)) = decide (a < b) := by
  rcases Int.lt_trichotomy a 0 with h1 | h1 | h1
  · have e := Int.sign_eq_neg_one_of_neg h1
    have h2 : b < 0 := by
      rcases Int.lt_trichotomy b 0 with h2 | h2 | h2
      · exact h2
      · subst h2; rw [e] at hs; cases hs
      · rw [e, Int.sign_eq_one_of_pos h2] at hs; omega
    rw [e, Bool.eq_iff_iff]
    simp
    omega
  · subst h1
    have : b = 0 := Int.sign_eq_zero_iff_zero.1 hs.symm
    exact absurd this.symm hne
  · have e := Int.sign_eq_one_of_pos h1
    have h2 : 0 < b := by
      rcases Int.lt_trichotomy b 0 with h2 | h2 | h2
      · rw [e, Int.sign_eq_neg_one_of_neg h2] at hs; omega
      · subst h2; rw [e] at hs; cases hs
      · exact h2
    rw [e, Bool.eq_iff_iff]
    simp
    omega
set_option maxRecDepth 100000 in
theorem t_compare (a b : Int) (la : (dig a.natAbs).length ≤ 1000000) (lb : (dig b.natAbs).length ≤ 1000000) : Ctr G.P 42 [big a, big b] (· = .int (cmpI a b)) := by
  have ra := t_rightb a (by omega)
  have rb := t_rightb b (by omega)
  have hs := t_same a.sign b.sign (dig a.natAbs) (dig b.natAbs) (by omega)
  rw [big_inj] at hs
  have hl := t_less (dig a.natAbs) (dig b.natAbs) (dig_ok _) (dig_ok _) la lb
  rw [val_dig, val_dig] at hl
  by_cases hab : a = b
  · have d : decide (a = b) = true := decide_eq_true hab
    rw [d] at hs
    have hc : cmpI a b = 0 := by rw [cmpI, if_neg (by omega), if_pos hab]
    rw [hc]
    refine ctr_go good _ _ [.tmp 4] Try.func42 rfl rfl (by decide +kernel) rfl ?_
    simp only [go_sem, Int.reduceNegSucc, Nat.reduceAdd, Nat.reduceSub, Nat.reduceMul, Nat.reduceEqDiff, Nat.reduceLeDiff, Nat.reduceLT, Nat.reduceBEq, Nat.reduceBNe, reduceIte, reduceCtorEq, Int.reduceToNat, Int.reduceAdd, Int.reduceSub, Int.reduceMul, Int.reduceNeg, Int.reduceLT, Int.reduceLE, Int.reduceEq, Int.reduceNe, ints, ic, big]
    refine CallP_eq ra (by decide) ?_
    simp only [go_sem, Int.reduceNegSucc, Nat.reduceAdd, Nat.reduceSub, Nat.reduceMul, Nat.reduceEqDiff, Nat.reduceLeDiff, Nat.reduceLT, Nat.reduceBEq, Nat.reduceBNe, reduceIte, reduceCtorEq, Int.reduceToNat, Int.reduceAdd, Int.reduceSub, Int.reduceMul, Int.reduceNeg, Int.reduceLT, Int.reduceLE, Int.reduceEq, Int.reduceNe, ints, ic, big]
    refine CallP_eq rb (by decide) ?_
    simp only [go_sem, Int.reduceNegSucc, Nat.reduceAdd, Nat.reduceSub, Nat.reduceMul, Nat.reduceEqDiff, Nat.reduceLeDiff, Nat.reduceLT, Nat.reduceBEq, Nat.reduceBNe, reduceIte, reduceCtorEq, Int.reduceToNat, Int.reduceAdd, Int.reduceSub, Int.reduceMul, Int.reduceNeg, Int.reduceLT, Int.reduceLE, Int.reduceEq, Int.reduceNe, ints, ic, big]
    refine CallP_eq hs (by decide) ?_
    simp only [go_sem, Int.reduceNegSucc, Nat.reduceAdd, Nat.reduceSub, Nat.reduceMul, Nat.reduceEqDiff, Nat.reduceLeDiff, Nat.reduceLT, Nat.reduceBEq, Nat.reduceBNe, reduceIte, reduceCtorEq, Int.reduceToNat, Int.reduceAdd, Int.reduceSub, Int.reduceMul, Int.reduceNeg, Int.reduceLT, Int.reduceLE, Int.reduceEq, Int.reduceNe, ints, ic, big]
  · have d : decide (a = b) = false := decide_eq_false hab
    rw [d] at hs
    have hc : cmpI a b = if a < b then -1 else 1 := by rw [cmpI, if_neg hab]
    rw [hc]
    by_cases hsg : a.sign = b.sign
    · have d1 : decide (a.sign = b.sign) = true := decide_eq_true hsg
      have hls := less_sign hsg hab
      refine ctr_go good _ _ [.tmp 4] Try.func42 rfl rfl (by decide +kernel) rfl ?_
      simp only [go_sem, Int.reduceNegSucc, Nat.reduceAdd, Nat.reduceSub, Nat.reduceMul, Nat.reduceEqDiff, Nat.reduceLeDiff, Nat.reduceLT, Nat.reduceBEq, Nat.reduceBNe, reduceIte, reduceCtorEq, Int.reduceToNat, Int.reduceAdd, Int.reduceSub, Int.reduceMul, Int.reduceNeg, Int.reduceLT, Int.reduceLE, Int.reduceEq, Int.reduceNe, ints, ic, big]
      refine CallP_eq ra (by decide) ?_
      simp only [go_sem, Int.reduceNegSucc, Nat.reduceAdd, Nat.reduceSub, Nat.reduceMul, Nat.reduceEqDiff, Nat.reduceLeDiff, Nat.reduceLT, Nat.reduceBEq, Nat.reduceBNe, reduceIte, reduceCtorEq, Int.reduceToNat, Int.reduceAdd, Int.reduceSub, Int.reduceMul, Int.reduceNeg, Int.reduceLT, Int.reduceLE, Int.reduceEq, Int.reduceNe, ints, ic, big]
      refine CallP_eq rb (by decide) ?_
      simp only [go_sem, Int.reduceNegSucc, Nat.reduceAdd, Nat.reduceSub, Nat.reduceMul, Nat.reduceEqDiff, Nat.reduceLeDiff, Nat.reduceLT, Nat.reduceBEq, Nat.reduceBNe, reduceIte, reduceCtorEq, Int.reduceToNat, Int.reduceAdd, Int.reduceSub, Int.reduceMul, Int.reduceNeg, Int.reduceLT, Int.reduceLE, Int.reduceEq, Int.reduceNe, ints, ic, big]
      refine CallP_eq hs (by decide) ?_
      simp only [d1, go_sem, Int.reduceNegSucc, Nat.reduceAdd, Nat.reduceSub, Nat.reduceMul, Nat.reduceEqDiff, Nat.reduceLeDiff, Nat.reduceLT, Nat.reduceBEq, Nat.reduceBNe, reduceIte, reduceCtorEq, Int.reduceToNat, Int.reduceAdd, Int.reduceSub, Int.reduceMul, Int.reduceNeg, Int.reduceLT, Int.reduceLE, Int.reduceEq, Int.reduceNe, ints, ic, big]
      refine DrawP_of 9 (by decide +kernel) ?_
      simp only [go_sem, Int.reduceNegSucc, Nat.reduceAdd, Nat.reduceSub, Nat.reduceMul, Nat.reduceEqDiff, Nat.reduceLeDiff, Nat.reduceLT, Nat.reduceBEq, Nat.reduceBNe, reduceIte, reduceCtorEq, Int.reduceToNat, Int.reduceAdd, Int.reduceSub, Int.reduceMul, Int.reduceNeg, Int.reduceLT, Int.reduceLE, Int.reduceEq, Int.reduceNe, ints, ic, big]
      refine CallD_eq hl (by decide) ?_
      simp only [hls, go_sem, Int.reduceNegSucc, Nat.reduceAdd, Nat.reduceSub, Nat.reduceMul, Nat.reduceEqDiff, Nat.reduceLeDiff, Nat.reduceLT, Nat.reduceBEq, Nat.reduceBNe, reduceIte, reduceCtorEq, Int.reduceToNat, Int.reduceAdd, Int.reduceSub, Int.reduceMul, Int.reduceNeg, Int.reduceLT, Int.reduceLE, Int.reduceEq, Int.reduceNe, ints, ic, big]
      refine Two_dec (fun he he' => ?_) (fun he he' => ?_)
      · simp only [he', go_sem, Int.reduceNegSucc, Nat.reduceAdd, Nat.reduceSub, Nat.reduceMul, Nat.reduceEqDiff, Nat.reduceLeDiff, Nat.reduceLT, Nat.reduceBEq, Nat.reduceBNe, reduceIte, reduceCtorEq, Int.reduceToNat, Int.reduceAdd, Int.reduceSub, Int.reduceMul, Int.reduceNeg, Int.reduceLT, Int.reduceLE, Int.reduceEq, Int.reduceNe, ints, ic, big]
      · simp only [he', go_sem, Int.reduceNegSucc, Nat.reduceAdd, Nat.reduceSub, Nat.reduceMul, Nat.reduceEqDiff, Nat.reduceLeDiff, Nat.reduceLT, Nat.reduceBEq, Nat.reduceBNe, reduceIte, reduceCtorEq, Int.reduceToNat, Int.reduceAdd, Int.reduceSub, Int.reduceMul, Int.reduceNeg, Int.reduceLT, Int.reduceLE, Int.reduceEq, Int.reduceNe, ints, ic, big]
    · have d1 : decide (a.sign = b.sign) = false := decide_eq_false hsg
      by_cases hlt : a.sign < b.sign
      · have d2 : decide (a.sign < b.sign) = true := decide_eq_true hlt
        rw [if_pos (sign_lt hlt)]
        refine ctr_go good _ _ [.tmp 4] Try.func42 rfl rfl (by decide +kernel) rfl ?_
        simp only [go_sem, Int.reduceNegSucc, Nat.reduceAdd, Nat.reduceSub, Nat.reduceMul, Nat.reduceEqDiff, Nat.reduceLeDiff, Nat.reduceLT, Nat.reduceBEq, Nat.reduceBNe, reduceIte, reduceCtorEq, Int.reduceToNat, Int.reduceAdd, Int.reduceSub, Int.reduceMul, Int.reduceNeg, Int.reduceLT, Int.reduceLE, Int.reduceEq, Int.reduceNe, ints, ic, big]
        refine CallP_eq ra (by decide) ?_
        simp only [go_sem, Int.reduceNegSucc, Nat.reduceAdd, Nat.reduceSub, Nat.reduceMul, Nat.reduceEqDiff, Nat.reduceLeDiff, Nat.reduceLT, Nat.reduceBEq, Nat.reduceBNe, reduceIte, reduceCtorEq, Int.reduceToNat, Int.reduceAdd, Int.reduceSub, Int.reduceMul, Int.reduceNeg, Int.reduceLT, Int.reduceLE, Int.reduceEq, Int.reduceNe, ints, ic, big]
        refine CallP_eq rb (by decide) ?_
        simp only [go_sem, Int.reduceNegSucc, Nat.reduceAdd, Nat.reduceSub, Nat.reduceMul, Nat.reduceEqDiff, Nat.reduceLeDiff, Nat.reduceLT, Nat.reduceBEq, Nat.reduceBNe, reduceIte, reduceCtorEq, Int.reduceToNat, Int.reduceAdd, Int.reduceSub, Int.reduceMul, Int.reduceNeg, Int.reduceLT, Int.reduceLE, Int.reduceEq, Int.reduceNe, ints, ic, big]
        refine CallP_eq hs (by decide) ?_
        simp only [d1, d2, go_sem, Int.reduceNegSucc, Nat.reduceAdd, Nat.reduceSub, Nat.reduceMul, Nat.reduceEqDiff, Nat.reduceLeDiff, Nat.reduceLT, Nat.reduceBEq, Nat.reduceBNe, reduceIte, reduceCtorEq, Int.reduceToNat, Int.reduceAdd, Int.reduceSub, Int.reduceMul, Int.reduceNeg, Int.reduceLT, Int.reduceLE, Int.reduceEq, Int.reduceNe, ints, ic, big]
      · have d2 : decide (a.sign < b.sign) = false := decide_eq_false hlt
        rw [if_neg (by have := sign_lt (a := b) (b := a) (by omega); omega)]
        refine ctr_go good _ _ [.tmp 4] Try.func42 rfl rfl (by decide +kernel) rfl ?_
        simp only [go_sem, Int.reduceNegSucc, Nat.reduceAdd, Nat.reduceSub, Nat.reduceMul, Nat.reduceEqDiff, Nat.reduceLeDiff, Nat.reduceLT, Nat.reduceBEq, Nat.reduceBNe, reduceIte, reduceCtorEq, Int.reduceToNat, Int.reduceAdd, Int.reduceSub, Int.reduceMul, Int.reduceNeg, Int.reduceLT, Int.reduceLE, Int.reduceEq, Int.reduceNe, ints, ic, big]
        refine CallP_eq ra (by decide) ?_
        simp only [go_sem, Int.reduceNegSucc, Nat.reduceAdd, Nat.reduceSub, Nat.reduceMul, Nat.reduceEqDiff, Nat.reduceLeDiff, Nat.reduceLT, Nat.reduceBEq, Nat.reduceBNe, reduceIte, reduceCtorEq, Int.reduceToNat, Int.reduceAdd, Int.reduceSub, Int.reduceMul, Int.reduceNeg, Int.reduceLT, Int.reduceLE, Int.reduceEq, Int.reduceNe, ints, ic, big]
        refine CallP_eq rb (by decide) ?_
        simp only [go_sem, Int.reduceNegSucc, Nat.reduceAdd, Nat.reduceSub, Nat.reduceMul, Nat.reduceEqDiff, Nat.reduceLeDiff, Nat.reduceLT, Nat.reduceBEq, Nat.reduceBNe, reduceIte, reduceCtorEq, Int.reduceToNat, Int.reduceAdd, Int.reduceSub, Int.reduceMul, Int.reduceNeg, Int.reduceLT, Int.reduceLE, Int.reduceEq, Int.reduceNe, ints, ic, big]
        refine CallP_eq hs (by decide) ?_
        simp only [d1, d2, go_sem, Int.reduceNegSucc, Nat.reduceAdd, Nat.reduceSub, Nat.reduceMul, Nat.reduceEqDiff, Nat.reduceLeDiff, Nat.reduceLT, Nat.reduceBEq, Nat.reduceBNe, reduceIte, reduceCtorEq, Int.reduceToNat, Int.reduceAdd, Int.reduceSub, Int.reduceMul, Int.reduceNeg, Int.reduceLT, Int.reduceLE, Int.reduceEq, Int.reduceNe, ints, ic, big]
end Go.Proofs.Ytpnlfkaijdjhlaa

namespace Go.Proofs.Ytpnlfkaijdjhlaa
set_option linter.all false
open Go.Abs

theorem or_sign {a b : Int} (h : a = 0 ∨ b = 0 ∨ a.sign = b.sign) : bits .or .i64 a.sign b.sign = (a + b).sign ∧ a.natAbs + b.natAbs = (a + b).natAbs := by
  rcases Int.lt_trichotomy a 0 with h1 | h1 | h1 <;> rcases Int.lt_trichotomy b 0 with h2 | h2 | h2
  · rw [Int.sign_eq_neg_one_of_neg h1, Int.sign_eq_neg_one_of_neg h2, Int.sign_eq_neg_one_of_neg (by omega)]
    exact ⟨by decide +kernel, by omega⟩
  · subst h2; rw [Int.sign_eq_neg_one_of_neg h1, Int.add_zero, Int.sign_eq_neg_one_of_neg h1]
    exact ⟨by decide +kernel, by omega⟩
  · rw [Int.sign_eq_neg_one_of_neg h1, Int.sign_eq_one_of_pos h2] at h; omega
  · subst h1; rw [Int.zero_add, Int.sign_eq_neg_one_of_neg h2]
    exact ⟨by decide +kernel, by omega⟩
  · subst h1; subst h2; exact ⟨by decide +kernel, rfl⟩
  · subst h1; rw [Int.zero_add, Int.sign_eq_one_of_pos h2]
    exact ⟨by decide +kernel, by omega⟩
  · rw [Int.sign_eq_one_of_pos h1, Int.sign_eq_neg_one_of_neg h2] at h; omega
  · subst h2; rw [Int.sign_eq_one_of_pos h1, Int.add_zero, Int.sign_eq_one_of_pos h1]
    exact ⟨by decide +kernel, by omega⟩
  · rw [Int.sign_eq_one_of_pos h1, Int.sign_eq_one_of_pos h2, Int.sign_eq_one_of_pos (by omega)]
    exact ⟨by decide +kernel, by omega⟩
theorem opp_sign {a b : Int} (h1 : ¬ a.sign = 0) (h2 : ¬ b.sign = 0) (h3 : ¬ a.sign = b.sign) :
    ((a.natAbs : Int) < b.natAbs → b.natAbs - a.natAbs = (a + b).natAbs ∧ b.sign = (a + b).sign) ∧ (¬ (a.natAbs : Int) < b.natAbs → a.natAbs - b.natAbs = (a + b).natAbs ∧ (a + b ≠ 0 → a.sign = (a + b).sign)) := by
  rcases Int.lt_trichotomy a 0 with g1 | g1 | g1
  · rcases Int.lt_trichotomy b 0 with g2 | g2 | g2
    · rw [Int.sign_eq_neg_one_of_neg g1, Int.sign_eq_neg_one_of_neg g2] at h3; exact absurd rfl h3
    · subst g2; exact absurd rfl h2
    · refine ⟨fun h => ⟨by omega, ?_⟩, fun h => ⟨by omega, fun h0 => ?_⟩⟩
      · rw [Int.sign_eq_one_of_pos g2, Int.sign_eq_one_of_pos (by omega)]
      · rw [Int.sign_eq_neg_one_of_neg g1, Int.sign_eq_neg_one_of_neg (by omega)]
  · subst g1; exact absurd rfl h1
  · rcases Int.lt_trichotomy b 0 with g2 | g2 | g2
    · refine ⟨fun h => ⟨by omega, ?_⟩, fun h => ⟨by omega, fun h0 => ?_⟩⟩
      · rw [Int.sign_eq_neg_one_of_neg g2, Int.sign_eq_neg_one_of_neg (by omega)]
      · rw [Int.sign_eq_one_of_pos g1, Int.sign_eq_one_of_pos (by omega)]
    · subst g2; exact absurd rfl h2
    · rw [Int.sign_eq_one_of_pos g1, Int.sign_eq_one_of_pos g2] at h3; exact absurd rfl h3
theorem val_lt_pow {n k : Nat} (h : (dig n).length ≤ k) : (n : Int) < 1048576 ^ k := by
  have := val_lt (dig_ok n); rw [val_dig] at this
  exact Int.lt_of_lt_of_le this (by
    have h3 := Int.ofNat_le.2 (Nat.pow_le_pow_right (n := 1048576) (by omega) h)
    rw [Int.natCast_pow, Int.natCast_pow] at h3; exact h3)
theorem len_add {n a b k : Nat} (ha : (dig a).length ≤ k) (hb : (dig b).length ≤ k) (h : n ≤ a + b) : (dig n).length ≤ k + 1 := by
  refine dig_len_le ?_
  have h1 := val_lt_pow ha
  have h2 := val_lt_pow hb
  rw [pow_step]
  omega
set_option maxRecDepth 100000 in
set_option maxHeartbeats 1000000 in
theorem t_add (a b : Int) (la : (dig a.natAbs).length ≤ 90000) (lb : (dig b.natAbs).length ≤ 90000) : Ctr G.P 74 [big a, big b] (· = .tup [big (a + b), .int 0]) := by
  have ra := t_rightb a (by omega)
  have rb := t_rightb b (by omega)
  have hll : (dig (a + b).natAbs).length ≤ 1000000 := by
    have := len_add (n := (a + b).natAbs) (k := 90000) la lb (by omega); omega
  by_cases hc : a = 0 ∨ b = 0 ∨ a.sign = b.sign
  · obtain ⟨hb1, hn⟩ := or_sign hc
    have hp := t_plus (dig a.natAbs) (dig b.natAbs) (dig_ok _) (dig_ok _) (by omega) (by omega)
    rw [val_dig, val_dig, ← Int.natCast_add, Int.toNat_natCast, hn] at hp
    have hm := t_madeb (a + b).sign (a + b) (a + b).natAbs rfl (fun _ => rfl) hll
    have hc : a.sign = 0 ∨ b.sign = 0 ∨ a.sign = b.sign := by
      rcases hc with h | h | h
      · exact .inl (Int.sign_eq_zero_iff_zero.2 h)
      · exact .inr (.inl (Int.sign_eq_zero_iff_zero.2 h))
      · exact .inr (.inr h)
    refine ctr_go good _ _ [.cell 4 47, .tmp 5] Try.func74 rfl rfl (by decide +kernel) rfl ?_
    simp only [go_sem, Int.reduceNegSucc, Nat.reduceAdd, Nat.reduceSub, Nat.reduceMul, Nat.reduceEqDiff, Nat.reduceLeDiff, Nat.reduceLT, Nat.reduceBEq, Nat.reduceBNe, reduceIte, reduceCtorEq, Int.reduceToNat, Int.reduceAdd, Int.reduceSub, Int.reduceMul, Int.reduceNeg, Int.reduceLT, Int.reduceLE, Int.reduceEq, Int.reduceNe, ints, ic, big]
    refine CallP_eq ra (by decide) ?_
    simp only [go_sem, Int.reduceNegSucc, Nat.reduceAdd, Nat.reduceSub, Nat.reduceMul, Nat.reduceEqDiff, Nat.reduceLeDiff, Nat.reduceLT, Nat.reduceBEq, Nat.reduceBNe, reduceIte, reduceCtorEq, Int.reduceToNat, Int.reduceAdd, Int.reduceSub, Int.reduceMul, Int.reduceNeg, Int.reduceLT, Int.reduceLE, Int.reduceEq, Int.reduceNe, ints, ic, big]
    refine CallP_eq rb (by decide) ?_
    simp only [go_sem, Int.reduceNegSucc, Nat.reduceAdd, Nat.reduceSub, Nat.reduceMul, Nat.reduceEqDiff, Nat.reduceLeDiff, Nat.reduceLT, Nat.reduceBEq, Nat.reduceBNe, reduceIte, reduceCtorEq, Int.reduceToNat, Int.reduceAdd, Int.reduceSub, Int.reduceMul, Int.reduceNeg, Int.reduceLT, Int.reduceLE, Int.reduceEq, Int.reduceNe, ints, ic, big]
    refine Two_dec (fun d1 d1' => ?_) (fun d1 d1' => ?_)
    · simp only [d1, go_sem, Int.reduceNegSucc, Nat.reduceAdd, Nat.reduceSub, Nat.reduceMul, Nat.reduceEqDiff, Nat.reduceLeDiff, Nat.reduceLT, Nat.reduceBEq, Nat.reduceBNe, reduceIte, reduceCtorEq, Int.reduceToNat, Int.reduceAdd, Int.reduceSub, Int.reduceMul, Int.reduceNeg, Int.reduceLT, Int.reduceLE, Int.reduceEq, Int.reduceNe, ints, ic, big]
      refine DrawS_of (by decide +kernel) ?_
      simp only [hb1, go_sem, Int.reduceNegSucc, Nat.reduceAdd, Nat.reduceSub, Nat.reduceMul, Nat.reduceEqDiff, Nat.reduceLeDiff, Nat.reduceLT, Nat.reduceBEq, Nat.reduceBNe, reduceIte, reduceCtorEq, Int.reduceToNat, Int.reduceAdd, Int.reduceSub, Int.reduceMul, Int.reduceNeg, Int.reduceLT, Int.reduceLE, Int.reduceEq, Int.reduceNe, ints, ic, big]
      refine CallD_eq hp (by decide) ?_
      simp only [go_sem, Int.reduceNegSucc, Nat.reduceAdd, Nat.reduceSub, Nat.reduceMul, Nat.reduceEqDiff, Nat.reduceLeDiff, Nat.reduceLT, Nat.reduceBEq, Nat.reduceBNe, reduceIte, reduceCtorEq, Int.reduceToNat, Int.reduceAdd, Int.reduceSub, Int.reduceMul, Int.reduceNeg, Int.reduceLT, Int.reduceLE, Int.reduceEq, Int.reduceNe, ints, ic, big]
      refine CallD_eq hm (by decide) ?_
      simp only [go_sem, Int.reduceNegSucc, Nat.reduceAdd, Nat.reduceSub, Nat.reduceMul, Nat.reduceEqDiff, Nat.reduceLeDiff, Nat.reduceLT, Nat.reduceBEq, Nat.reduceBNe, reduceIte, reduceCtorEq, Int.reduceToNat, Int.reduceAdd, Int.reduceSub, Int.reduceMul, Int.reduceNeg, Int.reduceLT, Int.reduceLE, Int.reduceEq, Int.reduceNe, ints, ic, big]
    · simp only [d1, go_sem, Int.reduceNegSucc, Nat.reduceAdd, Nat.reduceSub, Nat.reduceMul, Nat.reduceEqDiff, Nat.reduceLeDiff, Nat.reduceLT, Nat.reduceBEq, Nat.reduceBNe, reduceIte, reduceCtorEq, Int.reduceToNat, Int.reduceAdd, Int.reduceSub, Int.reduceMul, Int.reduceNeg, Int.reduceLT, Int.reduceLE, Int.reduceEq, Int.reduceNe, ints, ic, big]
      refine Two_dec (fun d2 d2' => ?_) (fun d2 d2' => ?_)
      · simp only [d1, d2, go_sem, Int.reduceNegSucc, Nat.reduceAdd, Nat.reduceSub, Nat.reduceMul, Nat.reduceEqDiff, Nat.reduceLeDiff, Nat.reduceLT, Nat.reduceBEq, Nat.reduceBNe, reduceIte, reduceCtorEq, Int.reduceToNat, Int.reduceAdd, Int.reduceSub, Int.reduceMul, Int.reduceNeg, Int.reduceLT, Int.reduceLE, Int.reduceEq, Int.reduceNe, ints, ic, big]
        refine DrawS_of (by decide +kernel) ?_
        simp only [hb1, go_sem, Int.reduceNegSucc, Nat.reduceAdd, Nat.reduceSub, Nat.reduceMul, Nat.reduceEqDiff, Nat.reduceLeDiff, Nat.reduceLT, Nat.reduceBEq, Nat.reduceBNe, reduceIte, reduceCtorEq, Int.reduceToNat, Int.reduceAdd, Int.reduceSub, Int.reduceMul, Int.reduceNeg, Int.reduceLT, Int.reduceLE, Int.reduceEq, Int.reduceNe, ints, ic, big]
        refine CallD_eq hp (by decide) ?_
        simp only [go_sem, Int.reduceNegSucc, Nat.reduceAdd, Nat.reduceSub, Nat.reduceMul, Nat.reduceEqDiff, Nat.reduceLeDiff, Nat.reduceLT, Nat.reduceBEq, Nat.reduceBNe, reduceIte, reduceCtorEq, Int.reduceToNat, Int.reduceAdd, Int.reduceSub, Int.reduceMul, Int.reduceNeg, Int.reduceLT, Int.reduceLE, Int.reduceEq, Int.reduceNe, ints, ic, big]
        refine CallD_eq hm (by decide) ?_
        simp only [go_sem, Int.reduceNegSucc, Nat.reduceAdd, Nat.reduceSub, Nat.reduceMul, Nat.reduceEqDiff, Nat.reduceLeDiff, Nat.reduceLT, Nat.reduceBEq, Nat.reduceBNe, reduceIte, reduceCtorEq, Int.reduceToNat, Int.reduceAdd, Int.reduceSub, Int.reduceMul, Int.reduceNeg, Int.reduceLT, Int.reduceLE, Int.reduceEq, Int.reduceNe, ints, ic, big]
      · have d3 : decide (a.sign = b.sign) = true := decide_eq_true (by
          rcases hc with h | h | h
          · exact absurd h d1'
          · exact absurd h d2'
          · exact h)
        simp only [d1, d2, d3, go_sem, Int.reduceNegSucc, Nat.reduceAdd, Nat.reduceSub, Nat.reduceMul, Nat.reduceEqDiff, Nat.reduceLeDiff, Nat.reduceLT, Nat.reduceBEq, Nat.reduceBNe, reduceIte, reduceCtorEq, Int.reduceToNat, Int.reduceAdd, Int.reduceSub, Int.reduceMul, Int.reduceNeg, Int.reduceLT, Int.reduceLE, Int.reduceEq, Int.reduceNe, ints, ic, big]
        refine DrawS_of (by decide +kernel) ?_
        simp only [hb1, go_sem, Int.reduceNegSucc, Nat.reduceAdd, Nat.reduceSub, Nat.reduceMul, Nat.reduceEqDiff, Nat.reduceLeDiff, Nat.reduceLT, Nat.reduceBEq, Nat.reduceBNe, reduceIte, reduceCtorEq, Int.reduceToNat, Int.reduceAdd, Int.reduceSub, Int.reduceMul, Int.reduceNeg, Int.reduceLT, Int.reduceLE, Int.reduceEq, Int.reduceNe, ints, ic, big]
        refine CallD_eq hp (by decide) ?_
        simp only [go_sem, Int.reduceNegSucc, Nat.reduceAdd, Nat.reduceSub, Nat.reduceMul, Nat.reduceEqDiff, Nat.reduceLeDiff, Nat.reduceLT, Nat.reduceBEq, Nat.reduceBNe, reduceIte, reduceCtorEq, Int.reduceToNat, Int.reduceAdd, Int.reduceSub, Int.reduceMul, Int.reduceNeg, Int.reduceLT, Int.reduceLE, Int.reduceEq, Int.reduceNe, ints, ic, big]
        refine CallD_eq hm (by decide) ?_
        simp only [go_sem, Int.reduceNegSucc, Nat.reduceAdd, Nat.reduceSub, Nat.reduceMul, Nat.reduceEqDiff, Nat.reduceLeDiff, Nat.reduceLT, Nat.reduceBEq, Nat.reduceBNe, reduceIte, reduceCtorEq, Int.reduceToNat, Int.reduceAdd, Int.reduceSub, Int.reduceMul, Int.reduceNeg, Int.reduceLT, Int.reduceLE, Int.reduceEq, Int.reduceNe, ints, ic, big]
  · simp only [not_or] at hc
    obtain ⟨c1, c2, c3⟩ := hc
    have e1 : ¬ a.sign = 0 := fun h => c1 (Int.sign_eq_zero_iff_zero.1 h)
    have e2 : ¬ b.sign = 0 := fun h => c2 (Int.sign_eq_zero_iff_zero.1 h)
    have d1 : decide (a.sign = 0) = false := decide_eq_false e1
    have d2 : decide (b.sign = 0) = false := decide_eq_false e2
    have d3 : decide (a.sign = b.sign) = false := decide_eq_false c3
    obtain ⟨o1, o2⟩ := opp_sign e1 e2 c3
    have hl := t_less (dig a.natAbs) (dig b.natAbs) (dig_ok _) (dig_ok _) (by omega) (by omega)
    rw [val_dig, val_dig] at hl
    by_cases hlt : (a.natAbs : Int) < b.natAbs
    · obtain ⟨hn, hs⟩ := o1 hlt
      have d4 : decide ((a.natAbs : Int) < b.natAbs) = true := decide_eq_true hlt
      rw [d4] at hl
      have hp := t_minus (dig b.natAbs) (dig a.natAbs) (dig_ok _) (dig_ok _) (by rw [val_dig, val_dig]; omega) (by omega) (by omega)
      rw [val_dig, val_dig, show ((b.natAbs : Int) - a.natAbs).toNat = (a + b).natAbs by omega] at hp
      have hm := t_madeb b.sign (a + b) (a + b).natAbs rfl (fun _ => hs) hll
      have hb1 : True := trivial
      refine ctr_go good _ _ [.cell 4 47, .tmp 5] Try.func74 rfl rfl (by decide +kernel) rfl ?_
      simp only [go_sem, Int.reduceNegSucc, Nat.reduceAdd, Nat.reduceSub, Nat.reduceMul, Nat.reduceEqDiff, Nat.reduceLeDiff, Nat.reduceLT, Nat.reduceBEq, Nat.reduceBNe, reduceIte, reduceCtorEq, Int.reduceToNat, Int.reduceAdd, Int.reduceSub, Int.reduceMul, Int.reduceNeg, Int.reduceLT, Int.reduceLE, Int.reduceEq, Int.reduceNe, ints, ic, big]
      refine CallP_eq ra (by decide) ?_
      simp only [go_sem, Int.reduceNegSucc, Nat.reduceAdd, Nat.reduceSub, Nat.reduceMul, Nat.reduceEqDiff, Nat.reduceLeDiff, Nat.reduceLT, Nat.reduceBEq, Nat.reduceBNe, reduceIte, reduceCtorEq, Int.reduceToNat, Int.reduceAdd, Int.reduceSub, Int.reduceMul, Int.reduceNeg, Int.reduceLT, Int.reduceLE, Int.reduceEq, Int.reduceNe, ints, ic, big]
      refine CallP_eq rb (by decide) ?_
      simp only [d1, d2, d3, go_sem, Int.reduceNegSucc, Nat.reduceAdd, Nat.reduceSub, Nat.reduceMul, Nat.reduceEqDiff, Nat.reduceLeDiff, Nat.reduceLT, Nat.reduceBEq, Nat.reduceBNe, reduceIte, reduceCtorEq, Int.reduceToNat, Int.reduceAdd, Int.reduceSub, Int.reduceMul, Int.reduceNeg, Int.reduceLT, Int.reduceLE, Int.reduceEq, Int.reduceNe, ints, ic, big]
      refine CallP_eq hl (by decide) ?_
      simp only [go_sem, Int.reduceNegSucc, Nat.reduceAdd, Nat.reduceSub, Nat.reduceMul, Nat.reduceEqDiff, Nat.reduceLeDiff, Nat.reduceLT, Nat.reduceBEq, Nat.reduceBNe, reduceIte, reduceCtorEq, Int.reduceToNat, Int.reduceAdd, Int.reduceSub, Int.reduceMul, Int.reduceNeg, Int.reduceLT, Int.reduceLE, Int.reduceEq, Int.reduceNe, ints, ic, big]
      refine DrawS_of (by decide +kernel) ?_
      simp only [hb1, go_sem, Int.reduceNegSucc, Nat.reduceAdd, Nat.reduceSub, Nat.reduceMul, Nat.reduceEqDiff, Nat.reduceLeDiff, Nat.reduceLT, Nat.reduceBEq, Nat.reduceBNe, reduceIte, reduceCtorEq, Int.reduceToNat, Int.reduceAdd, Int.reduceSub, Int.reduceMul, Int.reduceNeg, Int.reduceLT, Int.reduceLE, Int.reduceEq, Int.reduceNe, ints, ic, big]
      refine CallD_eq hp (by decide) ?_
      simp only [go_sem, Int.reduceNegSucc, Nat.reduceAdd, Nat.reduceSub, Nat.reduceMul, Nat.reduceEqDiff, Nat.reduceLeDiff, Nat.reduceLT, Nat.reduceBEq, Nat.reduceBNe, reduceIte, reduceCtorEq, Int.reduceToNat, Int.reduceAdd, Int.reduceSub, Int.reduceMul, Int.reduceNeg, Int.reduceLT, Int.reduceLE, Int.reduceEq, Int.reduceNe, ints, ic, big]
      refine CallD_eq hm (by decide) ?_
      simp only [go_sem, Int.reduceNegSucc, Nat.reduceAdd, Nat.reduceSub, Nat.reduceMul, Nat.reduceEqDiff, Nat.reduceLeDiff, Nat.reduceLT, Nat.reduceBEq, Nat.reduceBNe, reduceIte, reduceCtorEq, Int.reduceToNat, Int.reduceAdd, Int.reduceSub, Int.reduceMul, Int.reduceNeg, Int.reduceLT, Int.reduceLE, Int.reduceEq, Int.reduceNe, ints, ic, big]
    · obtain ⟨hn, hs⟩ := o2 hlt
      have d4 : decide ((a.natAbs : Int) < b.natAbs) = false := decide_eq_false hlt
      rw [d4] at hl
      have hp := t_minus (dig a.natAbs) (dig b.natAbs) (dig_ok _) (dig_ok _) (by rw [val_dig, val_dig]; omega) (by omega) (by omega)
      rw [val_dig, val_dig, show ((a.natAbs : Int) - b.natAbs).toNat = (a + b).natAbs by omega] at hp
      have hm := t_madeb a.sign (a + b) (a + b).natAbs rfl hs hll
      have hb1 : True := trivial
      refine ctr_go good _ _ [.cell 4 47, .tmp 5] Try.func74 rfl rfl (by decide +kernel) rfl ?_
      simp only [go_sem, Int.reduceNegSucc, Nat.reduceAdd, Nat.reduceSub, Nat.reduceMul, Nat.reduceEqDiff, Nat.reduceLeDiff, Nat.reduceLT, Nat.reduceBEq, Nat.reduceBNe, reduceIte, reduceCtorEq, Int.reduceToNat, Int.reduceAdd, Int.reduceSub, Int.reduceMul, Int.reduceNeg, Int.reduceLT, Int.reduceLE, Int.reduceEq, Int.reduceNe, ints, ic, big]
      refine CallP_eq ra (by decide) ?_
      simp only [go_sem, Int.reduceNegSucc, Nat.reduceAdd, Nat.reduceSub, Nat.reduceMul, Nat.reduceEqDiff, Nat.reduceLeDiff, Nat.reduceLT, Nat.reduceBEq, Nat.reduceBNe, reduceIte, reduceCtorEq, Int.reduceToNat, Int.reduceAdd, Int.reduceSub, Int.reduceMul, Int.reduceNeg, Int.reduceLT, Int.reduceLE, Int.reduceEq, Int.reduceNe, ints, ic, big]
      refine CallP_eq rb (by decide) ?_
      simp only [d1, d2, d3, go_sem, Int.reduceNegSucc, Nat.reduceAdd, Nat.reduceSub, Nat.reduceMul, Nat.reduceEqDiff, Nat.reduceLeDiff, Nat.reduceLT, Nat.reduceBEq, Nat.reduceBNe, reduceIte, reduceCtorEq, Int.reduceToNat, Int.reduceAdd, Int.reduceSub, Int.reduceMul, Int.reduceNeg, Int.reduceLT, Int.reduceLE, Int.reduceEq, Int.reduceNe, ints, ic, big]
      refine CallP_eq hl (by decide) ?_
      simp only [go_sem, Int.reduceNegSucc, Nat.reduceAdd, Nat.reduceSub, Nat.reduceMul, Nat.reduceEqDiff, Nat.reduceLeDiff, Nat.reduceLT, Nat.reduceBEq, Nat.reduceBNe, reduceIte, reduceCtorEq, Int.reduceToNat, Int.reduceAdd, Int.reduceSub, Int.reduceMul, Int.reduceNeg, Int.reduceLT, Int.reduceLE, Int.reduceEq, Int.reduceNe, ints, ic, big]
      refine DrawS_of (by decide +kernel) ?_
      simp only [hb1, go_sem, Int.reduceNegSucc, Nat.reduceAdd, Nat.reduceSub, Nat.reduceMul, Nat.reduceEqDiff, Nat.reduceLeDiff, Nat.reduceLT, Nat.reduceBEq, Nat.reduceBNe, reduceIte, reduceCtorEq, Int.reduceToNat, Int.reduceAdd, Int.reduceSub, Int.reduceMul, Int.reduceNeg, Int.reduceLT, Int.reduceLE, Int.reduceEq, Int.reduceNe, ints, ic, big]
      refine CallD_eq hp (by decide) ?_
      simp only [go_sem, Int.reduceNegSucc, Nat.reduceAdd, Nat.reduceSub, Nat.reduceMul, Nat.reduceEqDiff, Nat.reduceLeDiff, Nat.reduceLT, Nat.reduceBEq, Nat.reduceBNe, reduceIte, reduceCtorEq, Int.reduceToNat, Int.reduceAdd, Int.reduceSub, Int.reduceMul, Int.reduceNeg, Int.reduceLT, Int.reduceLE, Int.reduceEq, Int.reduceNe, ints, ic, big]
      refine CallD_eq hm (by decide) ?_
      simp only [go_sem, Int.reduceNegSucc, Nat.reduceAdd, Nat.reduceSub, Nat.reduceMul, Nat.reduceEqDiff, Nat.reduceLeDiff, Nat.reduceLT, Nat.reduceBEq, Nat.reduceBNe, reduceIte, reduceCtorEq, Int.reduceToNat, Int.reduceAdd, Int.reduceSub, Int.reduceMul, Int.reduceNeg, Int.reduceLT, Int.reduceLE, Int.reduceEq, Int.reduceNe, ints, ic, big]
end Go.Proofs.Ytpnlfkaijdjhlaa

namespace Go.Proofs.Ytpnlfkaijdjhlaa
set_option linter.all false
open Go.Abs

theorem t_sub (a b : Int) (la : (dig a.natAbs).length ≤ 90000) (lb : (dig b.natAbs).length ≤ 90000) : Ctr G.P 65 [big a, big b] (· = .tup [big (a - b), .int 0]) := by
  have rb := t_rightb b (by omega)
  have hn := t_neg b (by omega)
  have ha := t_add a (-b) la (by rw [Int.natAbs_neg]; exact lb)
  rw [show a + -b = a - b by omega] at ha
  simp only [big, ints] at rb hn ha
  refine ctr_go good _ _ [.cell 4 47, .tmp 5] Try.func65 rfl rfl (by decide +kernel) rfl ?_
  simp only [go_sem, Int.reduceNegSucc, Nat.reduceAdd, Nat.reduceSub, Nat.reduceMul, Nat.reduceEqDiff, Nat.reduceLeDiff, Nat.reduceLT, Nat.reduceBEq, Nat.reduceBNe, reduceIte, reduceCtorEq, Int.reduceToNat, Int.reduceAdd, Int.reduceSub, Int.reduceMul, Int.reduceNeg, Int.reduceLT, Int.reduceLE, Int.reduceEq, Int.reduceNe, ints, ic, big]
  refine CallP_eq rb (by decide) ?_
  simp only [go_sem, Int.reduceNegSucc, Nat.reduceAdd, Nat.reduceSub, Nat.reduceMul, Nat.reduceEqDiff, Nat.reduceLeDiff, Nat.reduceLT, Nat.reduceBEq, Nat.reduceBNe, reduceIte, reduceCtorEq, Int.reduceToNat, Int.reduceAdd, Int.reduceSub, Int.reduceMul, Int.reduceNeg, Int.reduceLT, Int.reduceLE, Int.reduceEq, Int.reduceNe, ints, ic, big]
  refine DrawS_of (by decide +kernel) ?_
  simp only [go_sem, Int.reduceNegSucc, Nat.reduceAdd, Nat.reduceSub, Nat.reduceMul, Nat.reduceEqDiff, Nat.reduceLeDiff, Nat.reduceLT, Nat.reduceBEq, Nat.reduceBNe, reduceIte, reduceCtorEq, Int.reduceToNat, Int.reduceAdd, Int.reduceSub, Int.reduceMul, Int.reduceNeg, Int.reduceLT, Int.reduceLE, Int.reduceEq, Int.reduceNe, ints, ic, big]
  refine CallD_eq hn (by decide) ?_
  simp only [go_sem, Int.reduceNegSucc, Nat.reduceAdd, Nat.reduceSub, Nat.reduceMul, Nat.reduceEqDiff, Nat.reduceLeDiff, Nat.reduceLT, Nat.reduceBEq, Nat.reduceBNe, reduceIte, reduceCtorEq, Int.reduceToNat, Int.reduceAdd, Int.reduceSub, Int.reduceMul, Int.reduceNeg, Int.reduceLT, Int.reduceLE, Int.reduceEq, Int.reduceNe, ints, ic, big]
  refine CallD_eq ha (by decide) ?_
  simp only [go_sem, Int.reduceNegSucc, Nat.reduceAdd, Nat.reduceSub, Nat.reduceMul, Nat.reduceEqDiff, Nat.reduceLeDiff, Nat.reduceLT, Nat.reduceBEq, Nat.reduceBNe, reduceIte, reduceCtorEq, Int.reduceToNat, Int.reduceAdd, Int.reduceSub, Int.reduceMul, Int.reduceNeg, Int.reduceLT, Int.reduceLE, Int.reduceEq, Int.reduceNe, ints, ic, big]
end Go.Proofs.Ytpnlfkaijdjhlaa
