/- A part of the proof: what functions of the program do, and the layer under it. No further condition. -/
import Derived.Test.YtpnlfkaijdjhlabKX20
import Derived.Test.YtpnlfkaijdjhlabKX18
namespace Go.Proofs.Ytpnlfkaijdjhlab
set_option linter.all false
open Go.Abs

theorem cents_eq {r : Rat} (limit : Int) (h : 0 ≤ r.num) : centsR r limit = min (min (flr r) (if limit < 0 then 1125899906842624 else limit)) 1125899906842624 := by
  have h0 : ¬ r.num.sign < 0 := by
    have := Int.sign_nonneg_iff.2 h; omega
  have hf : 0 ≤ flr r := by
    unfold flr
    rw [Int.fdiv_eq_ediv_of_nonneg _ (by omega)]
    exact Int.ediv_nonneg h (by omega)
  rw [centsR, if_neg h0, centsN]
  by_cases h1 : fits (flr r) = true
  · rw [if_pos h1, fits_yes h1]
  · rw [if_neg h1]
    rw [fits, Bool.and_eq_true, decide_eq_true_eq, decide_eq_true_eq] at h1
    split <;> omega
theorem cents_neg {r : Rat} (limit : Int) (h : r.num < 0) : centsR r limit = 0 := by
  rw [centsR, if_pos]
  have := Int.sign_eq_neg_one_of_neg h; omega
theorem flr_mono {a b : Rat} (h : a ≤ b) : flr a ≤ flr b := by
  rw [Rat.le_iff] at h
  have ha := a.den_pos
  have hb := b.den_pos
  unfold flr
  rw [Int.fdiv_eq_ediv_of_nonneg _ (by omega), Int.fdiv_eq_ediv_of_nonneg _ (by omega)]
  refine Int.le_ediv_of_mul_le (by omega) ?_
  have h1 : a.num / (a.den : Int) * a.den ≤ a.num := Int.ediv_mul_le _ (by omega)
  have h2 : a.num / (a.den : Int) * a.den * b.den ≤ a.num * b.den := Int.mul_le_mul_of_nonneg_right h1 (by omega)
  have h3 : a.num / (a.den : Int) * b.den * a.den ≤ b.num * a.den := by
    rw [Int.mul_right_comm]; exact Int.le_trans h2 h
  exact Int.le_of_mul_le_mul_right h3 (by omega)
theorem flr_nonneg {r : Rat} (h : 0 ≤ r.num) : 0 ≤ flr r := by
  unfold flr
  rw [Int.fdiv_eq_ediv_of_nonneg _ (by omega)]
  exact Int.ediv_nonneg h (by omega)
theorem cents_range (r : Rat) (limit : Int) : 0 ≤ centsR r limit ∧ centsR r limit ≤ 1125899906842624 ∧ (0 ≤ limit → centsR r limit ≤ limit) := by
  by_cases h : 0 ≤ r.num
  · have := flr_nonneg h
    rw [cents_eq limit h]
    split <;> omega
  · rw [cents_neg limit (by omega)]; omega
theorem num_mono {a b : Rat} (h : a ≤ b) (ha : 0 ≤ a.num) : 0 ≤ b.num := by
  rw [Rat.le_iff] at h
  have hb := b.den_pos
  have h1 : 0 ≤ b.num * (a.den : Int) := Int.le_trans (Int.mul_nonneg ha (by omega)) h
  have hap := a.den_pos
  exact Int.le_of_mul_le_mul_right (a := (a.den : Int)) (by rw [Int.zero_mul]; exact h1) (by omega)
theorem cents_mono {a b : Rat} (limit : Int) (h : a ≤ b) : centsR a limit ≤ centsR b limit := by
  by_cases ha : 0 ≤ a.num
  · have := flr_mono h
    rw [cents_eq limit ha, cents_eq limit (num_mono h ha)]
    split <;> omega
  · rw [cents_neg limit (by omega)]; exact (cents_range b limit).1
theorem cents_more (a : Rat) {limit more : Int} (h : limit ≤ more) (h0 : 0 ≤ limit) : centsR a limit ≤ centsR a more := by
  by_cases ha : 0 ≤ a.num
  · rw [cents_eq limit ha, cents_eq more ha, if_neg (by omega), if_neg (by omega)]; omega
  · rw [cents_neg limit (by omega), cents_neg more (by omega)]; omega
theorem cents_none (a : Rat) (limit : Int) : centsR a limit ≤ centsR a (-1) := by
  by_cases ha : 0 ≤ a.num
  · rw [cents_eq limit ha, cents_eq (-1) ha, if_pos (show (-1 : Int) < 0 by omega)]; split <;> omega
  · rw [cents_neg limit (by omega), cents_neg (-1) (by omega)]; omega
theorem int_num (n : Int) : (Rat.divInt n 1).num = n ∧ (Rat.divInt n 1).den = 1 := by
  constructor <;> simp [Rat.divInt, mkRat, Rat.normalize]
/-- The amount is at most the fee. -/
theorem cents_below {a : Rat} (limit : Int) (ha : 0 ≤ a.num) : ¬ 0 < cmpR (Rat.divInt (centsR a limit) 1) a := by
  rw [cmpR_pos, Rat.not_lt, Rat.le_iff, (int_num _).1, (int_num _).2]
  have h := flr_nonneg ha
  have hd := a.den_pos
  have h1 : flr a * a.den ≤ a.num := by
    unfold flr
    rw [Int.fdiv_eq_ediv_of_nonneg _ (by omega)]
    exact Int.ediv_mul_le _ (by omega)
  have h2 : centsR a limit ≤ flr a := by rw [cents_eq limit ha]; split <;> omega
  have h3 : centsR a limit * a.den ≤ flr a * a.den := Int.mul_le_mul_of_nonneg_right h2 (by omega)
  omega
theorem cents_next {a : Rat} (limit : Int) (ha : 0 ≤ a.num) (h1 : centsR a limit ≠ 1125899906842624) (h2 : centsR a limit ≠ limit) : cmpR a (Rat.divInt (centsR a limit + 1) 1) < 0 := by
  rw [cmpR_neg, Rat.lt_iff, (int_num _).1, (int_num _).2]
  have hd := a.den_pos
  have h3 : centsR a limit = flr a := by
    rw [cents_eq limit ha] at h1 h2 ⊢
    split at h1 <;> rename_i hl
    · rw [if_pos hl] at h2 ⊢; omega
    · rw [if_neg hl] at h2 ⊢; omega
  rw [h3]
  unfold flr
  rw [Int.fdiv_eq_ediv_of_nonneg _ (by omega)]
  have := Int.lt_ediv_add_one_mul_self a.num (b := a.den) (by omega)
  omega
theorem cents_bad (limit : Int) : Ctr G.P 13 [.agg [.int 0, .sl [], .int 0, .sl []], .int limit] (· = .int 0) := by
  have := t_pcents0 0 0 [] [] limit (by simp) (by simp) (by decide +kernel)
  exact this
theorem len_small {n : Int} (h : 0 ≤ n ∧ n ≤ 9007199254740992) : (dig n.natAbs).length ≤ 50000 := by
  have := dig_len_le (n := n.natAbs) (k := 3) (by omega)
  omega
theorem dig_one_small : (dig 1).length ≤ 50000 := by
  have := dig_len_le (n := 1) (k := 1) (by omega)
  omega
set_option maxRecDepth 100000 in
set_option maxHeartbeats 8000000 in
theorem w_cents39 (s t : Int) (l m : List Int) (s' t' : Int) (l' m' : List Int) (limit more : Int) :
    Ctr G.P 5 [.agg [.int s, ints l, .int t, ints m], .agg [.int s', ints l', .int t', ints m'], .int limit, .int more] (· = .bool true) := by
  have fa := t_fewf s t l m 8
  have fb := t_fewf s' t' l' m' 8
  have hs := t_small39
  have hz := cents_bad limit
  by_cases h1 : (decide ((l.length : Int) ≤ 8) && decide ((m.length : Int) ≤ 8)) = true
  case neg =>
    have h1 : (decide ((l.length : Int) ≤ 8) && decide ((m.length : Int) ≤ 8)) = false := by simpa using h1
    rw [h1] at fa
    refine ctr_go good _ _ [.tmp 8] Try.func5 rfl rfl (by decide +kernel) rfl ?_
    simp only [go_sem, Int.reduceNegSucc, Nat.reduceAdd, Nat.reduceSub, Nat.reduceMul, Nat.reduceEqDiff, Nat.reduceLeDiff, Nat.reduceLT, Nat.reduceBEq, Nat.reduceBNe, reduceIte, reduceCtorEq, Int.reduceToNat, Int.reduceAdd, Int.reduceSub, Int.reduceMul, Int.reduceNeg, Int.reduceLT, Int.reduceLE, Int.reduceEq, Int.reduceNe, posts, pcells, ints, ic, big, frac]
    refine CallP_eq hs (by decide) ?_
    simp only [go_sem, Int.reduceNegSucc, Nat.reduceAdd, Nat.reduceSub, Nat.reduceMul, Nat.reduceEqDiff, Nat.reduceLeDiff, Nat.reduceLT, Nat.reduceBEq, Nat.reduceBNe, reduceIte, reduceCtorEq, Int.reduceToNat, Int.reduceAdd, Int.reduceSub, Int.reduceMul, Int.reduceNeg, Int.reduceLT, Int.reduceLE, Int.reduceEq, Int.reduceNe, posts, pcells, ints, ic, big, frac]
    refine CallP_eq fa (by decide) ?_
    simp only [go_sem, Int.reduceNegSucc, Nat.reduceAdd, Nat.reduceSub, Nat.reduceMul, Nat.reduceEqDiff, Nat.reduceLeDiff, Nat.reduceLT, Nat.reduceBEq, Nat.reduceBNe, reduceIte, reduceCtorEq, Int.reduceToNat, Int.reduceAdd, Int.reduceSub, Int.reduceMul, Int.reduceNeg, Int.reduceLT, Int.reduceLE, Int.reduceEq, Int.reduceNe, posts, pcells, ints, ic, big, frac]
    refine CallP_eq hz (by decide) ?_
    simp only [go_sem, Int.reduceNegSucc, Nat.reduceAdd, Nat.reduceSub, Nat.reduceMul, Nat.reduceEqDiff, Nat.reduceLeDiff, Nat.reduceLT, Nat.reduceBEq, Nat.reduceBNe, reduceIte, reduceCtorEq, Int.reduceToNat, Int.reduceAdd, Int.reduceSub, Int.reduceMul, Int.reduceNeg, Int.reduceLT, Int.reduceLE, Int.reduceEq, Int.reduceNe, posts, pcells, ints, ic, big, frac]
  case pos =>
  rw [h1] at fa
  rw [Bool.and_eq_true, decide_eq_true_eq, decide_eq_true_eq] at h1
  by_cases h2 : (decide ((l'.length : Int) ≤ 8) && decide ((m'.length : Int) ≤ 8)) = true
  case neg =>
    have h2 : (decide ((l'.length : Int) ≤ 8) && decide ((m'.length : Int) ≤ 8)) = false := by simpa using h2
    rw [h2] at fb
    refine ctr_go good _ _ [.tmp 8] Try.func5 rfl rfl (by decide +kernel) rfl ?_
    simp only [go_sem, Int.reduceNegSucc, Nat.reduceAdd, Nat.reduceSub, Nat.reduceMul, Nat.reduceEqDiff, Nat.reduceLeDiff, Nat.reduceLT, Nat.reduceBEq, Nat.reduceBNe, reduceIte, reduceCtorEq, Int.reduceToNat, Int.reduceAdd, Int.reduceSub, Int.reduceMul, Int.reduceNeg, Int.reduceLT, Int.reduceLE, Int.reduceEq, Int.reduceNe, posts, pcells, ints, ic, big, frac]
    refine CallP_eq hs (by decide) ?_
    simp only [go_sem, Int.reduceNegSucc, Nat.reduceAdd, Nat.reduceSub, Nat.reduceMul, Nat.reduceEqDiff, Nat.reduceLeDiff, Nat.reduceLT, Nat.reduceBEq, Nat.reduceBNe, reduceIte, reduceCtorEq, Int.reduceToNat, Int.reduceAdd, Int.reduceSub, Int.reduceMul, Int.reduceNeg, Int.reduceLT, Int.reduceLE, Int.reduceEq, Int.reduceNe, posts, pcells, ints, ic, big, frac]
    refine CallP_eq fa (by decide) ?_
    simp only [go_sem, Int.reduceNegSucc, Nat.reduceAdd, Nat.reduceSub, Nat.reduceMul, Nat.reduceEqDiff, Nat.reduceLeDiff, Nat.reduceLT, Nat.reduceBEq, Nat.reduceBNe, reduceIte, reduceCtorEq, Int.reduceToNat, Int.reduceAdd, Int.reduceSub, Int.reduceMul, Int.reduceNeg, Int.reduceLT, Int.reduceLE, Int.reduceEq, Int.reduceNe, posts, pcells, ints, ic, big, frac]
    refine CallP_eq fb (by decide) ?_
    simp only [go_sem, Int.reduceNegSucc, Nat.reduceAdd, Nat.reduceSub, Nat.reduceMul, Nat.reduceEqDiff, Nat.reduceLeDiff, Nat.reduceLT, Nat.reduceBEq, Nat.reduceBNe, reduceIte, reduceCtorEq, Int.reduceToNat, Int.reduceAdd, Int.reduceSub, Int.reduceMul, Int.reduceNeg, Int.reduceLT, Int.reduceLE, Int.reduceEq, Int.reduceNe, posts, pcells, ints, ic, big, frac]
    refine CallP_eq hz (by decide) ?_
    simp only [go_sem, Int.reduceNegSucc, Nat.reduceAdd, Nat.reduceSub, Nat.reduceMul, Nat.reduceEqDiff, Nat.reduceLeDiff, Nat.reduceLT, Nat.reduceBEq, Nat.reduceBNe, reduceIte, reduceCtorEq, Int.reduceToNat, Int.reduceAdd, Int.reduceSub, Int.reduceMul, Int.reduceNeg, Int.reduceLT, Int.reduceLE, Int.reduceEq, Int.reduceNe, posts, pcells, ints, ic, big, frac]
  case pos =>
  rw [h2] at fb
  rw [Bool.and_eq_true, decide_eq_true_eq, decide_eq_true_eq] at h2
  have ra := t_pfright s t l m (by omega) (by omega)
  have rb := t_pfright s' t' l' m' (by omega) (by omega)
  by_cases h3 : fracF s l t m = true
  case neg =>
    have h3 : fracF s l t m = false := by simpa using h3
    rw [h3] at ra
    refine ctr_go good _ _ [.tmp 8] Try.func5 rfl rfl (by decide +kernel) rfl ?_
    simp only [go_sem, Int.reduceNegSucc, Nat.reduceAdd, Nat.reduceSub, Nat.reduceMul, Nat.reduceEqDiff, Nat.reduceLeDiff, Nat.reduceLT, Nat.reduceBEq, Nat.reduceBNe, reduceIte, reduceCtorEq, Int.reduceToNat, Int.reduceAdd, Int.reduceSub, Int.reduceMul, Int.reduceNeg, Int.reduceLT, Int.reduceLE, Int.reduceEq, Int.reduceNe, posts, pcells, ints, ic, big, frac]
    refine CallP_eq hs (by decide) ?_
    simp only [go_sem, Int.reduceNegSucc, Nat.reduceAdd, Nat.reduceSub, Nat.reduceMul, Nat.reduceEqDiff, Nat.reduceLeDiff, Nat.reduceLT, Nat.reduceBEq, Nat.reduceBNe, reduceIte, reduceCtorEq, Int.reduceToNat, Int.reduceAdd, Int.reduceSub, Int.reduceMul, Int.reduceNeg, Int.reduceLT, Int.reduceLE, Int.reduceEq, Int.reduceNe, posts, pcells, ints, ic, big, frac]
    refine CallP_eq fa (by decide) ?_
    simp only [go_sem, Int.reduceNegSucc, Nat.reduceAdd, Nat.reduceSub, Nat.reduceMul, Nat.reduceEqDiff, Nat.reduceLeDiff, Nat.reduceLT, Nat.reduceBEq, Nat.reduceBNe, reduceIte, reduceCtorEq, Int.reduceToNat, Int.reduceAdd, Int.reduceSub, Int.reduceMul, Int.reduceNeg, Int.reduceLT, Int.reduceLE, Int.reduceEq, Int.reduceNe, posts, pcells, ints, ic, big, frac]
    refine CallP_eq fb (by decide) ?_
    simp only [go_sem, Int.reduceNegSucc, Nat.reduceAdd, Nat.reduceSub, Nat.reduceMul, Nat.reduceEqDiff, Nat.reduceLeDiff, Nat.reduceLT, Nat.reduceBEq, Nat.reduceBNe, reduceIte, reduceCtorEq, Int.reduceToNat, Int.reduceAdd, Int.reduceSub, Int.reduceMul, Int.reduceNeg, Int.reduceLT, Int.reduceLE, Int.reduceEq, Int.reduceNe, posts, pcells, ints, ic, big, frac]
    refine CallP_eq ra (by decide) ?_
    simp only [go_sem, Int.reduceNegSucc, Nat.reduceAdd, Nat.reduceSub, Nat.reduceMul, Nat.reduceEqDiff, Nat.reduceLeDiff, Nat.reduceLT, Nat.reduceBEq, Nat.reduceBNe, reduceIte, reduceCtorEq, Int.reduceToNat, Int.reduceAdd, Int.reduceSub, Int.reduceMul, Int.reduceNeg, Int.reduceLT, Int.reduceLE, Int.reduceEq, Int.reduceNe, posts, pcells, ints, ic, big, frac]
    refine CallP_eq hz (by decide) ?_
    simp only [go_sem, Int.reduceNegSucc, Nat.reduceAdd, Nat.reduceSub, Nat.reduceMul, Nat.reduceEqDiff, Nat.reduceLeDiff, Nat.reduceLT, Nat.reduceBEq, Nat.reduceBNe, reduceIte, reduceCtorEq, Int.reduceToNat, Int.reduceAdd, Int.reduceSub, Int.reduceMul, Int.reduceNeg, Int.reduceLT, Int.reduceLE, Int.reduceEq, Int.reduceNe, posts, pcells, ints, ic, big, frac]
  case pos =>
  rw [h3] at ra
  by_cases h4 : fracF s' l' t' m' = true
  case neg =>
    have h4 : fracF s' l' t' m' = false := by simpa using h4
    rw [h4] at rb
    refine ctr_go good _ _ [.tmp 8] Try.func5 rfl rfl (by decide +kernel) rfl ?_
    simp only [go_sem, Int.reduceNegSucc, Nat.reduceAdd, Nat.reduceSub, Nat.reduceMul, Nat.reduceEqDiff, Nat.reduceLeDiff, Nat.reduceLT, Nat.reduceBEq, Nat.reduceBNe, reduceIte, reduceCtorEq, Int.reduceToNat, Int.reduceAdd, Int.reduceSub, Int.reduceMul, Int.reduceNeg, Int.reduceLT, Int.reduceLE, Int.reduceEq, Int.reduceNe, posts, pcells, ints, ic, big, frac]
    refine CallP_eq hs (by decide) ?_
    simp only [go_sem, Int.reduceNegSucc, Nat.reduceAdd, Nat.reduceSub, Nat.reduceMul, Nat.reduceEqDiff, Nat.reduceLeDiff, Nat.reduceLT, Nat.reduceBEq, Nat.reduceBNe, reduceIte, reduceCtorEq, Int.reduceToNat, Int.reduceAdd, Int.reduceSub, Int.reduceMul, Int.reduceNeg, Int.reduceLT, Int.reduceLE, Int.reduceEq, Int.reduceNe, posts, pcells, ints, ic, big, frac]
    refine CallP_eq fa (by decide) ?_
    simp only [go_sem, Int.reduceNegSucc, Nat.reduceAdd, Nat.reduceSub, Nat.reduceMul, Nat.reduceEqDiff, Nat.reduceLeDiff, Nat.reduceLT, Nat.reduceBEq, Nat.reduceBNe, reduceIte, reduceCtorEq, Int.reduceToNat, Int.reduceAdd, Int.reduceSub, Int.reduceMul, Int.reduceNeg, Int.reduceLT, Int.reduceLE, Int.reduceEq, Int.reduceNe, posts, pcells, ints, ic, big, frac]
    refine CallP_eq fb (by decide) ?_
    simp only [go_sem, Int.reduceNegSucc, Nat.reduceAdd, Nat.reduceSub, Nat.reduceMul, Nat.reduceEqDiff, Nat.reduceLeDiff, Nat.reduceLT, Nat.reduceBEq, Nat.reduceBNe, reduceIte, reduceCtorEq, Int.reduceToNat, Int.reduceAdd, Int.reduceSub, Int.reduceMul, Int.reduceNeg, Int.reduceLT, Int.reduceLE, Int.reduceEq, Int.reduceNe, posts, pcells, ints, ic, big, frac]
    refine CallP_eq ra (by decide) ?_
    simp only [go_sem, Int.reduceNegSucc, Nat.reduceAdd, Nat.reduceSub, Nat.reduceMul, Nat.reduceEqDiff, Nat.reduceLeDiff, Nat.reduceLT, Nat.reduceBEq, Nat.reduceBNe, reduceIte, reduceCtorEq, Int.reduceToNat, Int.reduceAdd, Int.reduceSub, Int.reduceMul, Int.reduceNeg, Int.reduceLT, Int.reduceLE, Int.reduceEq, Int.reduceNe, posts, pcells, ints, ic, big, frac]
    refine CallP_eq rb (by decide) ?_
    simp only [go_sem, Int.reduceNegSucc, Nat.reduceAdd, Nat.reduceSub, Nat.reduceMul, Nat.reduceEqDiff, Nat.reduceLeDiff, Nat.reduceLT, Nat.reduceBEq, Nat.reduceBNe, reduceIte, reduceCtorEq, Int.reduceToNat, Int.reduceAdd, Int.reduceSub, Int.reduceMul, Int.reduceNeg, Int.reduceLT, Int.reduceLE, Int.reduceEq, Int.reduceNe, posts, pcells, ints, ic, big, frac]
    refine CallP_eq hz (by decide) ?_
    simp only [go_sem, Int.reduceNegSucc, Nat.reduceAdd, Nat.reduceSub, Nat.reduceMul, Nat.reduceEqDiff, Nat.reduceLeDiff, Nat.reduceLT, Nat.reduceBEq, Nat.reduceBNe, reduceIte, reduceCtorEq, Int.reduceToNat, Int.reduceAdd, Int.reduceSub, Int.reduceMul, Int.reduceNeg, Int.reduceLT, Int.reduceLE, Int.reduceEq, Int.reduceNe, posts, pcells, ints, ic, big, frac]
  case pos =>
  rw [h4] at rb
  obtain ⟨a, rfl, rfl, rfl, rfl⟩ := frac_of h3
  obtain ⟨b, rfl, rfl, rfl, rfl⟩ := frac_of h4
  rw [Int.natAbs_natCast] at h1 h2
  have ca := t_pcents a limit (by omega) (by omega)
  have cb := t_pcents b limit (by omega) (by omega)
  have cm := t_pcents a more (by omega) (by omega)
  have cn := t_pcents a (-1) (by omega) (by omega)
  have cc := t_pcmpf a b (by omega) (by omega) (by omega) (by omega)
  have sg := t_psignf a (by omega) (by omega)
  have hrn := cents_range a limit
  have hint := t_intf (centsR a limit) (by omega)
  have hint1 := t_intf (centsR a limit + 1) (by omega)
  have ci := t_pcmpf (Rat.divInt (centsR a limit) 1) a (by rw [(int_num _).1]; exact len_small (by omega)) (by rw [(int_num _).2]; exact dig_one_small) (by omega) (by omega)
  have ci1 := t_pcmpf a (Rat.divInt (centsR a limit + 1) 1) (by omega) (by omega) (by rw [(int_num _).1]; exact len_small (by omega)) (by rw [(int_num _).2]; exact dig_one_small)
  simp only [frac] at ca cb cm cn cc sg hint hint1 ci ci1
  have hw := i64_ok (n := centsR a limit + 1) (by omega)
  have e1 : decide (centsR a limit < 0) = false := decide_eq_false (by omega)
  have e2 : decide (1125899906842624 < centsR a limit) = false := decide_eq_false (by omega)
  have e3 : decide (0 ≤ limit) = true → decide (limit < centsR a limit) = false := fun h => decide_eq_false (by have := hrn.2.2 (of_decide_eq_true h); omega)
  have e4 : decide (cmpR a b ≤ 0) = true → decide (centsR b limit < centsR a limit) = false := fun h => decide_eq_false (by
    have h5 : ¬ 0 < cmpR a b := by have := of_decide_eq_true h; omega
    rw [cmpR_pos, Rat.not_lt] at h5
    have := cents_mono limit h5; omega)
  have e5 : decide (0 ≤ limit) = true → decide (limit ≤ more) = true → decide (centsR a more < centsR a limit) = false := fun h h' => decide_eq_false (by have := cents_more a (of_decide_eq_true h') (of_decide_eq_true h); omega)
  have e6 : decide (centsR a (-1) < centsR a limit) = false := decide_eq_false (by have := cents_none a limit; omega)
  have e7 : decide (a.num.sign < 0) = true → decide (centsR a limit = 0) = true := fun h => decide_eq_true (cents_neg limit (by
    have := of_decide_eq_true h
    by_cases h0 : a.num < 0
    · exact h0
    · have := Int.sign_nonneg_iff.2 (show 0 ≤ a.num by omega); omega))
  have e8 : decide (a.num.sign < 0) = false → 0 ≤ a.num := fun h => by
    by_cases h0 : a.num < 0
    · have := Int.sign_eq_neg_one_of_neg h0
      have := of_decide_eq_false h; omega
    · omega
  have e9 : decide (a.num.sign < 0) = false → decide (0 < cmpR (Rat.divInt (centsR a limit) 1) a) = false := fun h => decide_eq_false (cents_below limit (e8 h))
  have e10 : decide (a.num.sign < 0) = false → decide (centsR a limit = 1125899906842624) = false → decide (centsR a limit = limit) = false → decide (cmpR a (Rat.divInt (centsR a limit + 1) 1) < 0) = true :=
    fun h h1 h2 => decide_eq_true (cents_next limit (e8 h) (of_decide_eq_false h1) (of_decide_eq_false h2))
  generalize Rat.divInt (centsR a limit) 1 = q at *
  generalize Rat.divInt (centsR a limit + 1) 1 = q1 at *
  generalize centsR a limit = n at *
  generalize centsR b limit = k at *
  generalize centsR a more = k1 at *
  generalize centsR a (-1) = k2 at *
  generalize cmpR a b = u1 at *
  generalize cmpR q a = u2 at *
  generalize cmpR a q1 = u3 at *
  generalize hsg : a.num.sign = z at *
  refine ctr_go good _ _ [.tmp 8] Try.func5 rfl rfl (by decide +kernel) rfl ?_
  simp only [go_sem, Int.reduceNegSucc, Nat.reduceAdd, Nat.reduceSub, Nat.reduceMul, Nat.reduceEqDiff, Nat.reduceLeDiff, Nat.reduceLT, Nat.reduceBEq, Nat.reduceBNe, reduceIte, reduceCtorEq, Int.reduceToNat, Int.reduceAdd, Int.reduceSub, Int.reduceMul, Int.reduceNeg, Int.reduceLT, Int.reduceLE, Int.reduceEq, Int.reduceNe, posts, pcells, ints, ic, big, frac]
  refine CallP_eq hs (by decide) ?_
  simp only [go_sem, Int.reduceNegSucc, Nat.reduceAdd, Nat.reduceSub, Nat.reduceMul, Nat.reduceEqDiff, Nat.reduceLeDiff, Nat.reduceLT, Nat.reduceBEq, Nat.reduceBNe, reduceIte, reduceCtorEq, Int.reduceToNat, Int.reduceAdd, Int.reduceSub, Int.reduceMul, Int.reduceNeg, Int.reduceLT, Int.reduceLE, Int.reduceEq, Int.reduceNe, posts, pcells, ints, ic, big, frac]
  refine CallP_eq fa (by decide) ?_
  simp only [go_sem, Int.reduceNegSucc, Nat.reduceAdd, Nat.reduceSub, Nat.reduceMul, Nat.reduceEqDiff, Nat.reduceLeDiff, Nat.reduceLT, Nat.reduceBEq, Nat.reduceBNe, reduceIte, reduceCtorEq, Int.reduceToNat, Int.reduceAdd, Int.reduceSub, Int.reduceMul, Int.reduceNeg, Int.reduceLT, Int.reduceLE, Int.reduceEq, Int.reduceNe, posts, pcells, ints, ic, big, frac]
  refine CallP_eq fb (by decide) ?_
  simp only [go_sem, Int.reduceNegSucc, Nat.reduceAdd, Nat.reduceSub, Nat.reduceMul, Nat.reduceEqDiff, Nat.reduceLeDiff, Nat.reduceLT, Nat.reduceBEq, Nat.reduceBNe, reduceIte, reduceCtorEq, Int.reduceToNat, Int.reduceAdd, Int.reduceSub, Int.reduceMul, Int.reduceNeg, Int.reduceLT, Int.reduceLE, Int.reduceEq, Int.reduceNe, posts, pcells, ints, ic, big, frac]
  refine CallP_eq ra (by decide) ?_
  simp only [go_sem, Int.reduceNegSucc, Nat.reduceAdd, Nat.reduceSub, Nat.reduceMul, Nat.reduceEqDiff, Nat.reduceLeDiff, Nat.reduceLT, Nat.reduceBEq, Nat.reduceBNe, reduceIte, reduceCtorEq, Int.reduceToNat, Int.reduceAdd, Int.reduceSub, Int.reduceMul, Int.reduceNeg, Int.reduceLT, Int.reduceLE, Int.reduceEq, Int.reduceNe, posts, pcells, ints, ic, big, frac]
  refine CallP_eq rb (by decide) ?_
  simp only [go_sem, Int.reduceNegSucc, Nat.reduceAdd, Nat.reduceSub, Nat.reduceMul, Nat.reduceEqDiff, Nat.reduceLeDiff, Nat.reduceLT, Nat.reduceBEq, Nat.reduceBNe, reduceIte, reduceCtorEq, Int.reduceToNat, Int.reduceAdd, Int.reduceSub, Int.reduceMul, Int.reduceNeg, Int.reduceLT, Int.reduceLE, Int.reduceEq, Int.reduceNe, posts, pcells, ints, ic, big, frac]
  refine CallP_eq ca (by decide) ?_
  simp only [go_sem, Int.reduceNegSucc, Nat.reduceAdd, Nat.reduceSub, Nat.reduceMul, Nat.reduceEqDiff, Nat.reduceLeDiff, Nat.reduceLT, Nat.reduceBEq, Nat.reduceBNe, reduceIte, reduceCtorEq, Int.reduceToNat, Int.reduceAdd, Int.reduceSub, Int.reduceMul, Int.reduceNeg, Int.reduceLT, Int.reduceLE, Int.reduceEq, Int.reduceNe, posts, pcells, ints, ic, big, frac]
  refine CallP_eq cb (by decide) ?_
  simp only [e1, e2, go_sem, Int.reduceNegSucc, Nat.reduceAdd, Nat.reduceSub, Nat.reduceMul, Nat.reduceEqDiff, Nat.reduceLeDiff, Nat.reduceLT, Nat.reduceBEq, Nat.reduceBNe, reduceIte, reduceCtorEq, Int.reduceToNat, Int.reduceAdd, Int.reduceSub, Int.reduceMul, Int.reduceNeg, Int.reduceLT, Int.reduceLE, Int.reduceEq, Int.reduceNe, posts, pcells, ints, ic, big, frac]
  clear ca cb hz fa fb ra rb h3 h4 hs e8
  by_cases hs0 : z < 0
  · have d0 : decide (z < 0) = true := decide_eq_true hs0
    have e7 := e7 d0
    clear e9 e10 hint hint1 ci ci1 hrn hw h1 h2
    repeat' (first
      | (refine Two_of (fun d => ?_) (fun d => ?_) <;> simp only [*, go_sem, Int.reduceNegSucc, Nat.reduceAdd, Nat.reduceSub, Nat.reduceMul, Nat.reduceEqDiff, Nat.reduceLeDiff, Nat.reduceLT, Nat.reduceBEq, Nat.reduceBNe, reduceIte, reduceCtorEq, Int.reduceToNat, Int.reduceAdd, Int.reduceSub, Int.reduceMul, Int.reduceNeg, Int.reduceLT, Int.reduceLE, Int.reduceEq, Int.reduceNe, posts, pcells, ints, ic, big, frac])
      | (refine CallP_eq cc (by decide) ?_; simp only [*, go_sem, Int.reduceNegSucc, Nat.reduceAdd, Nat.reduceSub, Nat.reduceMul, Nat.reduceEqDiff, Nat.reduceLeDiff, Nat.reduceLT, Nat.reduceBEq, Nat.reduceBNe, reduceIte, reduceCtorEq, Int.reduceToNat, Int.reduceAdd, Int.reduceSub, Int.reduceMul, Int.reduceNeg, Int.reduceLT, Int.reduceLE, Int.reduceEq, Int.reduceNe, posts, pcells, ints, ic, big, frac])
      | (refine CallP_eq cm (by decide) ?_; simp only [*, go_sem, Int.reduceNegSucc, Nat.reduceAdd, Nat.reduceSub, Nat.reduceMul, Nat.reduceEqDiff, Nat.reduceLeDiff, Nat.reduceLT, Nat.reduceBEq, Nat.reduceBNe, reduceIte, reduceCtorEq, Int.reduceToNat, Int.reduceAdd, Int.reduceSub, Int.reduceMul, Int.reduceNeg, Int.reduceLT, Int.reduceLE, Int.reduceEq, Int.reduceNe, posts, pcells, ints, ic, big, frac])
      | (refine CallP_eq cn (by decide) ?_; simp only [*, go_sem, Int.reduceNegSucc, Nat.reduceAdd, Nat.reduceSub, Nat.reduceMul, Nat.reduceEqDiff, Nat.reduceLeDiff, Nat.reduceLT, Nat.reduceBEq, Nat.reduceBNe, reduceIte, reduceCtorEq, Int.reduceToNat, Int.reduceAdd, Int.reduceSub, Int.reduceMul, Int.reduceNeg, Int.reduceLT, Int.reduceLE, Int.reduceEq, Int.reduceNe, posts, pcells, ints, ic, big, frac])
      | (refine CallP_eq sg (by decide) ?_; simp only [*, go_sem, Int.reduceNegSucc, Nat.reduceAdd, Nat.reduceSub, Nat.reduceMul, Nat.reduceEqDiff, Nat.reduceLeDiff, Nat.reduceLT, Nat.reduceBEq, Nat.reduceBNe, reduceIte, reduceCtorEq, Int.reduceToNat, Int.reduceAdd, Int.reduceSub, Int.reduceMul, Int.reduceNeg, Int.reduceLT, Int.reduceLE, Int.reduceEq, Int.reduceNe, posts, pcells, ints, ic, big, frac]))
  · have d0 : decide (z < 0) = false := decide_eq_false hs0
    have e9 := e9 d0
    have e10 := e10 d0
    clear e7 hrn h1 h2
    repeat' (first
      | (refine Two_of (fun d => ?_) (fun d => ?_) <;> simp only [*, go_sem, Int.reduceNegSucc, Nat.reduceAdd, Nat.reduceSub, Nat.reduceMul, Nat.reduceEqDiff, Nat.reduceLeDiff, Nat.reduceLT, Nat.reduceBEq, Nat.reduceBNe, reduceIte, reduceCtorEq, Int.reduceToNat, Int.reduceAdd, Int.reduceSub, Int.reduceMul, Int.reduceNeg, Int.reduceLT, Int.reduceLE, Int.reduceEq, Int.reduceNe, posts, pcells, ints, ic, big, frac])
      | (refine CallP_eq cc (by decide) ?_; simp only [*, go_sem, Int.reduceNegSucc, Nat.reduceAdd, Nat.reduceSub, Nat.reduceMul, Nat.reduceEqDiff, Nat.reduceLeDiff, Nat.reduceLT, Nat.reduceBEq, Nat.reduceBNe, reduceIte, reduceCtorEq, Int.reduceToNat, Int.reduceAdd, Int.reduceSub, Int.reduceMul, Int.reduceNeg, Int.reduceLT, Int.reduceLE, Int.reduceEq, Int.reduceNe, posts, pcells, ints, ic, big, frac])
      | (refine CallP_eq cm (by decide) ?_; simp only [*, go_sem, Int.reduceNegSucc, Nat.reduceAdd, Nat.reduceSub, Nat.reduceMul, Nat.reduceEqDiff, Nat.reduceLeDiff, Nat.reduceLT, Nat.reduceBEq, Nat.reduceBNe, reduceIte, reduceCtorEq, Int.reduceToNat, Int.reduceAdd, Int.reduceSub, Int.reduceMul, Int.reduceNeg, Int.reduceLT, Int.reduceLE, Int.reduceEq, Int.reduceNe, posts, pcells, ints, ic, big, frac])
      | (refine CallP_eq cn (by decide) ?_; simp only [*, go_sem, Int.reduceNegSucc, Nat.reduceAdd, Nat.reduceSub, Nat.reduceMul, Nat.reduceEqDiff, Nat.reduceLeDiff, Nat.reduceLT, Nat.reduceBEq, Nat.reduceBNe, reduceIte, reduceCtorEq, Int.reduceToNat, Int.reduceAdd, Int.reduceSub, Int.reduceMul, Int.reduceNeg, Int.reduceLT, Int.reduceLE, Int.reduceEq, Int.reduceNe, posts, pcells, ints, ic, big, frac])
      | (refine CallP_eq sg (by decide) ?_; simp only [*, go_sem, Int.reduceNegSucc, Nat.reduceAdd, Nat.reduceSub, Nat.reduceMul, Nat.reduceEqDiff, Nat.reduceLeDiff, Nat.reduceLT, Nat.reduceBEq, Nat.reduceBNe, reduceIte, reduceCtorEq, Int.reduceToNat, Int.reduceAdd, Int.reduceSub, Int.reduceMul, Int.reduceNeg, Int.reduceLT, Int.reduceLE, Int.reduceEq, Int.reduceNe, posts, pcells, ints, ic, big, frac])
      | (refine DrawP_of 5 (by decide +kernel) ?_; simp only [*, go_sem, Int.reduceNegSucc, Nat.reduceAdd, Nat.reduceSub, Nat.reduceMul, Nat.reduceEqDiff, Nat.reduceLeDiff, Nat.reduceLT, Nat.reduceBEq, Nat.reduceBNe, reduceIte, reduceCtorEq, Int.reduceToNat, Int.reduceAdd, Int.reduceSub, Int.reduceMul, Int.reduceNeg, Int.reduceLT, Int.reduceLE, Int.reduceEq, Int.reduceNe, posts, pcells, ints, ic, big, frac])
      | (refine DrawP_of 19 (by decide +kernel) ?_; simp only [*, go_sem, Int.reduceNegSucc, Nat.reduceAdd, Nat.reduceSub, Nat.reduceMul, Nat.reduceEqDiff, Nat.reduceLeDiff, Nat.reduceLT, Nat.reduceBEq, Nat.reduceBNe, reduceIte, reduceCtorEq, Int.reduceToNat, Int.reduceAdd, Int.reduceSub, Int.reduceMul, Int.reduceNeg, Int.reduceLT, Int.reduceLE, Int.reduceEq, Int.reduceNe, posts, pcells, ints, ic, big, frac])
      | (refine CallD_eq hint (by decide) ?_; simp only [*, go_sem, Int.reduceNegSucc, Nat.reduceAdd, Nat.reduceSub, Nat.reduceMul, Nat.reduceEqDiff, Nat.reduceLeDiff, Nat.reduceLT, Nat.reduceBEq, Nat.reduceBNe, reduceIte, reduceCtorEq, Int.reduceToNat, Int.reduceAdd, Int.reduceSub, Int.reduceMul, Int.reduceNeg, Int.reduceLT, Int.reduceLE, Int.reduceEq, Int.reduceNe, posts, pcells, ints, ic, big, frac])
      | (refine CallD_eq ci (by decide) ?_; simp only [*, go_sem, Int.reduceNegSucc, Nat.reduceAdd, Nat.reduceSub, Nat.reduceMul, Nat.reduceEqDiff, Nat.reduceLeDiff, Nat.reduceLT, Nat.reduceBEq, Nat.reduceBNe, reduceIte, reduceCtorEq, Int.reduceToNat, Int.reduceAdd, Int.reduceSub, Int.reduceMul, Int.reduceNeg, Int.reduceLT, Int.reduceLE, Int.reduceEq, Int.reduceNe, posts, pcells, ints, ic, big, frac])
      | (refine CallD_eq hint1 (by decide) ?_; simp only [*, go_sem, Int.reduceNegSucc, Nat.reduceAdd, Nat.reduceSub, Nat.reduceMul, Nat.reduceEqDiff, Nat.reduceLeDiff, Nat.reduceLT, Nat.reduceBEq, Nat.reduceBNe, reduceIte, reduceCtorEq, Int.reduceToNat, Int.reduceAdd, Int.reduceSub, Int.reduceMul, Int.reduceNeg, Int.reduceLT, Int.reduceLE, Int.reduceEq, Int.reduceNe, posts, pcells, ints, ic, big, frac])
      | (refine CallD_eq ci1 (by decide) ?_; simp only [*, go_sem, Int.reduceNegSucc, Nat.reduceAdd, Nat.reduceSub, Nat.reduceMul, Nat.reduceEqDiff, Nat.reduceLeDiff, Nat.reduceLT, Nat.reduceBEq, Nat.reduceBNe, reduceIte, reduceCtorEq, Int.reduceToNat, Int.reduceAdd, Int.reduceSub, Int.reduceMul, Int.reduceNeg, Int.reduceLT, Int.reduceLE, Int.reduceEq, Int.reduceNe, posts, pcells, ints, ic, big, frac]))
end Go.Proofs.Ytpnlfkaijdjhlab
