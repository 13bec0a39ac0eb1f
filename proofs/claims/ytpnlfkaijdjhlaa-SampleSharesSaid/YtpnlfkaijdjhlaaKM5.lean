/- A part of the proof: what functions of the program do, and the layer under it. No further condition. -/
import Derived.Test.YtpnlfkaijdjhlaaKM4
namespace Go.Proofs.Ytpnlfkaijdjhlaa
set_option linter.all false
open Go.Abs

/-- The tree of a fraction. -/
def frac (r : Rat) : IV := .agg [.int r.num.sign, ints (dig r.num.natAbs), .int (r.den : Int).sign, ints (dig (r.den : Int).natAbs)]
theorem den_sign (r : Rat) : (r.den : Int).sign = 1 := Int.sign_eq_one_of_pos (by have := r.den_pos; omega)
theorem big_one : Ctr G.P 58 [.int 1] (· = big 1) := t_of 1 (by omega)
theorem dig_one_len : (dig 1).length ≤ 1 := dig_len_le (by omega)
set_option maxRecDepth 100000 in
theorem t_rightf (r : Rat) (lp : (dig r.num.natAbs).length ≤ 50000) (lq : (dig r.den).length ≤ 50000) : Ctr G.P 40 [frac r] (· = .bool true) := by
  have rp := t_rightb r.num (by omega)
  have rq := t_rightb (r.den : Int) (by rw [Int.natAbs_natCast]; omega)
  have hs : decide ((r.den : Int).sign < 1) = false := by rw [den_sign]; rfl
  have hg := t_gcd r.num r.den lp (by rw [Int.natAbs_natCast]; exact lq)
  rw [Int.natAbs_natCast, show Nat.gcd r.num.natAbs r.den = 1 from r.reduced] at hg
  have hc := t_compare ((1 : Nat) : Int) 1 (by have := dig_one_len; rw [Int.natAbs_natCast]; omega) (by have := dig_one_len; rw [show (1 : Int).natAbs = 1 from rfl]; omega)
  rw [show cmpI ((1 : Nat) : Int) 1 = 0 from rfl] at hc
  have h1 := big_one
  simp only [big, ints] at rp rq hg hc h1
  refine ctr_go good _ _ [.tmp 2] Try.func40 rfl rfl (by decide +kernel) rfl ?_
  simp only [go_sem, Int.reduceNegSucc, Nat.reduceAdd, Nat.reduceSub, Nat.reduceMul, Nat.reduceEqDiff, Nat.reduceLeDiff, Nat.reduceLT, Nat.reduceBEq, Nat.reduceBNe, reduceIte, reduceCtorEq, Int.reduceToNat, Int.reduceAdd, Int.reduceSub, Int.reduceMul, Int.reduceNeg, Int.reduceLT, Int.reduceLE, Int.reduceEq, Int.reduceNe, ints, ic, big, frac]
  refine CallP_eq rp (by decide) ?_
  simp only [go_sem, Int.reduceNegSucc, Nat.reduceAdd, Nat.reduceSub, Nat.reduceMul, Nat.reduceEqDiff, Nat.reduceLeDiff, Nat.reduceLT, Nat.reduceBEq, Nat.reduceBNe, reduceIte, reduceCtorEq, Int.reduceToNat, Int.reduceAdd, Int.reduceSub, Int.reduceMul, Int.reduceNeg, Int.reduceLT, Int.reduceLE, Int.reduceEq, Int.reduceNe, ints, ic, big, frac]
  refine CallP_eq rq (by decide) ?_
  simp only [hs, go_sem, Int.reduceNegSucc, Nat.reduceAdd, Nat.reduceSub, Nat.reduceMul, Nat.reduceEqDiff, Nat.reduceLeDiff, Nat.reduceLT, Nat.reduceBEq, Nat.reduceBNe, reduceIte, reduceCtorEq, Int.reduceToNat, Int.reduceAdd, Int.reduceSub, Int.reduceMul, Int.reduceNeg, Int.reduceLT, Int.reduceLE, Int.reduceEq, Int.reduceNe, ints, ic, big, frac]
  refine CallP_eq hg (by decide) ?_
  simp only [go_sem, Int.reduceNegSucc, Nat.reduceAdd, Nat.reduceSub, Nat.reduceMul, Nat.reduceEqDiff, Nat.reduceLeDiff, Nat.reduceLT, Nat.reduceBEq, Nat.reduceBNe, reduceIte, reduceCtorEq, Int.reduceToNat, Int.reduceAdd, Int.reduceSub, Int.reduceMul, Int.reduceNeg, Int.reduceLT, Int.reduceLE, Int.reduceEq, Int.reduceNe, ints, ic, big, frac]
  refine DrawP_of 5 (by decide +kernel) ?_
  simp only [go_sem, Int.reduceNegSucc, Nat.reduceAdd, Nat.reduceSub, Nat.reduceMul, Nat.reduceEqDiff, Nat.reduceLeDiff, Nat.reduceLT, Nat.reduceBEq, Nat.reduceBNe, reduceIte, reduceCtorEq, Int.reduceToNat, Int.reduceAdd, Int.reduceSub, Int.reduceMul, Int.reduceNeg, Int.reduceLT, Int.reduceLE, Int.reduceEq, Int.reduceNe, ints, ic, big, frac]
  refine CallD_eq h1 (by decide) ?_
  simp only [go_sem, Int.reduceNegSucc, Nat.reduceAdd, Nat.reduceSub, Nat.reduceMul, Nat.reduceEqDiff, Nat.reduceLeDiff, Nat.reduceLT, Nat.reduceBEq, Nat.reduceBNe, reduceIte, reduceCtorEq, Int.reduceToNat, Int.reduceAdd, Int.reduceSub, Int.reduceMul, Int.reduceNeg, Int.reduceLT, Int.reduceLE, Int.reduceEq, Int.reduceNe, ints, ic, big, frac]
  refine CallD_eq hc (by decide) ?_
  simp only [go_sem, Int.reduceNegSucc, Nat.reduceAdd, Nat.reduceSub, Nat.reduceMul, Nat.reduceEqDiff, Nat.reduceLeDiff, Nat.reduceLT, Nat.reduceBEq, Nat.reduceBNe, reduceIte, reduceCtorEq, Int.reduceToNat, Int.reduceAdd, Int.reduceSub, Int.reduceMul, Int.reduceNeg, Int.reduceLT, Int.reduceLE, Int.reduceEq, Int.reduceNe, ints, ic, big, frac]
end Go.Proofs.Ytpnlfkaijdjhlaa

namespace Go.Proofs.Ytpnlfkaijdjhlaa
set_option linter.all false
open Go.Abs

def cmpR (a b : Rat) : Int := cmpI (a.num * b.den) (b.num * a.den)
theorem cmpR_neg {a b : Rat} : cmpR a b < 0 ↔ a < b := by
  rw [Rat.lt_iff, cmpR, cmpI]
  split
  · simp [*]
  · split <;> simp [*]
theorem cmpR_pos {a b : Rat} : 0 < cmpR a b ↔ b < a := by
  rw [Rat.lt_iff, cmpR, cmpI]
  split
  · simp; omega
  · split
    · simp; omega
    · simp; omega
set_option maxRecDepth 100000 in
theorem t_cmpf (a b : Rat) (ap : (dig a.num.natAbs).length ≤ 20000) (aq : (dig a.den).length ≤ 20000) (bp : (dig b.num.natAbs).length ≤ 20000) (bq : (dig b.den).length ≤ 20000) :
    Ctr G.P 18 [frac a, frac b] (· = .int (cmpR a b)) := by
  have ra := t_rightf a (by omega) (by omega)
  have rb := t_rightf b (by omega) (by omega)
  have m1 := t_mul a.num b.den (by omega) (by rw [Int.natAbs_natCast]; omega)
  have m2 := t_mul b.num a.den (by omega) (by rw [Int.natAbs_natCast]; omega)
  have l1 := len_mul ap bq
  have l2 := len_mul bp aq
  have hc := t_compare (a.num * b.den) (b.num * a.den) (by rw [Int.natAbs_mul, Int.natAbs_natCast]; omega) (by rw [Int.natAbs_mul, Int.natAbs_natCast]; omega)
  have hr : cmpI (a.num * b.den) (b.num * a.den) = cmpR a b := rfl
  rw [hr] at hc
  simp only [big, frac, ints] at ra rb m1 m2 hc
  refine ctr_go good _ _ [.tmp 4] Try.func18 rfl rfl (by decide +kernel) rfl ?_
  simp only [go_sem, Int.reduceNegSucc, Nat.reduceAdd, Nat.reduceSub, Nat.reduceMul, Nat.reduceEqDiff, Nat.reduceLeDiff, Nat.reduceLT, Nat.reduceBEq, Nat.reduceBNe, reduceIte, reduceCtorEq, Int.reduceToNat, Int.reduceAdd, Int.reduceSub, Int.reduceMul, Int.reduceNeg, Int.reduceLT, Int.reduceLE, Int.reduceEq, Int.reduceNe, ints, ic, big, frac]
  refine CallP_eq ra (by decide) ?_
  simp only [go_sem, Int.reduceNegSucc, Nat.reduceAdd, Nat.reduceSub, Nat.reduceMul, Nat.reduceEqDiff, Nat.reduceLeDiff, Nat.reduceLT, Nat.reduceBEq, Nat.reduceBNe, reduceIte, reduceCtorEq, Int.reduceToNat, Int.reduceAdd, Int.reduceSub, Int.reduceMul, Int.reduceNeg, Int.reduceLT, Int.reduceLE, Int.reduceEq, Int.reduceNe, ints, ic, big, frac]
  refine CallP_eq rb (by decide) ?_
  simp only [go_sem, Int.reduceNegSucc, Nat.reduceAdd, Nat.reduceSub, Nat.reduceMul, Nat.reduceEqDiff, Nat.reduceLeDiff, Nat.reduceLT, Nat.reduceBEq, Nat.reduceBNe, reduceIte, reduceCtorEq, Int.reduceToNat, Int.reduceAdd, Int.reduceSub, Int.reduceMul, Int.reduceNeg, Int.reduceLT, Int.reduceLE, Int.reduceEq, Int.reduceNe, ints, ic, big, frac]
  refine CallP_eq m1 (by decide) ?_
  simp only [go_sem, Int.reduceNegSucc, Nat.reduceAdd, Nat.reduceSub, Nat.reduceMul, Nat.reduceEqDiff, Nat.reduceLeDiff, Nat.reduceLT, Nat.reduceBEq, Nat.reduceBNe, reduceIte, reduceCtorEq, Int.reduceToNat, Int.reduceAdd, Int.reduceSub, Int.reduceMul, Int.reduceNeg, Int.reduceLT, Int.reduceLE, Int.reduceEq, Int.reduceNe, ints, ic, big, frac]
  refine CallP_eq m2 (by decide) ?_
  simp only [go_sem, Int.reduceNegSucc, Nat.reduceAdd, Nat.reduceSub, Nat.reduceMul, Nat.reduceEqDiff, Nat.reduceLeDiff, Nat.reduceLT, Nat.reduceBEq, Nat.reduceBNe, reduceIte, reduceCtorEq, Int.reduceToNat, Int.reduceAdd, Int.reduceSub, Int.reduceMul, Int.reduceNeg, Int.reduceLT, Int.reduceLE, Int.reduceEq, Int.reduceNe, ints, ic, big, frac]
  refine CallP_eq hc (by decide) ?_
  simp only [go_sem, Int.reduceNegSucc, Nat.reduceAdd, Nat.reduceSub, Nat.reduceMul, Nat.reduceEqDiff, Nat.reduceLeDiff, Nat.reduceLT, Nat.reduceBEq, Nat.reduceBNe, reduceIte, reduceCtorEq, Int.reduceToNat, Int.reduceAdd, Int.reduceSub, Int.reduceMul, Int.reduceNeg, Int.reduceLT, Int.reduceLE, Int.reduceEq, Int.reduceNe, ints, ic, big, frac]
end Go.Proofs.Ytpnlfkaijdjhlaa

namespace Go.Proofs.Ytpnlfkaijdjhlaa
set_option linter.all false
open Go.Abs

theorem divInt_pos {p q : Int} (hq : 0 < q) : (Rat.divInt p q).num = p / (Nat.gcd p.natAbs q.natAbs : Nat) ∧ ((Rat.divInt p q).den : Int) = q / (Nat.gcd p.natAbs q.natAbs : Nat) := by
  have hg : (Int.gcd q p : Nat) = Nat.gcd p.natAbs q.natAbs := Nat.gcd_comm ..
  constructor
  · rw [Rat.num_divInt, Int.sign_eq_one_of_pos hq, Int.one_mul, hg]
  · rw [Rat.den_divInt, if_neg (by omega), hg, Int.natCast_ediv, Int.natAbs_of_nonneg (by omega)]
set_option maxRecDepth 100000 in
set_option maxHeartbeats 1000000 in
theorem t_new (p q : Int) (hq : q ≠ 0) (lp : (dig p.natAbs).length ≤ 40000) (lq : (dig q.natAbs).length ≤ 40000) : Ctr G.P 57 [big p, big q] (· = .tup [frac (Rat.divInt p q), .int 0]) := by
  have rp := t_rightb p (by omega)
  have rq := t_rightb q (by omega)
  have d0 : decide (q.sign = 0) = false := decide_eq_false fun h => hq (Int.sign_eq_zero_iff_zero.1 h)
  have main : ∀ P Q : Int, 0 < Q → (dig P.natAbs).length ≤ 40000 → (dig Q.natAbs).length ≤ 40000 → Rat.divInt P Q = Rat.divInt p q →
      Ctr G.P 60 [big P, big Q] (· = .tup [big (Nat.gcd P.natAbs Q.natAbs : Nat), .int 0]) ∧
      Ctr G.P 70 [big P, big (Nat.gcd P.natAbs Q.natAbs : Nat)] (· = .tup [big (Rat.divInt p q).num, big 0, .int 0]) ∧
      Ctr G.P 70 [big Q, big (Nat.gcd P.natAbs Q.natAbs : Nat)] (· = .tup [big ((Rat.divInt p q).den : Int), big 0, .int 0]) := by
    intro P Q hQ lP lQ he
    obtain ⟨e1, e2⟩ := divInt_pos (p := P) hQ
    rw [he] at e1 e2
    rw [e1, e2]
    have hgp : Nat.gcd P.natAbs Q.natAbs ≠ 0 := fun h => by have := Nat.eq_zero_of_gcd_eq_zero_right h; omega
    have hgl : (dig (Nat.gcd P.natAbs Q.natAbs)).length ≤ 40000 := len_mono (Nat.le_of_dvd (by omega) (Nat.gcd_dvd_right _ _)) lQ
    refine ⟨t_gcd P Q (by omega) (by omega), t_div P _ (by omega) (by rw [Int.natAbs_natCast]; exact Nat.gcd_dvd_left _ _) (by omega) (by rw [Int.natAbs_natCast]; omega),
      t_div Q _ (by omega) (by rw [Int.natAbs_natCast]; exact Nat.gcd_dvd_right _ _) (by omega) (by rw [Int.natAbs_natCast]; omega)⟩
  rcases Int.lt_or_gt_of_ne hq with hlt | hgt
  · have d1 : decide (q.sign < 0) = true := by rw [Int.sign_eq_neg_one_of_neg hlt]; rfl
    have n1 := t_neg p (by omega)
    have n2 := t_neg q (by omega)
    obtain ⟨hg, hd1, hd2⟩ := main (-p) (-q) (by omega) (by rw [Int.natAbs_neg]; exact lp) (by rw [Int.natAbs_neg]; exact lq) (by have := Rat.divInt_mul_right (n := p) (d := q) (a := -1) (by decide); rwa [Int.mul_neg, Int.mul_neg, Int.mul_one, Int.mul_one] at this)
    simp only [big, frac, ints] at rp rq n1 n2 hg hd1 hd2
    refine ctr_go good _ _ [.cell 4 49, .tmp 5] Try.func57 rfl rfl (by decide +kernel) rfl ?_
    simp only [go_sem, Int.reduceNegSucc, Nat.reduceAdd, Nat.reduceSub, Nat.reduceMul, Nat.reduceEqDiff, Nat.reduceLeDiff, Nat.reduceLT, Nat.reduceBEq, Nat.reduceBNe, reduceIte, reduceCtorEq, Int.reduceToNat, Int.reduceAdd, Int.reduceSub, Int.reduceMul, Int.reduceNeg, Int.reduceLT, Int.reduceLE, Int.reduceEq, Int.reduceNe, ints, ic, big, frac]
    refine CallP_eq rp (by decide) ?_
    simp only [go_sem, Int.reduceNegSucc, Nat.reduceAdd, Nat.reduceSub, Nat.reduceMul, Nat.reduceEqDiff, Nat.reduceLeDiff, Nat.reduceLT, Nat.reduceBEq, Nat.reduceBNe, reduceIte, reduceCtorEq, Int.reduceToNat, Int.reduceAdd, Int.reduceSub, Int.reduceMul, Int.reduceNeg, Int.reduceLT, Int.reduceLE, Int.reduceEq, Int.reduceNe, ints, ic, big, frac]
    refine CallP_eq rq (by decide) ?_
    simp only [d0, d1, go_sem, Int.reduceNegSucc, Nat.reduceAdd, Nat.reduceSub, Nat.reduceMul, Nat.reduceEqDiff, Nat.reduceLeDiff, Nat.reduceLT, Nat.reduceBEq, Nat.reduceBNe, reduceIte, reduceCtorEq, Int.reduceToNat, Int.reduceAdd, Int.reduceSub, Int.reduceMul, Int.reduceNeg, Int.reduceLT, Int.reduceLE, Int.reduceEq, Int.reduceNe, ints, ic, big, frac]
    refine CallP_eq n1 (by decide) ?_
    simp only [go_sem, Int.reduceNegSucc, Nat.reduceAdd, Nat.reduceSub, Nat.reduceMul, Nat.reduceEqDiff, Nat.reduceLeDiff, Nat.reduceLT, Nat.reduceBEq, Nat.reduceBNe, reduceIte, reduceCtorEq, Int.reduceToNat, Int.reduceAdd, Int.reduceSub, Int.reduceMul, Int.reduceNeg, Int.reduceLT, Int.reduceLE, Int.reduceEq, Int.reduceNe, ints, ic, big, frac]
    refine CallP_eq n2 (by decide) ?_
    simp only [go_sem, Int.reduceNegSucc, Nat.reduceAdd, Nat.reduceSub, Nat.reduceMul, Nat.reduceEqDiff, Nat.reduceLeDiff, Nat.reduceLT, Nat.reduceBEq, Nat.reduceBNe, reduceIte, reduceCtorEq, Int.reduceToNat, Int.reduceAdd, Int.reduceSub, Int.reduceMul, Int.reduceNeg, Int.reduceLT, Int.reduceLE, Int.reduceEq, Int.reduceNe, ints, ic, big, frac]
    refine CallP_eq hg (by decide) ?_
    simp only [go_sem, Int.reduceNegSucc, Nat.reduceAdd, Nat.reduceSub, Nat.reduceMul, Nat.reduceEqDiff, Nat.reduceLeDiff, Nat.reduceLT, Nat.reduceBEq, Nat.reduceBNe, reduceIte, reduceCtorEq, Int.reduceToNat, Int.reduceAdd, Int.reduceSub, Int.reduceMul, Int.reduceNeg, Int.reduceLT, Int.reduceLE, Int.reduceEq, Int.reduceNe, ints, ic, big, frac]
    refine CallP_eq hd1 (by decide) ?_
    simp only [go_sem, Int.reduceNegSucc, Nat.reduceAdd, Nat.reduceSub, Nat.reduceMul, Nat.reduceEqDiff, Nat.reduceLeDiff, Nat.reduceLT, Nat.reduceBEq, Nat.reduceBNe, reduceIte, reduceCtorEq, Int.reduceToNat, Int.reduceAdd, Int.reduceSub, Int.reduceMul, Int.reduceNeg, Int.reduceLT, Int.reduceLE, Int.reduceEq, Int.reduceNe, ints, ic, big, frac]
    refine CallP_eq hd2 (by decide) ?_
    simp only [go_sem, Int.reduceNegSucc, Nat.reduceAdd, Nat.reduceSub, Nat.reduceMul, Nat.reduceEqDiff, Nat.reduceLeDiff, Nat.reduceLT, Nat.reduceBEq, Nat.reduceBNe, reduceIte, reduceCtorEq, Int.reduceToNat, Int.reduceAdd, Int.reduceSub, Int.reduceMul, Int.reduceNeg, Int.reduceLT, Int.reduceLE, Int.reduceEq, Int.reduceNe, ints, ic, big, frac]
  · have d1 : decide (q.sign < 0) = false := by rw [Int.sign_eq_one_of_pos hgt]; rfl
    obtain ⟨hg, hd1, hd2⟩ := main p q hgt lp lq rfl
    simp only [big, frac, ints] at rp rq hg hd1 hd2
    refine ctr_go good _ _ [.cell 4 49, .tmp 5] Try.func57 rfl rfl (by decide +kernel) rfl ?_
    simp only [go_sem, Int.reduceNegSucc, Nat.reduceAdd, Nat.reduceSub, Nat.reduceMul, Nat.reduceEqDiff, Nat.reduceLeDiff, Nat.reduceLT, Nat.reduceBEq, Nat.reduceBNe, reduceIte, reduceCtorEq, Int.reduceToNat, Int.reduceAdd, Int.reduceSub, Int.reduceMul, Int.reduceNeg, Int.reduceLT, Int.reduceLE, Int.reduceEq, Int.reduceNe, ints, ic, big, frac]
    refine CallP_eq rp (by decide) ?_
    simp only [go_sem, Int.reduceNegSucc, Nat.reduceAdd, Nat.reduceSub, Nat.reduceMul, Nat.reduceEqDiff, Nat.reduceLeDiff, Nat.reduceLT, Nat.reduceBEq, Nat.reduceBNe, reduceIte, reduceCtorEq, Int.reduceToNat, Int.reduceAdd, Int.reduceSub, Int.reduceMul, Int.reduceNeg, Int.reduceLT, Int.reduceLE, Int.reduceEq, Int.reduceNe, ints, ic, big, frac]
    refine CallP_eq rq (by decide) ?_
    simp only [d0, d1, go_sem, Int.reduceNegSucc, Nat.reduceAdd, Nat.reduceSub, Nat.reduceMul, Nat.reduceEqDiff, Nat.reduceLeDiff, Nat.reduceLT, Nat.reduceBEq, Nat.reduceBNe, reduceIte, reduceCtorEq, Int.reduceToNat, Int.reduceAdd, Int.reduceSub, Int.reduceMul, Int.reduceNeg, Int.reduceLT, Int.reduceLE, Int.reduceEq, Int.reduceNe, ints, ic, big, frac]
    refine CallP_eq hg (by decide) ?_
    simp only [go_sem, Int.reduceNegSucc, Nat.reduceAdd, Nat.reduceSub, Nat.reduceMul, Nat.reduceEqDiff, Nat.reduceLeDiff, Nat.reduceLT, Nat.reduceBEq, Nat.reduceBNe, reduceIte, reduceCtorEq, Int.reduceToNat, Int.reduceAdd, Int.reduceSub, Int.reduceMul, Int.reduceNeg, Int.reduceLT, Int.reduceLE, Int.reduceEq, Int.reduceNe, ints, ic, big, frac]
    refine CallP_eq hd1 (by decide) ?_
    simp only [go_sem, Int.reduceNegSucc, Nat.reduceAdd, Nat.reduceSub, Nat.reduceMul, Nat.reduceEqDiff, Nat.reduceLeDiff, Nat.reduceLT, Nat.reduceBEq, Nat.reduceBNe, reduceIte, reduceCtorEq, Int.reduceToNat, Int.reduceAdd, Int.reduceSub, Int.reduceMul, Int.reduceNeg, Int.reduceLT, Int.reduceLE, Int.reduceEq, Int.reduceNe, ints, ic, big, frac]
    refine CallP_eq hd2 (by decide) ?_
    simp only [go_sem, Int.reduceNegSucc, Nat.reduceAdd, Nat.reduceSub, Nat.reduceMul, Nat.reduceEqDiff, Nat.reduceLeDiff, Nat.reduceLT, Nat.reduceBEq, Nat.reduceBNe, reduceIte, reduceCtorEq, Int.reduceToNat, Int.reduceAdd, Int.reduceSub, Int.reduceMul, Int.reduceNeg, Int.reduceLT, Int.reduceLE, Int.reduceEq, Int.reduceNe, ints, ic, big, frac]
end Go.Proofs.Ytpnlfkaijdjhlaa

namespace Go.Proofs.Ytpnlfkaijdjhlaa
set_option linter.all false
open Go.Abs

theorem i64_len {z : Int} (h : -9223372036854775808 ≤ z ∧ z ≤ 9223372036854775807) : (dig z.natAbs).length ≤ 4 := dig_len_le (by omega)
theorem t_off (p q : Int) (hq : q ≠ 0) (hp : -9223372036854775808 ≤ p ∧ p ≤ 9223372036854775807) (hq' : -9223372036854775808 ≤ q ∧ q ≤ 9223372036854775807) :
    Ctr G.P 39 [.int p, .int q] (· = .tup [frac (Rat.divInt p q), .int 0]) := by
  have h1 := t_of p hp
  have h2 := t_of q hq'
  have h3 := t_new p q hq (by have := i64_len hp; omega) (by have := i64_len hq'; omega)
  simp only [big, frac, ints] at h1 h2 h3
  refine ctr_go good _ _ [.cell 4 49, .tmp 5] Try.func39 rfl rfl (by decide +kernel) rfl ?_
  simp only [go_sem, Int.reduceNegSucc, Nat.reduceAdd, Nat.reduceSub, Nat.reduceMul, Nat.reduceEqDiff, Nat.reduceLeDiff, Nat.reduceLT, Nat.reduceBEq, Nat.reduceBNe, reduceIte, reduceCtorEq, Int.reduceToNat, Int.reduceAdd, Int.reduceSub, Int.reduceMul, Int.reduceNeg, Int.reduceLT, Int.reduceLE, Int.reduceEq, Int.reduceNe, ints, ic, big, frac]
  refine CallP_eq h1 (by decide) ?_
  simp only [go_sem, Int.reduceNegSucc, Nat.reduceAdd, Nat.reduceSub, Nat.reduceMul, Nat.reduceEqDiff, Nat.reduceLeDiff, Nat.reduceLT, Nat.reduceBEq, Nat.reduceBNe, reduceIte, reduceCtorEq, Int.reduceToNat, Int.reduceAdd, Int.reduceSub, Int.reduceMul, Int.reduceNeg, Int.reduceLT, Int.reduceLE, Int.reduceEq, Int.reduceNe, ints, ic, big, frac]
  refine CallP_eq h2 (by decide) ?_
  simp only [go_sem, Int.reduceNegSucc, Nat.reduceAdd, Nat.reduceSub, Nat.reduceMul, Nat.reduceEqDiff, Nat.reduceLeDiff, Nat.reduceLT, Nat.reduceBEq, Nat.reduceBNe, reduceIte, reduceCtorEq, Int.reduceToNat, Int.reduceAdd, Int.reduceSub, Int.reduceMul, Int.reduceNeg, Int.reduceLT, Int.reduceLE, Int.reduceEq, Int.reduceNe, ints, ic, big, frac]
  refine CallP_eq h3 (by decide) ?_
  simp only [go_sem, Int.reduceNegSucc, Nat.reduceAdd, Nat.reduceSub, Nat.reduceMul, Nat.reduceEqDiff, Nat.reduceLeDiff, Nat.reduceLT, Nat.reduceBEq, Nat.reduceBNe, reduceIte, reduceCtorEq, Int.reduceToNat, Int.reduceAdd, Int.reduceSub, Int.reduceMul, Int.reduceNeg, Int.reduceLT, Int.reduceLE, Int.reduceEq, Int.reduceNe, ints, ic, big, frac]
theorem t_intf (n : Int) (hn : -9223372036854775808 ≤ n ∧ n ≤ 9223372036854775807) : Ctr G.P 19 [.int n] (· = frac (Rat.divInt n 1)) := by
  have h := t_off n 1 (by omega) hn (by omega)
  simp only [frac, ints] at h
  refine ctr_go good _ _ [.cell 2 49] Try.func19 rfl rfl (by decide +kernel) rfl ?_
  simp only [go_sem, Int.reduceNegSucc, Nat.reduceAdd, Nat.reduceSub, Nat.reduceMul, Nat.reduceEqDiff, Nat.reduceLeDiff, Nat.reduceLT, Nat.reduceBEq, Nat.reduceBNe, reduceIte, reduceCtorEq, Int.reduceToNat, Int.reduceAdd, Int.reduceSub, Int.reduceMul, Int.reduceNeg, Int.reduceLT, Int.reduceLE, Int.reduceEq, Int.reduceNe, ints, ic, big, frac]
  refine CallP_eq h (by decide) ?_
  simp only [go_sem, Int.reduceNegSucc, Nat.reduceAdd, Nat.reduceSub, Nat.reduceMul, Nat.reduceEqDiff, Nat.reduceLeDiff, Nat.reduceLT, Nat.reduceBEq, Nat.reduceBNe, reduceIte, reduceCtorEq, Int.reduceToNat, Int.reduceAdd, Int.reduceSub, Int.reduceMul, Int.reduceNeg, Int.reduceLT, Int.reduceLE, Int.reduceEq, Int.reduceNe, ints, ic, big, frac]
theorem t_signf (r : Rat) (lp : (dig r.num.natAbs).length ≤ 50000) (lq : (dig r.den).length ≤ 50000) : Ctr G.P 44 [frac r] (· = .int r.num.sign) := by
  have h := t_rightf r lp lq
  simp only [frac, ints] at h
  refine ctr_go good _ _ [.tmp 2] Try.func44 rfl rfl (by decide +kernel) rfl ?_
  simp only [go_sem, Int.reduceNegSucc, Nat.reduceAdd, Nat.reduceSub, Nat.reduceMul, Nat.reduceEqDiff, Nat.reduceLeDiff, Nat.reduceLT, Nat.reduceBEq, Nat.reduceBNe, reduceIte, reduceCtorEq, Int.reduceToNat, Int.reduceAdd, Int.reduceSub, Int.reduceMul, Int.reduceNeg, Int.reduceLT, Int.reduceLE, Int.reduceEq, Int.reduceNe, ints, ic, big, frac]
  refine CallP_eq h (by decide) ?_
  simp only [go_sem, Int.reduceNegSucc, Nat.reduceAdd, Nat.reduceSub, Nat.reduceMul, Nat.reduceEqDiff, Nat.reduceLeDiff, Nat.reduceLT, Nat.reduceBEq, Nat.reduceBNe, reduceIte, reduceCtorEq, Int.reduceToNat, Int.reduceAdd, Int.reduceSub, Int.reduceMul, Int.reduceNeg, Int.reduceLT, Int.reduceLE, Int.reduceEq, Int.reduceNe, ints, ic, big, frac]
theorem frac_neg (r : Rat) : frac (-r) = .agg [.int (-r.num).sign, ints (dig (-r.num).natAbs), .int (r.den : Int).sign, ints (dig (r.den : Int).natAbs)] := by
  have h1 : (-r).num = -r.num := rfl
  have h2 : (-r).den = r.den := rfl
  rw [frac, h1, h2]
theorem t_negf (r : Rat) (lp : (dig r.num.natAbs).length ≤ 50000) (lq : (dig r.den).length ≤ 50000) : Ctr G.P 45 [frac r] (· = frac (-r)) := by
  have h := t_rightf r lp lq
  have hn := t_neg r.num (by omega)
  rw [frac_neg]
  simp only [frac, big, ints] at h hn
  refine ctr_go good _ _ [.cell 2 49] Try.func45 rfl rfl (by decide +kernel) rfl ?_
  simp only [go_sem, Int.reduceNegSucc, Nat.reduceAdd, Nat.reduceSub, Nat.reduceMul, Nat.reduceEqDiff, Nat.reduceLeDiff, Nat.reduceLT, Nat.reduceBEq, Nat.reduceBNe, reduceIte, reduceCtorEq, Int.reduceToNat, Int.reduceAdd, Int.reduceSub, Int.reduceMul, Int.reduceNeg, Int.reduceLT, Int.reduceLE, Int.reduceEq, Int.reduceNe, ints, ic, big, frac]
  refine CallP_eq h (by decide) ?_
  simp only [go_sem, Int.reduceNegSucc, Nat.reduceAdd, Nat.reduceSub, Nat.reduceMul, Nat.reduceEqDiff, Nat.reduceLeDiff, Nat.reduceLT, Nat.reduceBEq, Nat.reduceBNe, reduceIte, reduceCtorEq, Int.reduceToNat, Int.reduceAdd, Int.reduceSub, Int.reduceMul, Int.reduceNeg, Int.reduceLT, Int.reduceLE, Int.reduceEq, Int.reduceNe, ints, ic, big, frac]
  refine DrawS_of (by decide +kernel) ?_
  simp only [go_sem, Int.reduceNegSucc, Nat.reduceAdd, Nat.reduceSub, Nat.reduceMul, Nat.reduceEqDiff, Nat.reduceLeDiff, Nat.reduceLT, Nat.reduceBEq, Nat.reduceBNe, reduceIte, reduceCtorEq, Int.reduceToNat, Int.reduceAdd, Int.reduceSub, Int.reduceMul, Int.reduceNeg, Int.reduceLT, Int.reduceLE, Int.reduceEq, Int.reduceNe, ints, ic, big, frac]
  refine CallD_eq hn (by decide) ?_
  simp only [go_sem, Int.reduceNegSucc, Nat.reduceAdd, Nat.reduceSub, Nat.reduceMul, Nat.reduceEqDiff, Nat.reduceLeDiff, Nat.reduceLT, Nat.reduceBEq, Nat.reduceBNe, reduceIte, reduceCtorEq, Int.reduceToNat, Int.reduceAdd, Int.reduceSub, Int.reduceMul, Int.reduceNeg, Int.reduceLT, Int.reduceLE, Int.reduceEq, Int.reduceNe, ints, ic, big, frac]
end Go.Proofs.Ytpnlfkaijdjhlaa
