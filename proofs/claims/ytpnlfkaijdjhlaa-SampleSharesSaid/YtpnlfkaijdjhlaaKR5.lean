/- A part of the proof: what functions of the program do, and the layer under it. No further condition. -/
import Derived.Test.YtpnlfkaijdjhlaaKM5
import Derived.Test.YtpnlfkaijdjhlaaKM3
namespace Go.Proofs.Ytpnlfkaijdjhlaa
set_option linter.all false
open Go.Abs

theorem dig_mul_le {a b : Int} {k m : Nat} (ha : (dig a.natAbs).length ≤ k) (hb : (dig b.natAbs).length ≤ m) : (dig (a * b).natAbs).length ≤ k + m := by
  rw [Int.natAbs_mul]; exact len_mul ha hb
theorem den_ne (a : Rat) : (a.den : Int) ≠ 0 := by have := a.den_nz; omega
theorem divInt_sub (a b : Rat) : Rat.divInt (a.num * b.den - b.num * a.den) (a.den * b.den) = a - b := by
  rw [← Rat.divInt_sub_divInt _ _ (den_ne a) (den_ne b), Rat.num_divInt_den, Rat.num_divInt_den]
theorem len_sub {a b : Int} {k : Nat} (ha : (dig a.natAbs).length ≤ k) (hb : (dig b.natAbs).length ≤ k) : (dig (a - b).natAbs).length ≤ k + 1 := len_add ha hb (by omega)
set_option maxRecDepth 100000 in
set_option maxHeartbeats 1000000 in
theorem t_subf (a b : Rat) (ap : (dig a.num.natAbs).length ≤ 19000) (aq : (dig a.den).length ≤ 19000) (bp : (dig b.num.natAbs).length ≤ 19000) (bq : (dig b.den).length ≤ 19000) :
    Ctr G.P 43 [frac a, frac b] (· = .tup [frac (a - b), .int 0]) := by
  have ra := t_rightf a (by omega) (by omega)
  have rb := t_rightf b (by omega) (by omega)
  have bq' : (dig (b.den : Int).natAbs).length ≤ 19000 := by rw [Int.natAbs_natCast]; exact bq
  have aq' : (dig (a.den : Int).natAbs).length ≤ 19000 := by rw [Int.natAbs_natCast]; exact aq
  have m1 := t_mul a.num b.den (by omega) (by omega)
  have m2 := t_mul b.num a.den (by omega) (by omega)
  have m3 := t_mul a.den b.den (by omega) (by omega)
  have l1 := dig_mul_le ap bq'
  have l2 := dig_mul_le bp aq'
  have l3 := dig_mul_le aq' bq'
  have hs := t_sub (a.num * b.den) (b.num * a.den) (by omega) (by omega)
  have hn := t_new (a.num * b.den - b.num * a.den) (a.den * b.den) (Int.mul_ne_zero (den_ne a) (den_ne b)) (by have := len_sub (k := 38000) (a := a.num * b.den) (b := b.num * a.den) (by omega) (by omega); omega) (by omega)
  rw [divInt_sub] at hn
  simp only [big, frac, ints] at ra rb m1 m2 m3 hs hn
  refine ctr_go good _ _ [.cell 4 49, .tmp 5] Try.func43 rfl rfl (by decide +kernel) rfl ?_
  simp only [go_sem, Int.reduceNegSucc, Nat.reduceAdd, Nat.reduceSub, Nat.reduceMul, Nat.reduceEqDiff, Nat.reduceLeDiff, Nat.reduceLT, Nat.reduceBEq, Nat.reduceBNe, reduceIte, reduceCtorEq, Int.reduceToNat, Int.reduceAdd, Int.reduceSub, Int.reduceMul, Int.reduceNeg, Int.reduceLT, Int.reduceLE, Int.reduceEq, Int.reduceNe, ints, ic, big, frac]
  refine CallP_eq ra (by decide) ?_
  simp only [go_sem, Int.reduceNegSucc, Nat.reduceAdd, Nat.reduceSub, Nat.reduceMul, Nat.reduceEqDiff, Nat.reduceLeDiff, Nat.reduceLT, Nat.reduceBEq, Nat.reduceBNe, reduceIte, reduceCtorEq, Int.reduceToNat, Int.reduceAdd, Int.reduceSub, Int.reduceMul, Int.reduceNeg, Int.reduceLT, Int.reduceLE, Int.reduceEq, Int.reduceNe, ints, ic, big, frac]
  refine CallP_eq rb (by decide) ?_
  simp only [go_sem, Int.reduceNegSucc, Nat.reduceAdd, Nat.reduceSub, Nat.reduceMul, Nat.reduceEqDiff, Nat.reduceLeDiff, Nat.reduceLT, Nat.reduceBEq, Nat.reduceBNe, reduceIte, reduceCtorEq, Int.reduceToNat, Int.reduceAdd, Int.reduceSub, Int.reduceMul, Int.reduceNeg, Int.reduceLT, Int.reduceLE, Int.reduceEq, Int.reduceNe, ints, ic, big, frac]
  refine CallP_eq m1 (by decide) ?_
  simp only [go_sem, Int.reduceNegSucc, Nat.reduceAdd, Nat.reduceSub, Nat.reduceMul, Nat.reduceEqDiff, Nat.reduceLeDiff, Nat.reduceLT, Nat.reduceBEq, Nat.reduceBNe, reduceIte, reduceCtorEq, Int.reduceToNat, Int.reduceAdd, Int.reduceSub, Int.reduceMul, Int.reduceNeg, Int.reduceLT, Int.reduceLE, Int.reduceEq, Int.reduceNe, ints, ic, big, frac]
  refine CallP_eq m2 (by decide) ?_
  simp only [go_sem, Int.reduceNegSucc, Nat.reduceAdd, Nat.reduceSub, Nat.reduceMul, Nat.reduceEqDiff, Nat.reduceLeDiff, Nat.reduceLT, Nat.reduceBEq, Nat.reduceBNe, reduceIte, reduceCtorEq, Int.reduceToNat, Int.reduceAdd, Int.reduceSub, Int.reduceMul, Int.reduceNeg, Int.reduceLT, Int.reduceLE, Int.reduceEq, Int.reduceNe, ints, ic, big, frac]
  refine CallP_eq m3 (by decide) ?_
  simp only [go_sem, Int.reduceNegSucc, Nat.reduceAdd, Nat.reduceSub, Nat.reduceMul, Nat.reduceEqDiff, Nat.reduceLeDiff, Nat.reduceLT, Nat.reduceBEq, Nat.reduceBNe, reduceIte, reduceCtorEq, Int.reduceToNat, Int.reduceAdd, Int.reduceSub, Int.reduceMul, Int.reduceNeg, Int.reduceLT, Int.reduceLE, Int.reduceEq, Int.reduceNe, ints, ic, big, frac]
  refine CallP_eq hs (by decide) ?_
  simp only [go_sem, Int.reduceNegSucc, Nat.reduceAdd, Nat.reduceSub, Nat.reduceMul, Nat.reduceEqDiff, Nat.reduceLeDiff, Nat.reduceLT, Nat.reduceBEq, Nat.reduceBNe, reduceIte, reduceCtorEq, Int.reduceToNat, Int.reduceAdd, Int.reduceSub, Int.reduceMul, Int.reduceNeg, Int.reduceLT, Int.reduceLE, Int.reduceEq, Int.reduceNe, ints, ic, big, frac]
  refine CallP_eq hn (by decide) ?_
  simp only [go_sem, Int.reduceNegSucc, Nat.reduceAdd, Nat.reduceSub, Nat.reduceMul, Nat.reduceEqDiff, Nat.reduceLeDiff, Nat.reduceLT, Nat.reduceBEq, Nat.reduceBNe, reduceIte, reduceCtorEq, Int.reduceToNat, Int.reduceAdd, Int.reduceSub, Int.reduceMul, Int.reduceNeg, Int.reduceLT, Int.reduceLE, Int.reduceEq, Int.reduceNe, ints, ic, big, frac]
end Go.Proofs.Ytpnlfkaijdjhlaa
