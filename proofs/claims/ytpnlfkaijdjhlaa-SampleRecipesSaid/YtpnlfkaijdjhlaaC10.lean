import Derived.Test.YtpnlfkaijdjhlaaC9
namespace Go.Proofs.Ytpnlfkaijdjhlaa
set_option linter.all false
open Go.Abs
def intoF (e : Evid) (place upto : Int) : List Int := movesF e upto fun m => decide (m.to = place)
theorem c22 (e : Evid) (place upto : Int) : Ctr G.P 22 [e.iv, .int place, .int upto] (· = ints (intoF e place upto)) := by
  have h := c50 e upto (fun m => decide (m.to = place)) 51 [.ip [.int place] 0] (by decide) (fun m => c51 m place)
  refine ctr_go good _ _ [.tmp 6] Try.func22 rfl rfl (by decide +kernel) rfl ?_
  unfold intoF
  unfold Evid.iv Evid.c
  simp only [go_sem, Int.reduceNegSucc, Nat.reduceAdd, Nat.reduceSub, Nat.reduceMul, Nat.reduceEqDiff, Nat.reduceLeDiff, Nat.reduceLT, Nat.reduceBEq, Nat.reduceBNe, reduceIte, reduceCtorEq, Int.reduceToNat, Int.reduceAdd, Int.reduceSub, Int.reduceMul, Int.reduceNeg, Int.reduceLT, Int.reduceLE, Int.reduceEq, Int.reduceNe, Evid.iv, Evid.c, Place.c, Move.c, Cert.c, Recall.c, Purity.c, Sample.c, Recipe.c, ints, ic]
  refine CallP_eq h (by decide) ?_
  simp only [ints, go_sem, Int.reduceNegSucc, Nat.reduceAdd, Nat.reduceSub, Nat.reduceMul, Nat.reduceEqDiff, Nat.reduceLeDiff, Nat.reduceLT, Nat.reduceBEq, Nat.reduceBNe, reduceIte, reduceCtorEq, Int.reduceToNat, Int.reduceAdd, Int.reduceSub, Int.reduceMul, Int.reduceNeg, Int.reduceLT, Int.reduceLE, Int.reduceEq, Int.reduceNe, Evid.iv, Evid.c, Place.c, Move.c, Cert.c, Recall.c, Purity.c, Sample.c, Recipe.c, ints, ic]
end Go.Proofs.Ytpnlfkaijdjhlaa
