/- A part of the proof: what functions of the program do, and the layer under it. No further condition. -/
import Derived.Test.YtpnlfkaijdjhlaaKC26
import Derived.Test.YtpnlfkaijdjhlaaKC27
namespace Go.Proofs.Ytpnlfkaijdjhlaa
set_option linter.all false
open Go.Abs

theorem two_at {P : Nat → Purity → Prop} {a b : Purity} (h0 : P 0 a) (h1 : P 1 b) : ∀ (i : Nat) x, [a, b][i]? = some x → P i x
  | 0, x, h => by simp at h; subst h; exact h0
  | 1, x, h => by simp at h; subst h; exact h1
  | n + 2, x, h => by simp at h
def sanE : Evid := ⟨1, 0, 0, [⟨2, -1, -1⟩, ⟨3, -1, -1⟩], [⟨0, 0, 1, -1, 0, false⟩, ⟨0, 1, 0, -1, 0, false⟩], [], [], []⟩
set_option maxRecDepth 100000 in
set_option maxHeartbeats 2000000 in
theorem c7 : Ctr G.P 7 [] (· = .bool true) := by
  have s1 := c23 [900, 100] [900, 900, 100, 100] 0 [⟨3, 0, 900, 900⟩, ⟨3, 1, 100, 100⟩] (by decide +kernel) (by simp) rfl (by simp) (two_at ⟨rfl, rfl, rfl, rfl⟩ ⟨rfl, rfl, rfl, rfl⟩)
  have s2 := c23 [2, 1] [666, 667, 333, 334] 0 [⟨3, 0, 666, 667⟩, ⟨3, 1, 333, 334⟩] (by decide +kernel) (by simp) rfl (by simp) (two_at ⟨rfl, rfl, rfl, rfl⟩ ⟨rfl, rfl, rfl, rfl⟩)
  have s3 := c23 [2, 1] [616, 717, 283, 384] 50 [⟨3, 0, 616, 717⟩, ⟨3, 1, 283, 384⟩] (by decide +kernel) (by simp) rfl (by simp) (two_at ⟨rfl, rfl, rfl, rfl⟩ ⟨rfl, rfl, rfl, rfl⟩)
  have s4 := c23 [1, 0] [970, 1000, 0, 30] 30 [⟨3, 0, 970, 1000⟩, ⟨3, 1, 0, 30⟩] (by decide +kernel) (by simp) rfl (by simp) (two_at ⟨rfl, rfl, rfl, rfl⟩ ⟨rfl, rfl, rfl, rfl⟩)
  have s5 := c10 ⟨0, [0, 0], 30⟩ (by simp)
  rw [show puritiesF ⟨0, [0, 0], 30⟩ = ([], 14) by decide +kernel] at s5
  have s6 := c12 sanE [⟨1, [5], 0⟩] [⟨0, 1, 0, 7, 9⟩] (by simp) (by simp) (by simp)
  rw [show expandF sanE [⟨1, [5], 0⟩] [⟨0, 1, 0, 7, 9⟩] = ({ sanE with purs := [⟨1, 0, 1000, 1000⟩, ⟨0, 0, 7, 9⟩] }, 0) by decide +kernel] at s6
  have s7 := c14 [⟨1, 0, 1000, 1000⟩, ⟨0, 0, 7, 9⟩] [⟨1, 0, 1000, 1000⟩, ⟨0, 0, 7, 9⟩] (by simp)
  rw [decide_eq_true rfl] at s7
  simp only [ints, ic, List.map_cons, List.map_nil, Sample.c, Evid.iv, Evid.c, Place.c, Move.c, Purity.c, Recipe.c, samples, recipes, resE, resP, purs, sanE] at s1 s2 s3 s4 s5 s6 s7
  refine ctr_go good _ _ [.tmp 0] Try.func7 rfl rfl (by decide +kernel) rfl ?_
  simp only [go_sem, Int.reduceNegSucc, Nat.reduceAdd, Nat.reduceSub, Nat.reduceMul, Nat.reduceEqDiff, Nat.reduceLeDiff, Nat.reduceLT, Nat.reduceBEq, Nat.reduceBNe, reduceIte, reduceCtorEq, Int.reduceToNat, Int.reduceAdd, Int.reduceSub, Int.reduceMul, Int.reduceNeg, Int.reduceLT, Int.reduceLE, Int.reduceEq, Int.reduceNe, Evid.iv, Evid.c, Place.c, Move.c, Cert.c, Recall.c, Purity.c, Sample.c, Recipe.c, ints, ic, Abs.flat1]
  refine CallP_eq s1 (by decide) ?_
  simp only [go_sem, Int.reduceNegSucc, Nat.reduceAdd, Nat.reduceSub, Nat.reduceMul, Nat.reduceEqDiff, Nat.reduceLeDiff, Nat.reduceLT, Nat.reduceBEq, Nat.reduceBNe, reduceIte, reduceCtorEq, Int.reduceToNat, Int.reduceAdd, Int.reduceSub, Int.reduceMul, Int.reduceNeg, Int.reduceLT, Int.reduceLE, Int.reduceEq, Int.reduceNe, Evid.iv, Evid.c, Place.c, Move.c, Cert.c, Recall.c, Purity.c, Sample.c, Recipe.c, ints, ic, Abs.flat1]
  refine CallP_eq s2 (by decide) ?_
  simp only [go_sem, Int.reduceNegSucc, Nat.reduceAdd, Nat.reduceSub, Nat.reduceMul, Nat.reduceEqDiff, Nat.reduceLeDiff, Nat.reduceLT, Nat.reduceBEq, Nat.reduceBNe, reduceIte, reduceCtorEq, Int.reduceToNat, Int.reduceAdd, Int.reduceSub, Int.reduceMul, Int.reduceNeg, Int.reduceLT, Int.reduceLE, Int.reduceEq, Int.reduceNe, Evid.iv, Evid.c, Place.c, Move.c, Cert.c, Recall.c, Purity.c, Sample.c, Recipe.c, ints, ic, Abs.flat1]
  refine CallP_eq s3 (by decide) ?_
  simp only [go_sem, Int.reduceNegSucc, Nat.reduceAdd, Nat.reduceSub, Nat.reduceMul, Nat.reduceEqDiff, Nat.reduceLeDiff, Nat.reduceLT, Nat.reduceBEq, Nat.reduceBNe, reduceIte, reduceCtorEq, Int.reduceToNat, Int.reduceAdd, Int.reduceSub, Int.reduceMul, Int.reduceNeg, Int.reduceLT, Int.reduceLE, Int.reduceEq, Int.reduceNe, Evid.iv, Evid.c, Place.c, Move.c, Cert.c, Recall.c, Purity.c, Sample.c, Recipe.c, ints, ic, Abs.flat1]
  refine CallP_eq s4 (by decide) ?_
  simp only [go_sem, Int.reduceNegSucc, Nat.reduceAdd, Nat.reduceSub, Nat.reduceMul, Nat.reduceEqDiff, Nat.reduceLeDiff, Nat.reduceLT, Nat.reduceBEq, Nat.reduceBNe, reduceIte, reduceCtorEq, Int.reduceToNat, Int.reduceAdd, Int.reduceSub, Int.reduceMul, Int.reduceNeg, Int.reduceLT, Int.reduceLE, Int.reduceEq, Int.reduceNe, Evid.iv, Evid.c, Place.c, Move.c, Cert.c, Recall.c, Purity.c, Sample.c, Recipe.c, ints, ic, Abs.flat1]
  refine CallP_eq s5 (by decide) ?_
  simp only [go_sem, Int.reduceNegSucc, Nat.reduceAdd, Nat.reduceSub, Nat.reduceMul, Nat.reduceEqDiff, Nat.reduceLeDiff, Nat.reduceLT, Nat.reduceBEq, Nat.reduceBNe, reduceIte, reduceCtorEq, Int.reduceToNat, Int.reduceAdd, Int.reduceSub, Int.reduceMul, Int.reduceNeg, Int.reduceLT, Int.reduceLE, Int.reduceEq, Int.reduceNe, Evid.iv, Evid.c, Place.c, Move.c, Cert.c, Recall.c, Purity.c, Sample.c, Recipe.c, ints, ic, Abs.flat1]
  refine CallP_eq s6 (by decide) ?_
  simp only [go_sem, Int.reduceNegSucc, Nat.reduceAdd, Nat.reduceSub, Nat.reduceMul, Nat.reduceEqDiff, Nat.reduceLeDiff, Nat.reduceLT, Nat.reduceBEq, Nat.reduceBNe, reduceIte, reduceCtorEq, Int.reduceToNat, Int.reduceAdd, Int.reduceSub, Int.reduceMul, Int.reduceNeg, Int.reduceLT, Int.reduceLE, Int.reduceEq, Int.reduceNe, Evid.iv, Evid.c, Place.c, Move.c, Cert.c, Recall.c, Purity.c, Sample.c, Recipe.c, ints, ic, Abs.flat1]
  refine CallP_eq s7 (by decide) ?_
  simp only [go_sem, Int.reduceNegSucc, Nat.reduceAdd, Nat.reduceSub, Nat.reduceMul, Nat.reduceEqDiff, Nat.reduceLeDiff, Nat.reduceLT, Nat.reduceBEq, Nat.reduceBNe, reduceIte, reduceCtorEq, Int.reduceToNat, Int.reduceAdd, Int.reduceSub, Int.reduceMul, Int.reduceNeg, Int.reduceLT, Int.reduceLE, Int.reduceEq, Int.reduceNe, Evid.iv, Evid.c, Place.c, Move.c, Cert.c, Recall.c, Purity.c, Sample.c, Recipe.c, ints, ic, Abs.flat1]
end Go.Proofs.Ytpnlfkaijdjhlaa
