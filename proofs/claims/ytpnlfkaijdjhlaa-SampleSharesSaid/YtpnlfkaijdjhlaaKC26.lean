/- A part of the proof: what functions of the program do, and the layer under it. No further condition. -/
import Derived.Test.YtpnlfkaijdjhlaaKC13
namespace Go.Proofs.Ytpnlfkaijdjhlaa
set_option linter.all false
open Go.Abs

set_option maxRecDepth 100000 in
set_option maxHeartbeats 2000000 in
theorem c23 (g b : List Int) (slack : Int) (l : List Purity) (hp : puritiesF ⟨3, g, slack⟩ = (l, 0)) (hg : g.length ≤ 100000) (hb : b.length = 2 * l.length) (hl : l.length ≤ 1000)
    (hall : ∀ (i : Nat) x, l[i]? = some x → b[2 * i]? = some x.least ∧ b[2 * i + 1]? = some x.most ∧ x.move = 3 ∧ x.mat = i) : Ctr G.P 23 [ints g, .int slack, ints b] (· = .bool true) := by
  have h10 := c10 ⟨3, g, slack⟩ hg
  rw [hp] at h10
  have w1 := i64_ok (n := 2 * (l.length : Int)) (by omega)
  have hb' : decide (2 * (l.length : Int) = b.length) = true := decide_eq_true (by omega)
  refine ctr_go good _ _ [.tmp 6] Try.func23 rfl rfl (by decide +kernel) rfl ?_
  simp only [go_sem, Int.reduceNegSucc, Nat.reduceAdd, Nat.reduceSub, Nat.reduceMul, Nat.reduceEqDiff, Nat.reduceLeDiff, Nat.reduceLT, Nat.reduceBEq, Nat.reduceBNe, reduceIte, reduceCtorEq, Int.reduceToNat, Int.reduceAdd, Int.reduceSub, Int.reduceMul, Int.reduceNeg, Int.reduceLT, Int.reduceLE, Int.reduceEq, Int.reduceNe, Evid.iv, Evid.c, Place.c, Move.c, Cert.c, Recall.c, Purity.c, Sample.c, Recipe.c, ints, ic]
  refine CallP_eq h10 (by decide) ?_
  simp only [resP, purs, w1, hb', go_sem, Int.reduceNegSucc, Nat.reduceAdd, Nat.reduceSub, Nat.reduceMul, Nat.reduceEqDiff, Nat.reduceLeDiff, Nat.reduceLT, Nat.reduceBEq, Nat.reduceBNe, reduceIte, reduceCtorEq, Int.reduceToNat, Int.reduceAdd, Int.reduceSub, Int.reduceMul, Int.reduceNeg, Int.reduceLT, Int.reduceLE, Int.reduceEq, Int.reduceNe, Evid.iv, Evid.c, Place.c, Move.c, Cert.c, Recall.c, Purity.c, Sample.c, Recipe.c, ints, ic]
  clear h10 hb'
  refine LoopP_of [2, 7, 9] [] (fun i : Nat => ⟨[(2, .im (.sl (b.map ic))), (7, .im (.sl (l.map Purity.c))), (9, .im (.int i))], [], []⟩) (fun i => i ≤ l.length) (fun i => l.length - i) 0 ?_ (Nat.zero_le _) ?_
  · simp only [Int.natCast_zero, go_sem, Int.reduceNegSucc, Nat.reduceAdd, Nat.reduceSub, Nat.reduceMul, Nat.reduceEqDiff, Nat.reduceLeDiff, Nat.reduceLT, Nat.reduceBEq, Nat.reduceBNe, reduceIte, reduceCtorEq, Int.reduceToNat, Int.reduceAdd, Int.reduceSub, Int.reduceMul, Int.reduceNeg, Int.reduceLT, Int.reduceLE, Int.reduceEq, Int.reduceNe, Evid.iv, Evid.c, Place.c, Move.c, Cert.c, Recall.c, Purity.c, Sample.c, Recipe.c, ints, ic]
  · intro i hi
    by_cases hlt : (i : Int) < l.length
    · have hd : decide ((i : Int) < l.length) = true := decide_eq_true hlt
      obtain ⟨x, hx⟩ := at_nat hlt
      obtain ⟨x1, x2, x3, x4⟩ := hall i x hx
      have h1 := i64_ok (n := (i : Int) + 1) (by omega)
      have h2 := i64_ok (n := 2 * (i : Int)) (by omega)
      have h3 := i64_ok (n := 2 * (i : Int) + 1) (by omega)
      have n2 : (2 * (i : Int)).toNat = 2 * i := by omega
      have n3 : (2 * (i : Int) + 1).toNat = 2 * i + 1 := by omega
      have p2 : (0 : Int) ≤ 2 * (i : Int) := by omega
      have p3 : (0 : Int) ≤ 2 * (i : Int) + 1 := by omega
      simp only [hd, go_sem, Int.reduceNegSucc, Nat.reduceAdd, Nat.reduceSub, Nat.reduceMul, Nat.reduceEqDiff, Nat.reduceLeDiff, Nat.reduceLT, Nat.reduceBEq, Nat.reduceBNe, reduceIte, reduceCtorEq, Int.reduceToNat, Int.reduceAdd, Int.reduceSub, Int.reduceMul, Int.reduceNeg, Int.reduceLT, Int.reduceLE, Int.reduceEq, Int.reduceNe, Evid.iv, Evid.c, Place.c, Move.c, Cert.c, Recall.c, Purity.c, Sample.c, Recipe.c, ints, ic]
      refine DrawP_of 18 (by decide +kernel) ?_
      simp only [hd, List.getElem?_map, hx, x1, x2, x3, x4, h1, h2, h3, n2, n3, p2, p3, eq_self, go_sem, Int.reduceNegSucc, Nat.reduceAdd, Nat.reduceSub, Nat.reduceMul, Nat.reduceEqDiff, Nat.reduceLeDiff, Nat.reduceLT, Nat.reduceBEq, Nat.reduceBNe, reduceIte, reduceCtorEq, Int.reduceToNat, Int.reduceAdd, Int.reduceSub, Int.reduceMul, Int.reduceNeg, Int.reduceLT, Int.reduceLE, Int.reduceEq, Int.reduceNe, Evid.iv, Evid.c, Place.c, Move.c, Cert.c, Recall.c, Purity.c, Sample.c, Recipe.c, ints, ic]
      refine RoundP_of (i + 1) ?_ (by omega) (by omega)
      simp only [h1, Int.natCast_add, go_sem, Int.reduceNegSucc, Nat.reduceAdd, Nat.reduceSub, Nat.reduceMul, Nat.reduceEqDiff, Nat.reduceLeDiff, Nat.reduceLT, Nat.reduceBEq, Nat.reduceBNe, reduceIte, reduceCtorEq, Int.reduceToNat, Int.reduceAdd, Int.reduceSub, Int.reduceMul, Int.reduceNeg, Int.reduceLT, Int.reduceLE, Int.reduceEq, Int.reduceNe, Evid.iv, Evid.c, Place.c, Move.c, Cert.c, Recall.c, Purity.c, Sample.c, Recipe.c, ints, ic]
    · have hd : decide ((i : Int) < l.length) = false := decide_eq_false hlt
      simp only [hd, go_sem, Int.reduceNegSucc, Nat.reduceAdd, Nat.reduceSub, Nat.reduceMul, Nat.reduceEqDiff, Nat.reduceLeDiff, Nat.reduceLT, Nat.reduceBEq, Nat.reduceBNe, reduceIte, reduceCtorEq, Int.reduceToNat, Int.reduceAdd, Int.reduceSub, Int.reduceMul, Int.reduceNeg, Int.reduceLT, Int.reduceLE, Int.reduceEq, Int.reduceNe, Evid.iv, Evid.c, Place.c, Move.c, Cert.c, Recall.c, Purity.c, Sample.c, Recipe.c, ints, ic]
end Go.Proofs.Ytpnlfkaijdjhlaa
