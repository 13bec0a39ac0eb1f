/- A part of the proof: what functions of the program do, and the layer under it. No further condition. -/
import Derived.Test.YtpnlfkaijdjhlaaKC17
namespace Go.Proofs.Ytpnlfkaijdjhlaa
set_option linter.all false
open Go.Abs

theorem idx_btw {i n : Int} : idx i n = btw i 0 (n - 1) := by
  rcases h : idx i n with _ | _
  · rw [idx_not] at h
    exact (btw_not.2 (by omega)).symm
  · rw [idx_iff] at h
    exact (btw_iff.2 (by omega)).symm
theorem c54 (e : Evid) (p : Place) (h1 : 0 ≤ e.mats ∧ e.mats ≤ 1000) (h2 : 0 ≤ e.houses ∧ e.houses ≤ 1000) : Ctr G.P 54 [e.iv, .agg p.c] (· = .bool (placeF e p)) := by
  have w1 := i64_ok (n := e.houses - 1) (by omega)
  have w2 := i64_ok (n := e.mats - 1) (by omega)
  have hpf : placeF e p = (if decide (p.kind = 0) = true then btw p.house 0 (e.houses - 1) && btw p.mat 0 (e.mats - 1) else btw p.kind 0 6 && (decide (p.house = -1) && decide (p.mat = -1))) := by
    simp only [placeF, idx_btw]
    by_cases hk : p.kind = 0
    · have : btw p.kind 0 (7 - 1) = true := btw_iff.2 (by omega)
      rw [this]; simp [hk]
    · simp [hk]
  rw [hpf]
  clear hpf
  refine ctr_go good _ _ [.tmp 4] Try.func54 rfl rfl (by decide +kernel) rfl ?_
  unfold Evid.iv Evid.c Place.c
  simp only [w1, w2, go_sem, Int.reduceNegSucc, Nat.reduceAdd, Nat.reduceSub, Nat.reduceMul, Nat.reduceEqDiff, Nat.reduceLeDiff, Nat.reduceLT, Nat.reduceBEq, Nat.reduceBNe, reduceIte, reduceCtorEq, Int.reduceToNat, Int.reduceAdd, Int.reduceSub, Int.reduceMul, Int.reduceNeg, Int.reduceLT, Int.reduceLE, Int.reduceEq, Int.reduceNe, Evid.iv, Evid.c, Place.c, Move.c, Cert.c, Recall.c, Purity.c, Sample.c, Recipe.c, ints, ic]
  repeat' (first | (refine Two_of (fun hd => ?_) (fun hd => ?_) <;> simp only [*, go_sem, Int.reduceNegSucc, Nat.reduceAdd, Nat.reduceSub, Nat.reduceMul, Nat.reduceEqDiff, Nat.reduceLeDiff, Nat.reduceLT, Nat.reduceBEq, Nat.reduceBNe, reduceIte, reduceCtorEq, Int.reduceToNat, Int.reduceAdd, Int.reduceSub, Int.reduceMul, Int.reduceNeg, Int.reduceLT, Int.reduceLE, Int.reduceEq, Int.reduceNe, Evid.iv, Evid.c, Place.c, Move.c, Cert.c, Recall.c, Purity.c, Sample.c, Recipe.c, ints, ic]) | (refine CallP_eq (c69 _ _ _) (by first | decide | assumption) ?_; simp only [*, go_sem, Int.reduceNegSucc, Nat.reduceAdd, Nat.reduceSub, Nat.reduceMul, Nat.reduceEqDiff, Nat.reduceLeDiff, Nat.reduceLT, Nat.reduceBEq, Nat.reduceBNe, reduceIte, reduceCtorEq, Int.reduceToNat, Int.reduceAdd, Int.reduceSub, Int.reduceMul, Int.reduceNeg, Int.reduceLT, Int.reduceLE, Int.reduceEq, Int.reduceNe, Evid.iv, Evid.c, Place.c, Move.c, Cert.c, Recall.c, Purity.c, Sample.c, Recipe.c, ints, ic]) | (refine CallD_eq (c69 _ _ _) (by decide) ?_; simp only [*, go_sem, Int.reduceNegSucc, Nat.reduceAdd, Nat.reduceSub, Nat.reduceMul, Nat.reduceEqDiff, Nat.reduceLeDiff, Nat.reduceLT, Nat.reduceBEq, Nat.reduceBNe, reduceIte, reduceCtorEq, Int.reduceToNat, Int.reduceAdd, Int.reduceSub, Int.reduceMul, Int.reduceNeg, Int.reduceLT, Int.reduceLE, Int.reduceEq, Int.reduceNe, Evid.iv, Evid.c, Place.c, Move.c, Cert.c, Recall.c, Purity.c, Sample.c, Recipe.c, ints, ic]))
end Go.Proofs.Ytpnlfkaijdjhlaa
