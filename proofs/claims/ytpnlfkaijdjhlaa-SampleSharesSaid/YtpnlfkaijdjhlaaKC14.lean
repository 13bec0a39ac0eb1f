/- A part of the proof: what functions of the program do, and the layer under it. No further condition. -/
import Derived.Test.YtpnlfkaijdjhlaaKE2
namespace Go.Proofs.Ytpnlfkaijdjhlaa
set_option linter.all false
open Go.Abs

def samples (l : List Sample) : IV := .sl (l.map Sample.c)
def recipes (l : List Recipe) : IV := .sl (l.map Recipe.c)
def shortG (s : Sample) : Bool := !decide (10 < (s.grams.length : Int))
def few19 (l : List Sample) (r : List Recipe) : Bool := (l.take 41).all shortG && (decide ((l.length : Int) ≤ 40) && decide ((r.length : Int) ≤ 40))
set_option maxRecDepth 100000 in
set_option maxHeartbeats 1000000 in
theorem c9 (l : List Sample) (r : List Recipe) : Ctr G.P 9 [samples l, recipes r] (· = .bool (few19 l r)) := by
  refine ctr_go good _ _ [.tmp 4] Try.func9 rfl rfl (by decide +kernel) rfl ?_
  unfold samples recipes
  simp only [go_sem, Int.reduceNegSucc, Nat.reduceAdd, Nat.reduceSub, Nat.reduceMul, Nat.reduceEqDiff, Nat.reduceLeDiff, Nat.reduceLT, Nat.reduceBEq, Nat.reduceBNe, reduceIte, reduceCtorEq, Int.reduceToNat, Int.reduceAdd, Int.reduceSub, Int.reduceMul, Int.reduceNeg, Int.reduceLT, Int.reduceLE, Int.reduceEq, Int.reduceNe, Evid.iv, Evid.c, Place.c, Move.c, Cert.c, Recall.c, Purity.c, Sample.c, Recipe.c, ints, ic]
  refine LoopP_of [0, 1, 5] [] (fun i : Nat => ⟨[(0, .im (.sl (l.map Sample.c))), (1, .im (.sl (r.map Recipe.c))), (5, .im (.int i))], [], []⟩)
    (fun i => i ≤ l.length ∧ i ≤ 41 ∧ (l.take i).all shortG = true) (fun i => l.length - i) 0 ?_ ⟨Nat.zero_le _, Nat.zero_le _, rfl⟩ ?_
  · simp only [Int.natCast_zero, go_sem, Int.reduceNegSucc, Nat.reduceAdd, Nat.reduceSub, Nat.reduceMul, Nat.reduceEqDiff, Nat.reduceLeDiff, Nat.reduceLT, Nat.reduceBEq, Nat.reduceBNe, reduceIte, reduceCtorEq, Int.reduceToNat, Int.reduceAdd, Int.reduceSub, Int.reduceMul, Int.reduceNeg, Int.reduceLT, Int.reduceLE, Int.reduceEq, Int.reduceNe, Evid.iv, Evid.c, Place.c, Move.c, Cert.c, Recall.c, Purity.c, Sample.c, Recipe.c, ints, ic]
  · intro i ⟨hi, h41, ha⟩
    by_cases hp : (i : Int) < l.length
    · have hd : decide ((i : Int) < l.length) = true := decide_eq_true hp
      obtain ⟨x, hx⟩ := at_nat hp
      have h1 := i64_ok (n := (i : Int) + 1) (by omega)
      by_cases hq : (i : Int) ≤ 40
      · have hr : decide ((i : Int) ≤ 40) = true := decide_eq_true hq
        simp only [hd, hr, List.getElem?_map, hx, Sample.c, ints, go_sem, Int.reduceNegSucc, Nat.reduceAdd, Nat.reduceSub, Nat.reduceMul, Nat.reduceEqDiff, Nat.reduceLeDiff, Nat.reduceLT, Nat.reduceBEq, Nat.reduceBNe, reduceIte, reduceCtorEq, Int.reduceToNat, Int.reduceAdd, Int.reduceSub, Int.reduceMul, Int.reduceNeg, Int.reduceLT, Int.reduceLE, Int.reduceEq, Int.reduceNe, Evid.iv, Evid.c, Place.c, Move.c, Cert.c, Recall.c, Purity.c, Sample.c, Recipe.c, ints, ic]
        refine Two_of (fun he => ?_) (fun he => ?_)
        · have hf : few19 l r = false := by
            have h41' : (l.take 41)[i]? = some x := by rw [List.getElem?_take, if_pos (by omega)]; exact hx
            simp [few19, all_not h41' (f := shortG) (by simp only [shortG, he, Bool.not_true])]
          simp only [hd, hr, he, hf, go_sem, Int.reduceNegSucc, Nat.reduceAdd, Nat.reduceSub, Nat.reduceMul, Nat.reduceEqDiff, Nat.reduceLeDiff, Nat.reduceLT, Nat.reduceBEq, Nat.reduceBNe, reduceIte, reduceCtorEq, Int.reduceToNat, Int.reduceAdd, Int.reduceSub, Int.reduceMul, Int.reduceNeg, Int.reduceLT, Int.reduceLE, Int.reduceEq, Int.reduceNe, Evid.iv, Evid.c, Place.c, Move.c, Cert.c, Recall.c, Purity.c, Sample.c, Recipe.c, ints, ic]
        · simp only [hd, hr, he, go_sem, Int.reduceNegSucc, Nat.reduceAdd, Nat.reduceSub, Nat.reduceMul, Nat.reduceEqDiff, Nat.reduceLeDiff, Nat.reduceLT, Nat.reduceBEq, Nat.reduceBNe, reduceIte, reduceCtorEq, Int.reduceToNat, Int.reduceAdd, Int.reduceSub, Int.reduceMul, Int.reduceNeg, Int.reduceLT, Int.reduceLE, Int.reduceEq, Int.reduceNe, Evid.iv, Evid.c, Place.c, Move.c, Cert.c, Recall.c, Purity.c, Sample.c, Recipe.c, ints, ic]
          refine RoundP_of (i + 1) ?_ (by omega) ⟨by omega, by omega, by rw [all_take_succ hx, ha]; simp only [shortG, he, Bool.not_false, Bool.and_self]⟩
          simp only [h1, Int.natCast_add, go_sem, Int.reduceNegSucc, Nat.reduceAdd, Nat.reduceSub, Nat.reduceMul, Nat.reduceEqDiff, Nat.reduceLeDiff, Nat.reduceLT, Nat.reduceBEq, Nat.reduceBNe, reduceIte, reduceCtorEq, Int.reduceToNat, Int.reduceAdd, Int.reduceSub, Int.reduceMul, Int.reduceNeg, Int.reduceLT, Int.reduceLE, Int.reduceEq, Int.reduceNe, Evid.iv, Evid.c, Place.c, Move.c, Cert.c, Recall.c, Purity.c, Sample.c, Recipe.c, ints, ic]
      · have hr : decide ((i : Int) ≤ 40) = false := decide_eq_false hq
        have h40 : decide ((l.length : Int) ≤ 40) = false := decide_eq_false (by omega)
        have hf : few19 l r = false := by simp only [few19, h40, Bool.false_and, Bool.and_false]
        simp only [hd, hr, hf, h40, go_sem, Int.reduceNegSucc, Nat.reduceAdd, Nat.reduceSub, Nat.reduceMul, Nat.reduceEqDiff, Nat.reduceLeDiff, Nat.reduceLT, Nat.reduceBEq, Nat.reduceBNe, reduceIte, reduceCtorEq, Int.reduceToNat, Int.reduceAdd, Int.reduceSub, Int.reduceMul, Int.reduceNeg, Int.reduceLT, Int.reduceLE, Int.reduceEq, Int.reduceNe, Evid.iv, Evid.c, Place.c, Move.c, Cert.c, Recall.c, Purity.c, Sample.c, Recipe.c, ints, ic]
    · have hd : decide ((i : Int) < l.length) = false := decide_eq_false hp
      have hf : few19 l r = (decide ((l.length : Int) ≤ 40) && decide ((r.length : Int) ≤ 40)) := by
        rw [List.take_of_length_le (by omega)] at ha
        rw [few19, List.take_of_length_le (by omega), ha, Bool.true_and]
      simp only [hd, hf, go_sem, Int.reduceNegSucc, Nat.reduceAdd, Nat.reduceSub, Nat.reduceMul, Nat.reduceEqDiff, Nat.reduceLeDiff, Nat.reduceLT, Nat.reduceBEq, Nat.reduceBNe, reduceIte, reduceCtorEq, Int.reduceToNat, Int.reduceAdd, Int.reduceSub, Int.reduceMul, Int.reduceNeg, Int.reduceLT, Int.reduceLE, Int.reduceEq, Int.reduceNe, Evid.iv, Evid.c, Place.c, Move.c, Cert.c, Recall.c, Purity.c, Sample.c, Recipe.c, ints, ic]
      repeat' (refine Two_dec (fun hd hp => ?_) (fun hd hp => ?_) <;> simp only [hd, go_sem, Int.reduceNegSucc, Nat.reduceAdd, Nat.reduceSub, Nat.reduceMul, Nat.reduceEqDiff, Nat.reduceLeDiff, Nat.reduceLT, Nat.reduceBEq, Nat.reduceBNe, reduceIte, reduceCtorEq, Int.reduceToNat, Int.reduceAdd, Int.reduceSub, Int.reduceMul, Int.reduceNeg, Int.reduceLT, Int.reduceLE, Int.reduceEq, Int.reduceNe, Evid.iv, Evid.c, Place.c, Move.c, Cert.c, Recall.c, Purity.c, Sample.c, Recipe.c, ints, ic])
      all_goals (rw [hf]; simp only [*, decide_true, decide_false, Bool.true_and, Bool.false_and])
end Go.Proofs.Ytpnlfkaijdjhlaa
