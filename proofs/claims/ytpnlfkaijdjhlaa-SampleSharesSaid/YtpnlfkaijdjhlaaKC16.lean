/- A part of the proof: what functions of the program do, and the layer under it. No further condition. -/
import Derived.Test.YtpnlfkaijdjhlaaKC15
namespace Go.Proofs.Ytpnlfkaijdjhlaa
set_option linter.all false
open Go.Abs

def sampledF (e : Evid) (s : Sample) : List Purity × Int :=
  if decide ((puritiesF s).2 = 0) = false then ([], (puritiesF s).2) else if decide ((e.moves.length : Int) ≤ s.move) = true then ([], 4) else if decide (((puritiesF s).1.length : Int) = e.mats) = false then ([], 2) else ((puritiesF s).1, 0)
theorem purGo_len (s : Sample) (S : Int) : ∀ (l : List Int) (i : Nat), (purGo s S i l).length = l.length
  | [], _ => rfl
  | _ :: r, i => by simp [purGo, purGo_len s S r (i + 1)]
theorem pur_len {s : Sample} (h : (puritiesF s).2 = 0) : (puritiesF s).1.length = s.grams.length := by
  unfold puritiesF at h ⊢
  split at h
  · cases h
  · split at h
    · cases h
    · rename_i h1 h2
      rw [if_neg h1, if_neg h2]
      exact purGo_len _ _ _ _
theorem c30 (e : Evid) (s : Sample) (hl : s.grams.length ≤ 100000) : Ctr G.P 30 [e.iv, .agg s.c] (· = resP (sampledF e s)) := by
  have h10 := c10 s hl
  unfold sampledF
  generalize puritiesF s = r at *
  obtain ⟨l, k⟩ := r
  refine ctr_go good _ _ [.tmp 4, .tmp 5] Try.func30 rfl rfl (by decide +kernel) rfl ?_
  unfold Evid.iv Evid.c Sample.c ints
  simp only [go_sem, Int.reduceNegSucc, Nat.reduceAdd, Nat.reduceSub, Nat.reduceMul, Nat.reduceEqDiff, Nat.reduceLeDiff, Nat.reduceLT, Nat.reduceBEq, Nat.reduceBNe, reduceIte, reduceCtorEq, Int.reduceToNat, Int.reduceAdd, Int.reduceSub, Int.reduceMul, Int.reduceNeg, Int.reduceLT, Int.reduceLE, Int.reduceEq, Int.reduceNe, Evid.iv, Evid.c, Place.c, Move.c, Cert.c, Recall.c, Purity.c, Sample.c, Recipe.c, ints, ic]
  refine CallP_eq h10 (by decide) ?_
  clear h10
  simp only [resP, purs, go_sem, Int.reduceNegSucc, Nat.reduceAdd, Nat.reduceSub, Nat.reduceMul, Nat.reduceEqDiff, Nat.reduceLeDiff, Nat.reduceLT, Nat.reduceBEq, Nat.reduceBNe, reduceIte, reduceCtorEq, Int.reduceToNat, Int.reduceAdd, Int.reduceSub, Int.reduceMul, Int.reduceNeg, Int.reduceLT, Int.reduceLE, Int.reduceEq, Int.reduceNe, Evid.iv, Evid.c, Place.c, Move.c, Cert.c, Recall.c, Purity.c, Sample.c, Recipe.c, ints, ic]
  repeat' (first | (refine Two_of (fun hd => ?_) (fun hd => ?_) <;> simp only [*, resP, purs, go_sem, Int.reduceNegSucc, Nat.reduceAdd, Nat.reduceSub, Nat.reduceMul, Nat.reduceEqDiff, Nat.reduceLeDiff, Nat.reduceLT, Nat.reduceBEq, Nat.reduceBNe, reduceIte, reduceCtorEq, Int.reduceToNat, Int.reduceAdd, Int.reduceSub, Int.reduceMul, Int.reduceNeg, Int.reduceLT, Int.reduceLE, Int.reduceEq, Int.reduceNe, Evid.iv, Evid.c, Place.c, Move.c, Cert.c, Recall.c, Purity.c, Sample.c, Recipe.c, ints, ic]))
theorem c37 (e : Evid) (s : Sample) : Ctr G.P 37 [e.iv, .agg s.c] (· = resP (sampledF e s)) := by
  have h11 := c11 s
  have hlen := pur_len (s := s)
  unfold sampledF
  generalize puritiesF s = r at *
  obtain ⟨l, k⟩ := r
  dsimp only at hlen
  rcases Decidable.em (k = 0) with hk | hk
  · have hlen' := hlen hk
    rw [hlen']
    subst hk
    clear hlen hlen'
    refine ctr_go good _ _ [.tmp 4, .tmp 5] Try.func37 rfl rfl (by decide +kernel) rfl ?_
    unfold Evid.iv Evid.c Sample.c ints
    simp only [go_sem, Int.reduceNegSucc, Nat.reduceAdd, Nat.reduceSub, Nat.reduceMul, Nat.reduceEqDiff, Nat.reduceLeDiff, Nat.reduceLT, Nat.reduceBEq, Nat.reduceBNe, reduceIte, reduceCtorEq, Int.reduceToNat, Int.reduceAdd, Int.reduceSub, Int.reduceMul, Int.reduceNeg, Int.reduceLT, Int.reduceLE, Int.reduceEq, Int.reduceNe, Evid.iv, Evid.c, Place.c, Move.c, Cert.c, Recall.c, Purity.c, Sample.c, Recipe.c, ints, ic]
    refine CallP_eq h11 (by decide) ?_
    clear h11
    simp only [resP, purs, go_sem, Int.reduceNegSucc, Nat.reduceAdd, Nat.reduceSub, Nat.reduceMul, Nat.reduceEqDiff, Nat.reduceLeDiff, Nat.reduceLT, Nat.reduceBEq, Nat.reduceBNe, reduceIte, reduceCtorEq, Int.reduceToNat, Int.reduceAdd, Int.reduceSub, Int.reduceMul, Int.reduceNeg, Int.reduceLT, Int.reduceLE, Int.reduceEq, Int.reduceNe, Evid.iv, Evid.c, Place.c, Move.c, Cert.c, Recall.c, Purity.c, Sample.c, Recipe.c, ints, ic]
    repeat' (first | (refine Two_of (fun hd => ?_) (fun hd => ?_) <;> simp only [*, resP, purs, go_sem, Int.reduceNegSucc, Nat.reduceAdd, Nat.reduceSub, Nat.reduceMul, Nat.reduceEqDiff, Nat.reduceLeDiff, Nat.reduceLT, Nat.reduceBEq, Nat.reduceBNe, reduceIte, reduceCtorEq, Int.reduceToNat, Int.reduceAdd, Int.reduceSub, Int.reduceMul, Int.reduceNeg, Int.reduceLT, Int.reduceLE, Int.reduceEq, Int.reduceNe, Evid.iv, Evid.c, Place.c, Move.c, Cert.c, Recall.c, Purity.c, Sample.c, Recipe.c, ints, ic]))
  · clear hlen
    refine ctr_go good _ _ [.tmp 4, .tmp 5] Try.func37 rfl rfl (by decide +kernel) rfl ?_
    unfold Evid.iv Evid.c Sample.c ints
    simp only [go_sem, Int.reduceNegSucc, Nat.reduceAdd, Nat.reduceSub, Nat.reduceMul, Nat.reduceEqDiff, Nat.reduceLeDiff, Nat.reduceLT, Nat.reduceBEq, Nat.reduceBNe, reduceIte, reduceCtorEq, Int.reduceToNat, Int.reduceAdd, Int.reduceSub, Int.reduceMul, Int.reduceNeg, Int.reduceLT, Int.reduceLE, Int.reduceEq, Int.reduceNe, Evid.iv, Evid.c, Place.c, Move.c, Cert.c, Recall.c, Purity.c, Sample.c, Recipe.c, ints, ic]
    refine CallP_eq h11 (by decide) ?_
    clear h11
    simp only [resP, purs, hk, go_sem, Int.reduceNegSucc, Nat.reduceAdd, Nat.reduceSub, Nat.reduceMul, Nat.reduceEqDiff, Nat.reduceLeDiff, Nat.reduceLT, Nat.reduceBEq, Nat.reduceBNe, reduceIte, reduceCtorEq, Int.reduceToNat, Int.reduceAdd, Int.reduceSub, Int.reduceMul, Int.reduceNeg, Int.reduceLT, Int.reduceLE, Int.reduceEq, Int.reduceNe, Evid.iv, Evid.c, Place.c, Move.c, Cert.c, Recall.c, Purity.c, Sample.c, Recipe.c, ints, ic]
end Go.Proofs.Ytpnlfkaijdjhlaa
