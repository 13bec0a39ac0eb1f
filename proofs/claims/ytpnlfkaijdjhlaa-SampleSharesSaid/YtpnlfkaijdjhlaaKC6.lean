/- A part of the proof: what functions of the program do, and the layer under it. No further condition. -/
import Derived.Test.YtpnlfkaijdjhlaaKE1
namespace Go.Proofs.Ytpnlfkaijdjhlaa
set_option linter.all false
open Go.Abs
def kindAt (e : Evid) (i : Int) : Int := match e.places[i.toNat]? with
  | some p => p.kind
  | none => 0
theorem kindAt_of {e : Evid} {i : Int} {p : Place} (h : e.places[i.toNat]? = some p) : kindAt e i = p.kind := by simp [kindAt, h]
def moveF (e : Evid) (m : Move) : Bool :=
  idx m.fr e.places.length && idx m.to e.places.length && !decide (m.fr = m.to) && !decide (kindAt e m.fr = 5) && !decide (kindAt e m.fr = 6) && !(decide (kindAt e m.fr = 0) && m.all) && !decide (kindAt e m.to = 0) &&
    (if m.scale = -1 then decide (m.reading = 0) else idx m.scale e.scales && btw m.reading 0 1099511627776)
theorem at_idx {α : Type} {l : List α} {i : Int} (h : idx i l.length = true) : ∃ x, l[i.toNat]? = some x ∧ 0 ≤ i := by
  rw [idx_iff] at h
  exact ⟨_, List.getElem?_eq_getElem (by omega), h.1⟩
set_option maxRecDepth 100000 in
set_option maxHeartbeats 1000000 in
theorem c48 (e : Evid) (m : Move) : Ctr G.P 48 [e.iv, .agg m.c] (· = .bool (moveF e m)) := by
  rcases hf : idx m.fr e.places.length with _ | _
  · have hm : moveF e m = false := by simp [moveF, hf]
    refine ctr_go good _ _ [.tmp 4] Try.func48 rfl rfl (by decide +kernel) rfl ?_
    unfold Evid.iv Evid.c Move.c
    rw [hm]
    simp only [go_sem, Int.reduceNegSucc, Nat.reduceAdd, Nat.reduceSub, Nat.reduceMul, Nat.reduceEqDiff, Nat.reduceLeDiff, Nat.reduceLT, Nat.reduceBEq, Nat.reduceBNe, reduceIte, reduceCtorEq, Int.reduceToNat, Int.reduceAdd, Int.reduceSub, Int.reduceMul, Int.reduceNeg, Int.reduceLT, Int.reduceLE, Int.reduceEq, Int.reduceNe, Evid.iv, Evid.c, Place.c, Move.c, Cert.c, Recall.c, Purity.c, Sample.c, Recipe.c, ints, ic]
    repeat' (first | (refine Two_of (fun hd => ?_) (fun hd => ?_) <;> simp only [*, go_sem, Int.reduceNegSucc, Nat.reduceAdd, Nat.reduceSub, Nat.reduceMul, Nat.reduceEqDiff, Nat.reduceLeDiff, Nat.reduceLT, Nat.reduceBEq, Nat.reduceBNe, reduceIte, reduceCtorEq, Int.reduceToNat, Int.reduceAdd, Int.reduceSub, Int.reduceMul, Int.reduceNeg, Int.reduceLT, Int.reduceLE, Int.reduceEq, Int.reduceNe, Evid.iv, Evid.c, Place.c, Move.c, Cert.c, Recall.c, Purity.c, Sample.c, Recipe.c, ints, ic]) | (refine CallP_eq (c67 _ _) (by first | decide | assumption) ?_; simp only [*, go_sem, Int.reduceNegSucc, Nat.reduceAdd, Nat.reduceSub, Nat.reduceMul, Nat.reduceEqDiff, Nat.reduceLeDiff, Nat.reduceLT, Nat.reduceBEq, Nat.reduceBNe, reduceIte, reduceCtorEq, Int.reduceToNat, Int.reduceAdd, Int.reduceSub, Int.reduceMul, Int.reduceNeg, Int.reduceLT, Int.reduceLE, Int.reduceEq, Int.reduceNe, Evid.iv, Evid.c, Place.c, Move.c, Cert.c, Recall.c, Purity.c, Sample.c, Recipe.c, ints, ic]) | (refine CallD_eq (c67 _ _) (by decide) ?_; simp only [*, go_sem, Int.reduceNegSucc, Nat.reduceAdd, Nat.reduceSub, Nat.reduceMul, Nat.reduceEqDiff, Nat.reduceLeDiff, Nat.reduceLT, Nat.reduceBEq, Nat.reduceBNe, reduceIte, reduceCtorEq, Int.reduceToNat, Int.reduceAdd, Int.reduceSub, Int.reduceMul, Int.reduceNeg, Int.reduceLT, Int.reduceLE, Int.reduceEq, Int.reduceNe, Evid.iv, Evid.c, Place.c, Move.c, Cert.c, Recall.c, Purity.c, Sample.c, Recipe.c, ints, ic]))
  · obtain ⟨p, hp, h0⟩ := at_idx hf
    have hkp := kindAt_of hp
    rcases ht : idx m.to e.places.length with _ | _
    · have hm : moveF e m = false := by simp [moveF, ht]
      refine ctr_go good _ _ [.tmp 4] Try.func48 rfl rfl (by decide +kernel) rfl ?_
      unfold Evid.iv Evid.c Move.c
      rw [hm]
      simp only [go_sem, Int.reduceNegSucc, Nat.reduceAdd, Nat.reduceSub, Nat.reduceMul, Nat.reduceEqDiff, Nat.reduceLeDiff, Nat.reduceLT, Nat.reduceBEq, Nat.reduceBNe, reduceIte, reduceCtorEq, Int.reduceToNat, Int.reduceAdd, Int.reduceSub, Int.reduceMul, Int.reduceNeg, Int.reduceLT, Int.reduceLE, Int.reduceEq, Int.reduceNe, Evid.iv, Evid.c, Place.c, Move.c, Cert.c, Recall.c, Purity.c, Sample.c, Recipe.c, ints, ic]
      repeat' (first | (refine Two_of (fun hd => ?_) (fun hd => ?_) <;> simp only [*, go_sem, Int.reduceNegSucc, Nat.reduceAdd, Nat.reduceSub, Nat.reduceMul, Nat.reduceEqDiff, Nat.reduceLeDiff, Nat.reduceLT, Nat.reduceBEq, Nat.reduceBNe, reduceIte, reduceCtorEq, Int.reduceToNat, Int.reduceAdd, Int.reduceSub, Int.reduceMul, Int.reduceNeg, Int.reduceLT, Int.reduceLE, Int.reduceEq, Int.reduceNe, Evid.iv, Evid.c, Place.c, Move.c, Cert.c, Recall.c, Purity.c, Sample.c, Recipe.c, ints, ic]) | (refine CallP_eq (c67 _ _) (by first | decide | assumption) ?_; simp only [*, go_sem, Int.reduceNegSucc, Nat.reduceAdd, Nat.reduceSub, Nat.reduceMul, Nat.reduceEqDiff, Nat.reduceLeDiff, Nat.reduceLT, Nat.reduceBEq, Nat.reduceBNe, reduceIte, reduceCtorEq, Int.reduceToNat, Int.reduceAdd, Int.reduceSub, Int.reduceMul, Int.reduceNeg, Int.reduceLT, Int.reduceLE, Int.reduceEq, Int.reduceNe, Evid.iv, Evid.c, Place.c, Move.c, Cert.c, Recall.c, Purity.c, Sample.c, Recipe.c, ints, ic]) | (refine CallD_eq (c67 _ _) (by decide) ?_; simp only [*, go_sem, Int.reduceNegSucc, Nat.reduceAdd, Nat.reduceSub, Nat.reduceMul, Nat.reduceEqDiff, Nat.reduceLeDiff, Nat.reduceLT, Nat.reduceBEq, Nat.reduceBNe, reduceIte, reduceCtorEq, Int.reduceToNat, Int.reduceAdd, Int.reduceSub, Int.reduceMul, Int.reduceNeg, Int.reduceLT, Int.reduceLE, Int.reduceEq, Int.reduceNe, Evid.iv, Evid.c, Place.c, Move.c, Cert.c, Recall.c, Purity.c, Sample.c, Recipe.c, ints, ic]))
    · obtain ⟨q, hq, h1⟩ := at_idx ht
      have hkq := kindAt_of hq
      have hm : moveF e m = (!decide (m.fr = m.to) && !decide (p.kind = 5) && !decide (p.kind = 6) && !(decide (p.kind = 0) && m.all) && !decide (q.kind = 0) &&
        (if m.scale = -1 then decide (m.reading = 0) else idx m.scale e.scales && btw m.reading 0 1099511627776)) := by simp [moveF, hf, ht, hkp, hkq]
      refine ctr_go good _ _ [.tmp 4] Try.func48 rfl rfl (by decide +kernel) rfl ?_
      unfold Evid.iv Evid.c Move.c
      rw [hm]
      clear hm hkp hkq
      simp only [go_sem, Int.reduceNegSucc, Nat.reduceAdd, Nat.reduceSub, Nat.reduceMul, Nat.reduceEqDiff, Nat.reduceLeDiff, Nat.reduceLT, Nat.reduceBEq, Nat.reduceBNe, reduceIte, reduceCtorEq, Int.reduceToNat, Int.reduceAdd, Int.reduceSub, Int.reduceMul, Int.reduceNeg, Int.reduceLT, Int.reduceLE, Int.reduceEq, Int.reduceNe, Evid.iv, Evid.c, Place.c, Move.c, Cert.c, Recall.c, Purity.c, Sample.c, Recipe.c, ints, ic]
      repeat' (first | (refine Two_of (fun hd => ?_) (fun hd => ?_) <;> simp only [*, List.getElem?_map, Place.c, go_sem, Int.reduceNegSucc, Nat.reduceAdd, Nat.reduceSub, Nat.reduceMul, Nat.reduceEqDiff, Nat.reduceLeDiff, Nat.reduceLT, Nat.reduceBEq, Nat.reduceBNe, reduceIte, reduceCtorEq, Int.reduceToNat, Int.reduceAdd, Int.reduceSub, Int.reduceMul, Int.reduceNeg, Int.reduceLT, Int.reduceLE, Int.reduceEq, Int.reduceNe, Evid.iv, Evid.c, Place.c, Move.c, Cert.c, Recall.c, Purity.c, Sample.c, Recipe.c, ints, ic]) | (refine CallP_eq (c67 _ _) (by first | decide | assumption) ?_; simp only [*, List.getElem?_map, Place.c, go_sem, Int.reduceNegSucc, Nat.reduceAdd, Nat.reduceSub, Nat.reduceMul, Nat.reduceEqDiff, Nat.reduceLeDiff, Nat.reduceLT, Nat.reduceBEq, Nat.reduceBNe, reduceIte, reduceCtorEq, Int.reduceToNat, Int.reduceAdd, Int.reduceSub, Int.reduceMul, Int.reduceNeg, Int.reduceLT, Int.reduceLE, Int.reduceEq, Int.reduceNe, Evid.iv, Evid.c, Place.c, Move.c, Cert.c, Recall.c, Purity.c, Sample.c, Recipe.c, ints, ic]) | (refine CallP_eq (c68 _ _ _) (by first | decide | assumption) ?_; simp only [*, List.getElem?_map, Place.c, go_sem, Int.reduceNegSucc, Nat.reduceAdd, Nat.reduceSub, Nat.reduceMul, Nat.reduceEqDiff, Nat.reduceLeDiff, Nat.reduceLT, Nat.reduceBEq, Nat.reduceBNe, reduceIte, reduceCtorEq, Int.reduceToNat, Int.reduceAdd, Int.reduceSub, Int.reduceMul, Int.reduceNeg, Int.reduceLT, Int.reduceLE, Int.reduceEq, Int.reduceNe, Evid.iv, Evid.c, Place.c, Move.c, Cert.c, Recall.c, Purity.c, Sample.c, Recipe.c, ints, ic]) | (refine CallD_eq (c67 _ _) (by decide) ?_; simp only [*, List.getElem?_map, Place.c, go_sem, Int.reduceNegSucc, Nat.reduceAdd, Nat.reduceSub, Nat.reduceMul, Nat.reduceEqDiff, Nat.reduceLeDiff, Nat.reduceLT, Nat.reduceBEq, Nat.reduceBNe, reduceIte, reduceCtorEq, Int.reduceToNat, Int.reduceAdd, Int.reduceSub, Int.reduceMul, Int.reduceNeg, Int.reduceLT, Int.reduceLE, Int.reduceEq, Int.reduceNe, Evid.iv, Evid.c, Place.c, Move.c, Cert.c, Recall.c, Purity.c, Sample.c, Recipe.c, ints, ic]) | (refine CallD_eq (c68 _ _ _) (by decide) ?_; simp only [*, List.getElem?_map, Place.c, go_sem, Int.reduceNegSucc, Nat.reduceAdd, Nat.reduceSub, Nat.reduceMul, Nat.reduceEqDiff, Nat.reduceLeDiff, Nat.reduceLT, Nat.reduceBEq, Nat.reduceBNe, reduceIte, reduceCtorEq, Int.reduceToNat, Int.reduceAdd, Int.reduceSub, Int.reduceMul, Int.reduceNeg, Int.reduceLT, Int.reduceLE, Int.reduceEq, Int.reduceNe, Evid.iv, Evid.c, Place.c, Move.c, Cert.c, Recall.c, Purity.c, Sample.c, Recipe.c, ints, ic]))
      all_goals simp_all
end Go.Proofs.Ytpnlfkaijdjhlaa
