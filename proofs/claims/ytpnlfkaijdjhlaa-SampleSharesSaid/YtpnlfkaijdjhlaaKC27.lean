/- A part of the proof: what functions of the program do, and the layer under it. No further condition. -/
import Derived.Test.YtpnlfkaijdjhlaaKC25
namespace Go.Proofs.Ytpnlfkaijdjhlaa
set_option linter.all false
open Go.Abs

set_option maxRecDepth 100000 in
set_option maxHeartbeats 2000000 in
theorem c12 (e : Evid) (ss : List Sample) (rs : List Recipe) (hs : ss.length ≤ 1000) (hr : rs.length ≤ 1000) (hss : ∀ s ∈ ss, s.grams.length ≤ 100000) : Ctr G.P 12 [e.iv, samples ss, recipes rs] (· = resE (expandF e ss rs)) := by
  have h21 := c21 e
  by_cases hk : checkF e = 0
  · obtain ⟨hfit, hm⟩ := check_fit hk
    obtain ⟨l1, l2, l3, l4, l5, l6, l7, l8⟩ := fit_len hfit
    clear hfit l7 l8
    have h31 := fun x => c31 e x (by omega) (by omega) ⟨hm, by omega⟩
    have hlS := fun s => sampled_len e s l6
    have hlR := fun s => cooked_len e s l2
    have h29 := c29 e.purs (by omega)
    have h32 := CtrV.ctr (c32 e.places (by omega))
    have h33 := CtrV.ctr (c33 e.moves (by omega))
    have h34 := CtrV.ctr (c34 e.certs (by omega))
    have h35 := CtrV.ctr (c35 e.recalls (by omega))
    rw [hk] at h21
    have hx : expandF e ss rs = if decide ((addS e e.purs ss).2 = 0) = false then (zeroE, (addS e e.purs ss).2) else
      if decide ((addR e (addS e e.purs ss).1 rs).2 = 0) = false then (zeroE, (addR e (addS e e.purs ss).1 rs).2) else
      if decide (200 < ((addR e (addS e e.purs ss).1 rs).1.length : Int)) = true then (zeroE, 6) else ({ e with purs := (addR e (addS e e.purs ss).1 rs).1 }, 0) := by simp [expandF, hk]
    rw [hx]
    clear hx hk l1 l3 l4
    refine ctr_go good _ _ [.cell 6 28, .tmp 7] Try.func12 rfl rfl (by decide +kernel) rfl ?_
    unfold samples recipes
    simp only [go_sem, Int.reduceNegSucc, Nat.reduceAdd, Nat.reduceSub, Nat.reduceMul, Nat.reduceEqDiff, Nat.reduceLeDiff, Nat.reduceLT, Nat.reduceBEq, Nat.reduceBNe, reduceIte, reduceCtorEq, Int.reduceToNat, Int.reduceAdd, Int.reduceSub, Int.reduceMul, Int.reduceNeg, Int.reduceLT, Int.reduceLE, Int.reduceEq, Int.reduceNe, Evid.iv, Evid.c, Place.c, Move.c, Cert.c, Recall.c, Purity.c, Sample.c, Recipe.c, ints, ic]
    refine CallP_eq h21 (by decide) ?_
    simp only [go_sem, Int.reduceNegSucc, Nat.reduceAdd, Nat.reduceSub, Nat.reduceMul, Nat.reduceEqDiff, Nat.reduceLeDiff, Nat.reduceLT, Nat.reduceBEq, Nat.reduceBNe, reduceIte, reduceCtorEq, Int.reduceToNat, Int.reduceAdd, Int.reduceSub, Int.reduceMul, Int.reduceNeg, Int.reduceLT, Int.reduceLE, Int.reduceEq, Int.reduceNe, Evid.iv, Evid.c, Place.c, Move.c, Cert.c, Recall.c, Purity.c, Sample.c, Recipe.c, ints, ic]
    clear h21
    refine CallP_vec h29 (by decide) (purs_len4 _) ?_
    simp only [go_sem, Int.reduceNegSucc, Nat.reduceAdd, Nat.reduceSub, Nat.reduceMul, Nat.reduceEqDiff, Nat.reduceLeDiff, Nat.reduceLT, Nat.reduceBEq, Nat.reduceBNe, reduceIte, reduceCtorEq, Int.reduceToNat, Int.reduceAdd, Int.reduceSub, Int.reduceMul, Int.reduceNeg, Int.reduceLT, Int.reduceLE, Int.reduceEq, Int.reduceNe, Evid.iv, Evid.c, Place.c, Move.c, Cert.c, Recall.c, Purity.c, Sample.c, Recipe.c, ints, ic]
    clear h29
    refine LoopP_ofP [2, 3, 6, 9, 28, 29, 30] [3, 6, 46, 27] [(9, 46, 52, 4)] (fun g : Nat × List Purity => ⟨[(2, .im (.sl (rs.map Recipe.c))), (3, .loc 3 8 0 0), (6, .loc 6 8 0 0), (9, .vec 46 52 4 (g.2.map Purity.c)), (28, .im (.sl (ss.map Sample.c))), (29, .im (.int ss.length)), (30, .im (.int g.1))],
        [(6, 8, [zeroE.c]), (3, 8, [e.c])], [(46, 4, g.2.length)]⟩)
      (fun g => g.1 ≤ ss.length ∧ addS e e.purs ss = addS e g.2 (ss.drop g.1) ∧ g.2.length ≤ 200 + 6 * g.1) (fun g => ss.length - g.1) (0, e.purs) ?_ ?_ ⟨Nat.zero_le _, rfl, by show e.purs.length ≤ _; omega⟩ ?_
    · simp only [List.length_map, go_sem, Int.reduceNegSucc, Nat.reduceAdd, Nat.reduceSub, Nat.reduceMul, Nat.reduceEqDiff, Nat.reduceLeDiff, Nat.reduceLT, Nat.reduceBEq, Nat.reduceBNe, reduceIte, reduceCtorEq, Int.reduceToNat, Int.reduceAdd, Int.reduceSub, Int.reduceMul, Int.reduceNeg, Int.reduceLT, Int.reduceLE, Int.reduceEq, Int.reduceNe, Evid.iv, Evid.c, Place.c, Move.c, Cert.c, Recall.c, Purity.c, Sample.c, Recipe.c, ints, ic]
    · simp only [Int.natCast_zero, zeroE, List.map_nil, List.length_map, go_sem, Int.reduceNegSucc, Nat.reduceAdd, Nat.reduceSub, Nat.reduceMul, Nat.reduceEqDiff, Nat.reduceLeDiff, Nat.reduceLT, Nat.reduceBEq, Nat.reduceBNe, reduceIte, reduceCtorEq, Int.reduceToNat, Int.reduceAdd, Int.reduceSub, Int.reduceMul, Int.reduceNeg, Int.reduceLT, Int.reduceLE, Int.reduceEq, Int.reduceNe, Evid.iv, Evid.c, Place.c, Move.c, Cert.c, Recall.c, Purity.c, Sample.c, Recipe.c, ints, ic]
    intro ⟨i, acc⟩ ⟨hi, ha, hl⟩
    dsimp only at hi ha hl
    by_cases hp : (i : Int) < ss.length
    · have hd : decide ((i : Int) < ss.length) = true := decide_eq_true hp
      obtain ⟨x, hx⟩ := at_nat hp
      have h1 := i64_ok (n := (i : Int) + 1) (by omega)
      have h30 := c30 e x (hss x (List.mem_of_getElem? hx))
      have hlx := hlS x
      rw [drop_cons hx, addS] at ha
      generalize sampledF e x = r at *
      obtain ⟨l, k⟩ := r
      dsimp only at hlx ha
      simp only [resP, purs] at h30
      simp only [hd, List.getElem?_map, hx, go_sem, Int.reduceNegSucc, Nat.reduceAdd, Nat.reduceSub, Nat.reduceMul, Nat.reduceEqDiff, Nat.reduceLeDiff, Nat.reduceLT, Nat.reduceBEq, Nat.reduceBNe, reduceIte, reduceCtorEq, Int.reduceToNat, Int.reduceAdd, Int.reduceSub, Int.reduceMul, Int.reduceNeg, Int.reduceLT, Int.reduceLE, Int.reduceEq, Int.reduceNe, Evid.iv, Evid.c, Place.c, Move.c, Cert.c, Recall.c, Purity.c, Sample.c, Recipe.c, ints, ic]
      refine CallP_eq h30 (by decide) ?_
      simp only [resP, purs, go_sem, Int.reduceNegSucc, Nat.reduceAdd, Nat.reduceSub, Nat.reduceMul, Nat.reduceEqDiff, Nat.reduceLeDiff, Nat.reduceLT, Nat.reduceBEq, Nat.reduceBNe, reduceIte, reduceCtorEq, Int.reduceToNat, Int.reduceAdd, Int.reduceSub, Int.reduceMul, Int.reduceNeg, Int.reduceLT, Int.reduceLE, Int.reduceEq, Int.reduceNe, Evid.iv, Evid.c, Place.c, Move.c, Cert.c, Recall.c, Purity.c, Sample.c, Recipe.c, ints, ic]
      refine Two_of (fun hk => ?_) (fun hk => ?_)
      · rw [hk, if_pos rfl] at ha
        simp only [eq_self, go_sem, Int.reduceNegSucc, Nat.reduceAdd, Nat.reduceSub, Nat.reduceMul, Nat.reduceEqDiff, Nat.reduceLeDiff, Nat.reduceLT, Nat.reduceBEq, Nat.reduceBNe, reduceIte, reduceCtorEq, Int.reduceToNat, Int.reduceAdd, Int.reduceSub, Int.reduceMul, Int.reduceNeg, Int.reduceLT, Int.reduceLE, Int.reduceEq, Int.reduceNe, Evid.iv, Evid.c, Place.c, Move.c, Cert.c, Recall.c, Purity.c, Sample.c, Recipe.c, ints, ic]
        refine ⟨purs_len4 _, purs_len4 _, by omega, ?_⟩
        refine RoundP_of (i + 1, acc ++ l) ?_ ?_ ⟨?_, ha, ?_⟩
        · simp only [h1, Int.natCast_add, zeroE, List.map_nil, List.map_append, List.length_append, go_sem, Int.reduceNegSucc, Nat.reduceAdd, Nat.reduceSub, Nat.reduceMul, Nat.reduceEqDiff, Nat.reduceLeDiff, Nat.reduceLT, Nat.reduceBEq, Nat.reduceBNe, reduceIte, reduceCtorEq, Int.reduceToNat, Int.reduceAdd, Int.reduceSub, Int.reduceMul, Int.reduceNeg, Int.reduceLT, Int.reduceLE, Int.reduceEq, Int.reduceNe, Evid.iv, Evid.c, Place.c, Move.c, Cert.c, Recall.c, Purity.c, Sample.c, Recipe.c, ints, ic]
        · show ss.length - (i + 1) < ss.length - i; omega
        · show i + 1 ≤ ss.length; omega
        · show (acc ++ l).length ≤ 200 + 6 * (i + 1); rw [List.length_append]; omega
      · rw [hk, if_neg Bool.false_ne_true] at ha
        rw [ha]
        have hk' := of_decide_eq_false hk
        simp only [hk', resE, zeroE, List.map_nil, go_sem, Int.reduceNegSucc, Nat.reduceAdd, Nat.reduceSub, Nat.reduceMul, Nat.reduceEqDiff, Nat.reduceLeDiff, Nat.reduceLT, Nat.reduceBEq, Nat.reduceBNe, reduceIte, reduceCtorEq, Int.reduceToNat, Int.reduceAdd, Int.reduceSub, Int.reduceMul, Int.reduceNeg, Int.reduceLT, Int.reduceLE, Int.reduceEq, Int.reduceNe, Evid.iv, Evid.c, Place.c, Move.c, Cert.c, Recall.c, Purity.c, Sample.c, Recipe.c, ints, ic]
    have hd : decide ((i : Int) < ss.length) = false := decide_eq_false hp
    rw [List.drop_of_length_le (by omega), addS] at ha
    rw [ha]
    simp only [hd, go_sem, Int.reduceNegSucc, Nat.reduceAdd, Nat.reduceSub, Nat.reduceMul, Nat.reduceEqDiff, Nat.reduceLeDiff, Nat.reduceLT, Nat.reduceBEq, Nat.reduceBNe, reduceIte, reduceCtorEq, Int.reduceToNat, Int.reduceAdd, Int.reduceSub, Int.reduceMul, Int.reduceNeg, Int.reduceLT, Int.reduceLE, Int.reduceEq, Int.reduceNe, Evid.iv, Evid.c, Place.c, Move.c, Cert.c, Recall.c, Purity.c, Sample.c, Recipe.c, ints, ic]
    clear hd hp ha hlS
    refine LoopP_ofP [3, 6, 9, 48, 49, 50] [3, 6, 66, 46] [(9, 66, 52, 4)] (fun g : Nat × List Purity => ⟨[(3, .loc 3 8 0 0), (6, .loc 6 8 0 0), (9, .vec 66 52 4 (g.2.map Purity.c)), (48, .im (.sl (rs.map Recipe.c))), (49, .im (.int rs.length)), (50, .im (.int g.1))],
        [(6, 8, [zeroE.c]), (3, 8, [e.c])], [(66, 4, g.2.length)]⟩)
      (fun g => g.1 ≤ rs.length ∧ addR e acc rs = addR e g.2 (rs.drop g.1) ∧ g.2.length ≤ 10000 + 200 * g.1) (fun g => rs.length - g.1) (0, acc) ?_ ?_ ⟨Nat.zero_le _, rfl, by show acc.length ≤ _; omega⟩ ?_
    · simp only [List.length_map, go_sem, Int.reduceNegSucc, Nat.reduceAdd, Nat.reduceSub, Nat.reduceMul, Nat.reduceEqDiff, Nat.reduceLeDiff, Nat.reduceLT, Nat.reduceBEq, Nat.reduceBNe, reduceIte, reduceCtorEq, Int.reduceToNat, Int.reduceAdd, Int.reduceSub, Int.reduceMul, Int.reduceNeg, Int.reduceLT, Int.reduceLE, Int.reduceEq, Int.reduceNe, Evid.iv, Evid.c, Place.c, Move.c, Cert.c, Recall.c, Purity.c, Sample.c, Recipe.c, ints, ic]
    · simp only [Int.natCast_zero, zeroE, List.map_nil, List.length_map, go_sem, Int.reduceNegSucc, Nat.reduceAdd, Nat.reduceSub, Nat.reduceMul, Nat.reduceEqDiff, Nat.reduceLeDiff, Nat.reduceLT, Nat.reduceBEq, Nat.reduceBNe, reduceIte, reduceCtorEq, Int.reduceToNat, Int.reduceAdd, Int.reduceSub, Int.reduceMul, Int.reduceNeg, Int.reduceLT, Int.reduceLE, Int.reduceEq, Int.reduceNe, Evid.iv, Evid.c, Place.c, Move.c, Cert.c, Recall.c, Purity.c, Sample.c, Recipe.c, ints, ic]
    clear hi hl
    intro ⟨i, acc'⟩ ⟨hi, ha, hl⟩
    dsimp only at hi ha hl
    by_cases hp : (i : Int) < rs.length
    · have hd : decide ((i : Int) < rs.length) = true := decide_eq_true hp
      obtain ⟨x, hx⟩ := at_nat hp
      have h1 := i64_ok (n := (i : Int) + 1) (by omega)
      have h31' := h31 x
      have hlx := hlR x
      rw [drop_cons hx, addR] at ha
      generalize cookedF e x = r at *
      obtain ⟨l, k⟩ := r
      dsimp only at hlx ha
      simp only [resP, purs] at h31'
      simp only [hd, List.getElem?_map, hx, go_sem, Int.reduceNegSucc, Nat.reduceAdd, Nat.reduceSub, Nat.reduceMul, Nat.reduceEqDiff, Nat.reduceLeDiff, Nat.reduceLT, Nat.reduceBEq, Nat.reduceBNe, reduceIte, reduceCtorEq, Int.reduceToNat, Int.reduceAdd, Int.reduceSub, Int.reduceMul, Int.reduceNeg, Int.reduceLT, Int.reduceLE, Int.reduceEq, Int.reduceNe, Evid.iv, Evid.c, Place.c, Move.c, Cert.c, Recall.c, Purity.c, Sample.c, Recipe.c, ints, ic]
      refine CallP_eq h31' (by decide) ?_
      simp only [resP, purs, go_sem, Int.reduceNegSucc, Nat.reduceAdd, Nat.reduceSub, Nat.reduceMul, Nat.reduceEqDiff, Nat.reduceLeDiff, Nat.reduceLT, Nat.reduceBEq, Nat.reduceBNe, reduceIte, reduceCtorEq, Int.reduceToNat, Int.reduceAdd, Int.reduceSub, Int.reduceMul, Int.reduceNeg, Int.reduceLT, Int.reduceLE, Int.reduceEq, Int.reduceNe, Evid.iv, Evid.c, Place.c, Move.c, Cert.c, Recall.c, Purity.c, Sample.c, Recipe.c, ints, ic]
      refine Two_of (fun hk => ?_) (fun hk => ?_)
      · rw [hk, if_pos rfl] at ha
        simp only [eq_self, go_sem, Int.reduceNegSucc, Nat.reduceAdd, Nat.reduceSub, Nat.reduceMul, Nat.reduceEqDiff, Nat.reduceLeDiff, Nat.reduceLT, Nat.reduceBEq, Nat.reduceBNe, reduceIte, reduceCtorEq, Int.reduceToNat, Int.reduceAdd, Int.reduceSub, Int.reduceMul, Int.reduceNeg, Int.reduceLT, Int.reduceLE, Int.reduceEq, Int.reduceNe, Evid.iv, Evid.c, Place.c, Move.c, Cert.c, Recall.c, Purity.c, Sample.c, Recipe.c, ints, ic]
        refine ⟨purs_len4 _, purs_len4 _, by omega, ?_⟩
        refine RoundP_of (i + 1, acc' ++ l) ?_ ?_ ⟨?_, ha, ?_⟩
        · simp only [h1, Int.natCast_add, zeroE, List.map_nil, List.map_append, List.length_append, go_sem, Int.reduceNegSucc, Nat.reduceAdd, Nat.reduceSub, Nat.reduceMul, Nat.reduceEqDiff, Nat.reduceLeDiff, Nat.reduceLT, Nat.reduceBEq, Nat.reduceBNe, reduceIte, reduceCtorEq, Int.reduceToNat, Int.reduceAdd, Int.reduceSub, Int.reduceMul, Int.reduceNeg, Int.reduceLT, Int.reduceLE, Int.reduceEq, Int.reduceNe, Evid.iv, Evid.c, Place.c, Move.c, Cert.c, Recall.c, Purity.c, Sample.c, Recipe.c, ints, ic]
        · show rs.length - (i + 1) < rs.length - i; omega
        · show i + 1 ≤ rs.length; omega
        · show (acc' ++ l).length ≤ 10000 + 200 * (i + 1); rw [List.length_append]; omega
      · rw [hk, if_neg Bool.false_ne_true] at ha
        rw [ha]
        have hk' := of_decide_eq_false hk
        simp only [hk', resE, zeroE, List.map_nil, go_sem, Int.reduceNegSucc, Nat.reduceAdd, Nat.reduceSub, Nat.reduceMul, Nat.reduceEqDiff, Nat.reduceLeDiff, Nat.reduceLT, Nat.reduceBEq, Nat.reduceBNe, reduceIte, reduceCtorEq, Int.reduceToNat, Int.reduceAdd, Int.reduceSub, Int.reduceMul, Int.reduceNeg, Int.reduceLT, Int.reduceLE, Int.reduceEq, Int.reduceNe, Evid.iv, Evid.c, Place.c, Move.c, Cert.c, Recall.c, Purity.c, Sample.c, Recipe.c, ints, ic]
    · have hd : decide ((i : Int) < rs.length) = false := decide_eq_false hp
      rw [List.drop_of_length_le (by omega), addR] at ha
      rw [ha]
      simp only [hd, go_sem, Int.reduceNegSucc, Nat.reduceAdd, Nat.reduceSub, Nat.reduceMul, Nat.reduceEqDiff, Nat.reduceLeDiff, Nat.reduceLT, Nat.reduceBEq, Nat.reduceBNe, reduceIte, reduceCtorEq, Int.reduceToNat, Int.reduceAdd, Int.reduceSub, Int.reduceMul, Int.reduceNeg, Int.reduceLT, Int.reduceLE, Int.reduceEq, Int.reduceNe, Evid.iv, Evid.c, Place.c, Move.c, Cert.c, Recall.c, Purity.c, Sample.c, Recipe.c, ints, ic]
      refine Two_of (fun hk => ?_) (fun hk => ?_)
      · simp only [hk, resE, zeroE, List.map_nil, go_sem, Int.reduceNegSucc, Nat.reduceAdd, Nat.reduceSub, Nat.reduceMul, Nat.reduceEqDiff, Nat.reduceLeDiff, Nat.reduceLT, Nat.reduceBEq, Nat.reduceBNe, reduceIte, reduceCtorEq, Int.reduceToNat, Int.reduceAdd, Int.reduceSub, Int.reduceMul, Int.reduceNeg, Int.reduceLT, Int.reduceLE, Int.reduceEq, Int.reduceNe, Evid.iv, Evid.c, Place.c, Move.c, Cert.c, Recall.c, Purity.c, Sample.c, Recipe.c, ints, ic]
      · have hk' : ¬ (200 < (acc'.length : Int)) := of_decide_eq_false hk
        simp only [hk, go_sem, Int.reduceNegSucc, Nat.reduceAdd, Nat.reduceSub, Nat.reduceMul, Nat.reduceEqDiff, Nat.reduceLeDiff, Nat.reduceLT, Nat.reduceBEq, Nat.reduceBNe, reduceIte, reduceCtorEq, Int.reduceToNat, Int.reduceAdd, Int.reduceSub, Int.reduceMul, Int.reduceNeg, Int.reduceLT, Int.reduceLE, Int.reduceEq, Int.reduceNe, Evid.iv, Evid.c, Place.c, Move.c, Cert.c, Recall.c, Purity.c, Sample.c, Recipe.c, ints, ic]
        refine DrawS_of (by decide +kernel) ?_
        simp only [go_sem, Int.reduceNegSucc, Nat.reduceAdd, Nat.reduceSub, Nat.reduceMul, Nat.reduceEqDiff, Nat.reduceLeDiff, Nat.reduceLT, Nat.reduceBEq, Nat.reduceBNe, reduceIte, reduceCtorEq, Int.reduceToNat, Int.reduceAdd, Int.reduceSub, Int.reduceMul, Int.reduceNeg, Int.reduceLT, Int.reduceLE, Int.reduceEq, Int.reduceNe, Evid.iv, Evid.c, Place.c, Move.c, Cert.c, Recall.c, Purity.c, Sample.c, Recipe.c, ints, ic]
        refine CallD_eq h32 (by decide) ?_
        simp only [go_sem, Int.reduceNegSucc, Nat.reduceAdd, Nat.reduceSub, Nat.reduceMul, Nat.reduceEqDiff, Nat.reduceLeDiff, Nat.reduceLT, Nat.reduceBEq, Nat.reduceBNe, reduceIte, reduceCtorEq, Int.reduceToNat, Int.reduceAdd, Int.reduceSub, Int.reduceMul, Int.reduceNeg, Int.reduceLT, Int.reduceLE, Int.reduceEq, Int.reduceNe, Evid.iv, Evid.c, Place.c, Move.c, Cert.c, Recall.c, Purity.c, Sample.c, Recipe.c, ints, ic]
        refine CallD_eq h33 (by decide) ?_
        simp only [go_sem, Int.reduceNegSucc, Nat.reduceAdd, Nat.reduceSub, Nat.reduceMul, Nat.reduceEqDiff, Nat.reduceLeDiff, Nat.reduceLT, Nat.reduceBEq, Nat.reduceBNe, reduceIte, reduceCtorEq, Int.reduceToNat, Int.reduceAdd, Int.reduceSub, Int.reduceMul, Int.reduceNeg, Int.reduceLT, Int.reduceLE, Int.reduceEq, Int.reduceNe, Evid.iv, Evid.c, Place.c, Move.c, Cert.c, Recall.c, Purity.c, Sample.c, Recipe.c, ints, ic]
        refine CallD_eq h34 (by decide) ?_
        simp only [go_sem, Int.reduceNegSucc, Nat.reduceAdd, Nat.reduceSub, Nat.reduceMul, Nat.reduceEqDiff, Nat.reduceLeDiff, Nat.reduceLT, Nat.reduceBEq, Nat.reduceBNe, reduceIte, reduceCtorEq, Int.reduceToNat, Int.reduceAdd, Int.reduceSub, Int.reduceMul, Int.reduceNeg, Int.reduceLT, Int.reduceLE, Int.reduceEq, Int.reduceNe, Evid.iv, Evid.c, Place.c, Move.c, Cert.c, Recall.c, Purity.c, Sample.c, Recipe.c, ints, ic]
        refine CallD_eq h35 (by decide) ?_
        simp only [resE, hk', hk, go_sem, Int.reduceNegSucc, Nat.reduceAdd, Nat.reduceSub, Nat.reduceMul, Nat.reduceEqDiff, Nat.reduceLeDiff, Nat.reduceLT, Nat.reduceBEq, Nat.reduceBNe, reduceIte, reduceCtorEq, Int.reduceToNat, Int.reduceAdd, Int.reduceSub, Int.reduceMul, Int.reduceNeg, Int.reduceLT, Int.reduceLE, Int.reduceEq, Int.reduceNe, Evid.iv, Evid.c, Place.c, Move.c, Cert.c, Recall.c, Purity.c, Sample.c, Recipe.c, ints, ic]
  · have hx : expandF e ss rs = (zeroE, checkF e) := by simp [expandF, hk]
    rw [hx]
    refine ctr_go good _ _ [.cell 6 28, .tmp 7] Try.func12 rfl rfl (by decide +kernel) rfl ?_
    simp only [go_sem, Int.reduceNegSucc, Nat.reduceAdd, Nat.reduceSub, Nat.reduceMul, Nat.reduceEqDiff, Nat.reduceLeDiff, Nat.reduceLT, Nat.reduceBEq, Nat.reduceBNe, reduceIte, reduceCtorEq, Int.reduceToNat, Int.reduceAdd, Int.reduceSub, Int.reduceMul, Int.reduceNeg, Int.reduceLT, Int.reduceLE, Int.reduceEq, Int.reduceNe, Evid.iv, Evid.c, Place.c, Move.c, Cert.c, Recall.c, Purity.c, Sample.c, Recipe.c, ints, ic]
    refine CallP_eq h21 (by decide) ?_
    simp only [hk, resE, zeroE, List.map_nil, go_sem, Int.reduceNegSucc, Nat.reduceAdd, Nat.reduceSub, Nat.reduceMul, Nat.reduceEqDiff, Nat.reduceLeDiff, Nat.reduceLT, Nat.reduceBEq, Nat.reduceBNe, reduceIte, reduceCtorEq, Int.reduceToNat, Int.reduceAdd, Int.reduceSub, Int.reduceMul, Int.reduceNeg, Int.reduceLT, Int.reduceLE, Int.reduceEq, Int.reduceNe, Evid.iv, Evid.c, Place.c, Move.c, Cert.c, Recall.c, Purity.c, Sample.c, Recipe.c, ints, ic]
end Go.Proofs.Ytpnlfkaijdjhlaa
