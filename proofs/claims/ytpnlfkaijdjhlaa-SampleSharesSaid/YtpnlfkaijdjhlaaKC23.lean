/- A part of the proof: what functions of the program do, and the layer under it. No further condition. -/
import Derived.Test.YtpnlfkaijdjhlaaKC22
import Derived.Test.YtpnlfkaijdjhlaaKC8
import Derived.Test.YtpnlfkaijdjhlaaKC18
namespace Go.Proofs.Ytpnlfkaijdjhlaa
set_option linter.all false
open Go.Abs

theorem full_fit (e : Evid) : full14 e = !(pairs e).all fitP := by
  simp only [full14, pairs, fitP, List.all_cons, List.all_nil, Bool.and_true, Bool.not_and, Bool.not_not, Bool.or_assoc]
theorem step_ref (e : Evid) (i : Nat) (last : Int) (m p : Move) (r : List Move) (h : (i = 0 ∧ last = 0) ∨ (0 < i ∧ p.day = last ∧ 0 ≤ last)) :
    movesErr e last (m :: r) = if decide (refErr e (decide (0 < (i : Int))) p.day m = 0) = true then movesErr e m.day r else refErr e (decide (0 < (i : Int))) p.day m := by
  have hb : (btw m.day 0 100000 = false ∨ (decide (0 < (i : Int)) && decide (m.day < p.day)) = true) ↔ (m.day < last ∨ 100000 < m.day) := by
    rw [btw_not]
    rcases h with ⟨rfl, rfl⟩ | ⟨h1, h2, h3⟩
    · simp; omega
    · have : decide (0 < (i : Int)) = true := decide_eq_true (by omega)
      rw [this, Bool.true_and, decide_eq_true_iff]; omega
  by_cases h1 : m.day < last ∨ 100000 < m.day
  · have h2 := hb.2 h1
    have e1 : movesErr e last (m :: r) = 17 := by rcases h1 with h1 | h1 <;> simp [movesErr, h1]
    have e2 : refErr e (decide (0 < (i : Int))) p.day m = 17 := by
      rw [refErr]
      rcases h2 with h2 | h2
      · rw [if_pos h2]
      · split
        · rfl
        · rfl
    rw [e1, e2]; rfl
  · have h2 := mt hb.1 h1
    rw [movesErr, refErr]
    rw [not_or] at h1 h2
    simp only [h1.1, h1.2, h2.1, h2.2, decide_false, Bool.false_eq_true, if_false]
    rcases moveF e m <;> simp
theorem ref_day {e : Evid} {b : Bool} {d : Int} {m : Move} (h : refErr e b d m = 0) : 0 ≤ m.day := by
  rcases hb : btw m.day 0 100000 with _ | _
  · simp [refErr, hb] at h
  · exact (btw_iff.1 hb).1
set_option maxRecDepth 100000 in
set_option maxHeartbeats 1000000 in
theorem c36 (e : Evid) : Ctr G.P 36 [e.iv] (· = .int (checkF e)) := by
  have h53 := c53 e
  rcases hf : (pairs e).all fitP with _ | _
  · have hc : checkF e = 6 := by simp [checkF, hf]
    rw [full_fit, hf] at h53
    rw [hc]
    refine ctr_go good _ _ [.tmp 2] Try.func36 rfl rfl (by decide +kernel) rfl ?_
    simp only [go_sem, Int.reduceNegSucc, Nat.reduceAdd, Nat.reduceSub, Nat.reduceMul, Nat.reduceEqDiff, Nat.reduceLeDiff, Nat.reduceLT, Nat.reduceBEq, Nat.reduceBNe, reduceIte, reduceCtorEq, Int.reduceToNat, Int.reduceAdd, Int.reduceSub, Int.reduceMul, Int.reduceNeg, Int.reduceLT, Int.reduceLE, Int.reduceEq, Int.reduceNe, Evid.iv, Evid.c, Place.c, Move.c, Cert.c, Recall.c, Purity.c, Sample.c, Recipe.c, ints, ic]
    refine CallP_eq h53 (by decide) ?_
    simp only [go_sem, Int.reduceNegSucc, Nat.reduceAdd, Nat.reduceSub, Nat.reduceMul, Nat.reduceEqDiff, Nat.reduceLeDiff, Nat.reduceLT, Nat.reduceBEq, Nat.reduceBNe, reduceIte, reduceCtorEq, Int.reduceToNat, Int.reduceAdd, Int.reduceSub, Int.reduceMul, Int.reduceNeg, Int.reduceLT, Int.reduceLE, Int.reduceEq, Int.reduceNe, Evid.iv, Evid.c, Place.c, Move.c, Cert.c, Recall.c, Purity.c, Sample.c, Recipe.c, ints, ic]
  · obtain ⟨l1, l2, l3, l4, l5, l6, l7, l8⟩ := fit_len hf
    rw [full_fit, hf] at h53
    have hc : checkF e = if decide (e.mats < 1) = true then 1 else if decide (e.houses < 0) = true then 1 else if decide (e.scales < 0) = true then 1 else if e.places.all (placeF e) = false then 1 else
      if movesErr e 0 e.moves ≠ 0 then movesErr e 0 e.moves else if saidF e = true then 0 else 1 := by simp [checkF, hf]
    rcases ho : (!decide (e.mats < 1) && (!decide (e.houses < 0) && !decide (e.scales < 0))) with _ | _
    · rw [hc]
      clear hf hc
      refine ctr_go good _ _ [.tmp 2] Try.func36 rfl rfl (by decide +kernel) rfl ?_
      simp only [go_sem, Int.reduceNegSucc, Nat.reduceAdd, Nat.reduceSub, Nat.reduceMul, Nat.reduceEqDiff, Nat.reduceLeDiff, Nat.reduceLT, Nat.reduceBEq, Nat.reduceBNe, reduceIte, reduceCtorEq, Int.reduceToNat, Int.reduceAdd, Int.reduceSub, Int.reduceMul, Int.reduceNeg, Int.reduceLT, Int.reduceLE, Int.reduceEq, Int.reduceNe, Evid.iv, Evid.c, Place.c, Move.c, Cert.c, Recall.c, Purity.c, Sample.c, Recipe.c, ints, ic]
      refine CallP_eq h53 (by decide) ?_
      simp only [go_sem, Int.reduceNegSucc, Nat.reduceAdd, Nat.reduceSub, Nat.reduceMul, Nat.reduceEqDiff, Nat.reduceLeDiff, Nat.reduceLT, Nat.reduceBEq, Nat.reduceBNe, reduceIte, reduceCtorEq, Int.reduceToNat, Int.reduceAdd, Int.reduceSub, Int.reduceMul, Int.reduceNeg, Int.reduceLT, Int.reduceLE, Int.reduceEq, Int.reduceNe, Evid.iv, Evid.c, Place.c, Move.c, Cert.c, Recall.c, Purity.c, Sample.c, Recipe.c, ints, ic]
      repeat' (first | (refine Two_of (fun hd => ?_) (fun hd => ?_) <;> simp only [*, go_sem, Int.reduceNegSucc, Nat.reduceAdd, Nat.reduceSub, Nat.reduceMul, Nat.reduceEqDiff, Nat.reduceLeDiff, Nat.reduceLT, Nat.reduceBEq, Nat.reduceBNe, reduceIte, reduceCtorEq, Int.reduceToNat, Int.reduceAdd, Int.reduceSub, Int.reduceMul, Int.reduceNeg, Int.reduceLT, Int.reduceLE, Int.reduceEq, Int.reduceNe, Evid.iv, Evid.c, Place.c, Move.c, Cert.c, Recall.c, Purity.c, Sample.c, Recipe.c, ints, ic]))
      all_goals simp_all
    · simp only [Bool.and_eq_true, Bool.not_eq_true', decide_eq_false_iff_not] at ho
      obtain ⟨o1, o2, o3⟩ := ho
      have h54 := fun p => c54 e p (by omega) (by omega)
      have h55 := fun i m p hx hp hi => c55 e i m p hx hp (by omega) (by omega) hi
      have h56 := c56 e (by omega) (by omega) (by omega) (by omega) (by omega) (by omega)
      have d1 : decide (e.mats < 1) = false := decide_eq_false o1
      have d2 : decide (e.houses < 0) = false := decide_eq_false o2
      have d3 : decide (e.scales < 0) = false := decide_eq_false o3
      simp only [d1, d2, d3, Bool.false_eq_true, if_false] at hc
      rw [hc]
      clear hf hc
      refine ctr_go good _ _ [.tmp 2] Try.func36 rfl rfl (by decide +kernel) rfl ?_
      simp only [go_sem, Int.reduceNegSucc, Nat.reduceAdd, Nat.reduceSub, Nat.reduceMul, Nat.reduceEqDiff, Nat.reduceLeDiff, Nat.reduceLT, Nat.reduceBEq, Nat.reduceBNe, reduceIte, reduceCtorEq, Int.reduceToNat, Int.reduceAdd, Int.reduceSub, Int.reduceMul, Int.reduceNeg, Int.reduceLT, Int.reduceLE, Int.reduceEq, Int.reduceNe, Evid.iv, Evid.c, Place.c, Move.c, Cert.c, Recall.c, Purity.c, Sample.c, Recipe.c, ints, ic]
      refine CallP_eq h53 (by decide) ?_
      simp only [d1, d2, d3, go_sem, Int.reduceNegSucc, Nat.reduceAdd, Nat.reduceSub, Nat.reduceMul, Nat.reduceEqDiff, Nat.reduceLeDiff, Nat.reduceLT, Nat.reduceBEq, Nat.reduceBNe, reduceIte, reduceCtorEq, Int.reduceToNat, Int.reduceAdd, Int.reduceSub, Int.reduceMul, Int.reduceNeg, Int.reduceLT, Int.reduceLE, Int.reduceEq, Int.reduceNe, Evid.iv, Evid.c, Place.c, Move.c, Cert.c, Recall.c, Purity.c, Sample.c, Recipe.c, ints, ic]
      clear h53 d1 d2 d3 o1 o2 o3
      refine LoopP_of [1, 3] [1] (fun i : Nat => ⟨[(1, .loc 1 8 0 0), (3, .im (.int i))], [(1, 8, [e.c])], []⟩)
        (fun i => i ≤ e.places.length ∧ (e.places.take i).all (placeF e) = true) (fun i => e.places.length - i) 0 ?_ ⟨Nat.zero_le _, rfl⟩ ?_
      · simp only [Int.natCast_zero, go_sem, Int.reduceNegSucc, Nat.reduceAdd, Nat.reduceSub, Nat.reduceMul, Nat.reduceEqDiff, Nat.reduceLeDiff, Nat.reduceLT, Nat.reduceBEq, Nat.reduceBNe, reduceIte, reduceCtorEq, Int.reduceToNat, Int.reduceAdd, Int.reduceSub, Int.reduceMul, Int.reduceNeg, Int.reduceLT, Int.reduceLE, Int.reduceEq, Int.reduceNe, Evid.iv, Evid.c, Place.c, Move.c, Cert.c, Recall.c, Purity.c, Sample.c, Recipe.c, ints, ic]
      · intro i ⟨hi, ha⟩
        by_cases hp : (i : Int) < e.places.length
        · have hd : decide ((i : Int) < e.places.length) = true := decide_eq_true hp
          obtain ⟨x, hx⟩ := at_nat hp
          have h1 := i64_ok (n := (i : Int) + 1) (by omega)
          have hat := all_take_succ (f := placeF e) hx
          have hn : placeF e x = false → e.places.all (placeF e) = false := fun h => all_not hx h
          simp only [hd, List.getElem?_map, hx, go_sem, Int.reduceNegSucc, Nat.reduceAdd, Nat.reduceSub, Nat.reduceMul, Nat.reduceEqDiff, Nat.reduceLeDiff, Nat.reduceLT, Nat.reduceBEq, Nat.reduceBNe, reduceIte, reduceCtorEq, Int.reduceToNat, Int.reduceAdd, Int.reduceSub, Int.reduceMul, Int.reduceNeg, Int.reduceLT, Int.reduceLE, Int.reduceEq, Int.reduceNe, Evid.iv, Evid.c, Place.c, Move.c, Cert.c, Recall.c, Purity.c, Sample.c, Recipe.c, ints, ic]
          refine DrawP_of 8 (by decide +kernel) ?_
          simp only [hd, List.getElem?_map, hx, go_sem, Int.reduceNegSucc, Nat.reduceAdd, Nat.reduceSub, Nat.reduceMul, Nat.reduceEqDiff, Nat.reduceLeDiff, Nat.reduceLT, Nat.reduceBEq, Nat.reduceBNe, reduceIte, reduceCtorEq, Int.reduceToNat, Int.reduceAdd, Int.reduceSub, Int.reduceMul, Int.reduceNeg, Int.reduceLT, Int.reduceLE, Int.reduceEq, Int.reduceNe, Evid.iv, Evid.c, Place.c, Move.c, Cert.c, Recall.c, Purity.c, Sample.c, Recipe.c, ints, ic]
          refine CallD_eq (h54 x) (by decide) ?_
          simp only [go_sem, Int.reduceNegSucc, Nat.reduceAdd, Nat.reduceSub, Nat.reduceMul, Nat.reduceEqDiff, Nat.reduceLeDiff, Nat.reduceLT, Nat.reduceBEq, Nat.reduceBNe, reduceIte, reduceCtorEq, Int.reduceToNat, Int.reduceAdd, Int.reduceSub, Int.reduceMul, Int.reduceNeg, Int.reduceLT, Int.reduceLE, Int.reduceEq, Int.reduceNe, Evid.iv, Evid.c, Place.c, Move.c, Cert.c, Recall.c, Purity.c, Sample.c, Recipe.c, ints, ic]
          refine Two_of (fun hb => ?_) (fun hb => ?_)
          · simp only [go_sem, Int.reduceNegSucc, Nat.reduceAdd, Nat.reduceSub, Nat.reduceMul, Nat.reduceEqDiff, Nat.reduceLeDiff, Nat.reduceLT, Nat.reduceBEq, Nat.reduceBNe, reduceIte, reduceCtorEq, Int.reduceToNat, Int.reduceAdd, Int.reduceSub, Int.reduceMul, Int.reduceNeg, Int.reduceLT, Int.reduceLE, Int.reduceEq, Int.reduceNe, Evid.iv, Evid.c, Place.c, Move.c, Cert.c, Recall.c, Purity.c, Sample.c, Recipe.c, ints, ic]
            refine RoundP_of (i + 1) ?_ (by omega) ⟨by omega, by rw [hat, ha, hb]; rfl⟩
            simp only [h1, Int.natCast_add, go_sem, Int.reduceNegSucc, Nat.reduceAdd, Nat.reduceSub, Nat.reduceMul, Nat.reduceEqDiff, Nat.reduceLeDiff, Nat.reduceLT, Nat.reduceBEq, Nat.reduceBNe, reduceIte, reduceCtorEq, Int.reduceToNat, Int.reduceAdd, Int.reduceSub, Int.reduceMul, Int.reduceNeg, Int.reduceLT, Int.reduceLE, Int.reduceEq, Int.reduceNe, Evid.iv, Evid.c, Place.c, Move.c, Cert.c, Recall.c, Purity.c, Sample.c, Recipe.c, ints, ic]
          · simp only [hn hb, go_sem, Int.reduceNegSucc, Nat.reduceAdd, Nat.reduceSub, Nat.reduceMul, Nat.reduceEqDiff, Nat.reduceLeDiff, Nat.reduceLT, Nat.reduceBEq, Nat.reduceBNe, reduceIte, reduceCtorEq, Int.reduceToNat, Int.reduceAdd, Int.reduceSub, Int.reduceMul, Int.reduceNeg, Int.reduceLT, Int.reduceLE, Int.reduceEq, Int.reduceNe, Evid.iv, Evid.c, Place.c, Move.c, Cert.c, Recall.c, Purity.c, Sample.c, Recipe.c, ints, ic]
        · have hd : decide ((i : Int) < e.places.length) = false := decide_eq_false hp
          rw [List.take_of_length_le (by omega)] at ha
          rw [ha]
          simp only [hd, go_sem, Int.reduceNegSucc, Nat.reduceAdd, Nat.reduceSub, Nat.reduceMul, Nat.reduceEqDiff, Nat.reduceLeDiff, Nat.reduceLT, Nat.reduceBEq, Nat.reduceBNe, reduceIte, reduceCtorEq, Int.reduceToNat, Int.reduceAdd, Int.reduceSub, Int.reduceMul, Int.reduceNeg, Int.reduceLT, Int.reduceLE, Int.reduceEq, Int.reduceNe, Evid.iv, Evid.c, Place.c, Move.c, Cert.c, Recall.c, Purity.c, Sample.c, Recipe.c, ints, ic]
          clear hd hp hi
          refine LoopP_of [1, 4] [1] (fun g : Nat × Int => ⟨[(1, .loc 1 8 0 0), (4, .im (.int g.1))], [(1, 8, [e.c])], []⟩)
            (fun g => g.1 ≤ e.moves.length ∧ movesErr e 0 e.moves = movesErr e g.2 (e.moves.drop g.1) ∧ ((g.1 = 0 ∧ g.2 = 0) ∨ (0 < g.1 ∧ ∃ p, e.moves[g.1 - 1]? = some p ∧ p.day = g.2 ∧ 0 ≤ g.2))) (fun g => e.moves.length - g.1) (0, 0) ?_ ⟨Nat.zero_le _, rfl, .inl ⟨rfl, rfl⟩⟩ ?_
          · simp only [Int.natCast_zero, go_sem, Int.reduceNegSucc, Nat.reduceAdd, Nat.reduceSub, Nat.reduceMul, Nat.reduceEqDiff, Nat.reduceLeDiff, Nat.reduceLT, Nat.reduceBEq, Nat.reduceBNe, reduceIte, reduceCtorEq, Int.reduceToNat, Int.reduceAdd, Int.reduceSub, Int.reduceMul, Int.reduceNeg, Int.reduceLT, Int.reduceLE, Int.reduceEq, Int.reduceNe, Evid.iv, Evid.c, Place.c, Move.c, Cert.c, Recall.c, Purity.c, Sample.c, Recipe.c, ints, ic]
          · intro ⟨i, last⟩ ⟨hi, hb, hl⟩
            dsimp only at hi hb hl
            by_cases hp : (i : Int) < e.moves.length
            · have hd : decide ((i : Int) < e.moves.length) = true := decide_eq_true hp
              obtain ⟨x, hx⟩ := at_nat hp
              have h1 := i64_ok (n := (i : Int) + 1) (by omega)
              obtain ⟨p, hpv, hl'⟩ : ∃ p, e.moves[i - 1]? = some p ∧ ((i = 0 ∧ last = 0) ∨ (0 < i ∧ p.day = last ∧ 0 ≤ last)) := by
                rcases hl with ⟨rfl, h⟩ | ⟨h, p, h2, h3⟩
                · exact ⟨x, hx, .inl ⟨rfl, h⟩⟩
                · exact ⟨p, h2, .inr ⟨h, h3⟩⟩
              rw [drop_cons hx, step_ref e i last x p _ hl'] at hb
              have h55' := h55 i x p hx hpv (by omega)
              have hday : refErr e (decide (0 < (i : Int))) p.day x = 0 → 0 ≤ x.day := ref_day
              generalize refErr e (decide (0 < (i : Int))) p.day x = er at *
              simp only [hd, go_sem, Int.reduceNegSucc, Nat.reduceAdd, Nat.reduceSub, Nat.reduceMul, Nat.reduceEqDiff, Nat.reduceLeDiff, Nat.reduceLT, Nat.reduceBEq, Nat.reduceBNe, reduceIte, reduceCtorEq, Int.reduceToNat, Int.reduceAdd, Int.reduceSub, Int.reduceMul, Int.reduceNeg, Int.reduceLT, Int.reduceLE, Int.reduceEq, Int.reduceNe, Evid.iv, Evid.c, Place.c, Move.c, Cert.c, Recall.c, Purity.c, Sample.c, Recipe.c, ints, ic]
              refine CallP_eq h55' (by decide) ?_
              simp only [go_sem, Int.reduceNegSucc, Nat.reduceAdd, Nat.reduceSub, Nat.reduceMul, Nat.reduceEqDiff, Nat.reduceLeDiff, Nat.reduceLT, Nat.reduceBEq, Nat.reduceBNe, reduceIte, reduceCtorEq, Int.reduceToNat, Int.reduceAdd, Int.reduceSub, Int.reduceMul, Int.reduceNeg, Int.reduceLT, Int.reduceLE, Int.reduceEq, Int.reduceNe, Evid.iv, Evid.c, Place.c, Move.c, Cert.c, Recall.c, Purity.c, Sample.c, Recipe.c, ints, ic]
              refine Two_of (fun he => ?_) (fun he => ?_)
              · rw [he, if_pos rfl] at hb
                simp only [go_sem, Int.reduceNegSucc, Nat.reduceAdd, Nat.reduceSub, Nat.reduceMul, Nat.reduceEqDiff, Nat.reduceLeDiff, Nat.reduceLT, Nat.reduceBEq, Nat.reduceBNe, reduceIte, reduceCtorEq, Int.reduceToNat, Int.reduceAdd, Int.reduceSub, Int.reduceMul, Int.reduceNeg, Int.reduceLT, Int.reduceLE, Int.reduceEq, Int.reduceNe, Evid.iv, Evid.c, Place.c, Move.c, Cert.c, Recall.c, Purity.c, Sample.c, Recipe.c, ints, ic]
                refine RoundP_of (i + 1, x.day) ?_ ?_ ⟨?_, hb, .inr ⟨Nat.succ_pos _, x, hx, rfl, hday (of_decide_eq_true he)⟩⟩
                · simp only [h1, Int.natCast_add, go_sem, Int.reduceNegSucc, Nat.reduceAdd, Nat.reduceSub, Nat.reduceMul, Nat.reduceEqDiff, Nat.reduceLeDiff, Nat.reduceLT, Nat.reduceBEq, Nat.reduceBNe, reduceIte, reduceCtorEq, Int.reduceToNat, Int.reduceAdd, Int.reduceSub, Int.reduceMul, Int.reduceNeg, Int.reduceLT, Int.reduceLE, Int.reduceEq, Int.reduceNe, Evid.iv, Evid.c, Place.c, Move.c, Cert.c, Recall.c, Purity.c, Sample.c, Recipe.c, ints, ic]
                · show e.moves.length - (i + 1) < e.moves.length - i; omega
                · show i + 1 ≤ e.moves.length; omega
              · rw [he, if_neg Bool.false_ne_true] at hb
                have he' := of_decide_eq_false he
                simp only [hb, he', go_sem, Int.reduceNegSucc, Nat.reduceAdd, Nat.reduceSub, Nat.reduceMul, Nat.reduceEqDiff, Nat.reduceLeDiff, Nat.reduceLT, Nat.reduceBEq, Nat.reduceBNe, reduceIte, reduceCtorEq, Int.reduceToNat, Int.reduceAdd, Int.reduceSub, Int.reduceMul, Int.reduceNeg, Int.reduceLT, Int.reduceLE, Int.reduceEq, Int.reduceNe, Evid.iv, Evid.c, Place.c, Move.c, Cert.c, Recall.c, Purity.c, Sample.c, Recipe.c, ints, ic]
            · have hd : decide ((i : Int) < e.moves.length) = false := decide_eq_false hp
              have hi' : e.moves.drop i = [] := List.drop_of_length_le (by omega)
              rw [hi', movesErr] at hb
              simp only [hd, hb, go_sem, Int.reduceNegSucc, Nat.reduceAdd, Nat.reduceSub, Nat.reduceMul, Nat.reduceEqDiff, Nat.reduceLeDiff, Nat.reduceLT, Nat.reduceBEq, Nat.reduceBNe, reduceIte, reduceCtorEq, Int.reduceToNat, Int.reduceAdd, Int.reduceSub, Int.reduceMul, Int.reduceNeg, Int.reduceLT, Int.reduceLE, Int.reduceEq, Int.reduceNe, Evid.iv, Evid.c, Place.c, Move.c, Cert.c, Recall.c, Purity.c, Sample.c, Recipe.c, ints, ic]
              refine CallP_eq h56 (by decide) ?_
              simp only [go_sem, Int.reduceNegSucc, Nat.reduceAdd, Nat.reduceSub, Nat.reduceMul, Nat.reduceEqDiff, Nat.reduceLeDiff, Nat.reduceLT, Nat.reduceBEq, Nat.reduceBNe, reduceIte, reduceCtorEq, Int.reduceToNat, Int.reduceAdd, Int.reduceSub, Int.reduceMul, Int.reduceNeg, Int.reduceLT, Int.reduceLE, Int.reduceEq, Int.reduceNe, Evid.iv, Evid.c, Place.c, Move.c, Cert.c, Recall.c, Purity.c, Sample.c, Recipe.c, ints, ic]
              repeat' (first | (refine Two_of (fun hd => ?_) (fun hd => ?_) <;> simp only [*, go_sem, Int.reduceNegSucc, Nat.reduceAdd, Nat.reduceSub, Nat.reduceMul, Nat.reduceEqDiff, Nat.reduceLeDiff, Nat.reduceLT, Nat.reduceBEq, Nat.reduceBNe, reduceIte, reduceCtorEq, Int.reduceToNat, Int.reduceAdd, Int.reduceSub, Int.reduceMul, Int.reduceNeg, Int.reduceLT, Int.reduceLE, Int.reduceEq, Int.reduceNe, Evid.iv, Evid.c, Place.c, Move.c, Cert.c, Recall.c, Purity.c, Sample.c, Recipe.c, ints, ic]))
end Go.Proofs.Ytpnlfkaijdjhlaa
