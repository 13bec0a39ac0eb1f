/- A part of the proof: what functions of the program do, and the layer under it. No further condition. -/
import Derived.Test.YtpnlfkaijdjhlaaKC8
namespace Go.Proofs.Ytpnlfkaijdjhlaa
set_option linter.all false
open Go.Abs

theorem c51 (m : Move) (p : Int) : Ctr G.P 51 [.agg m.c, .ip [.int p] 0] (· = .bool (decide (m.to = p))) := by
  refine ctr_go good _ _ [.tmp 3] Try.func51 rfl rfl (by decide +kernel) rfl ?_
  unfold Move.c
  simp only [go_sem, Int.reduceNegSucc, Nat.reduceAdd, Nat.reduceSub, Nat.reduceMul, Nat.reduceEqDiff, Nat.reduceLeDiff, Nat.reduceLT, Nat.reduceBEq, Nat.reduceBNe, reduceIte, reduceCtorEq, Int.reduceToNat, Int.reduceAdd, Int.reduceSub, Int.reduceMul, Int.reduceNeg, Int.reduceLT, Int.reduceLE, Int.reduceEq, Int.reduceNe, Evid.iv, Evid.c, Place.c, Move.c, Cert.c, Recall.c, Purity.c, Sample.c, Recipe.c, ints, ic]
def movesG (is : Move → Bool) (upto : Int) : Nat → List Move → List Int
  | _, [] => []
  | i, m :: r => if (decide ((i : Int) < upto) && is m) = true then (i : Int) :: movesG is upto (i + 1) r else movesG is upto (i + 1) r
def movesF (e : Evid) (upto : Int) (is : Move → Bool) : List Int := if checkF e = 0 then movesG is upto 0 e.moves else []
theorem check_len {e : Evid} (h : checkF e = 0) : e.places.length ≤ 100 ∧ e.moves.length ≤ 200 ∧ e.certs.length ≤ 100 ∧ e.recalls.length ≤ 30 ∧ e.purs.length ≤ 200 ∧ e.mats ≤ 6 ∧ e.houses ≤ 100 ∧ e.scales ≤ 30 := by
  refine fit_len ?_
  by_cases hf : (pairs e).all fitP = true
  · exact hf
  · simp only [Bool.not_eq_true] at hf
    unfold checkF at h
    rw [if_pos hf] at h
    cases h
theorem c50 (e : Evid) (upto : Int) (is : Move → Bool) (g : Nat) (caps : List IV) (hg : 3 ≤ g ∧ g < G.fns) (hc : ∀ m : Move, Ctr G.P g (.agg m.c :: caps) (· = .bool (is m))) :
    Ctr G.P 50 [e.iv, .int upto, .clo g caps] (· = ints (movesF e upto is)) := by
  rcases Decidable.em (checkF e = 0) with h0 | h0
  · obtain ⟨l1, l2, l3, l4, l5, _, _, _⟩ := check_len h0
    have h21 := c21 e
    have hm : movesF e upto is = movesG is upto 0 e.moves := if_pos h0
    rw [h0] at h21
    refine ctr_go good _ _ [.tmp 6] Try.func50 rfl rfl (by decide +kernel) rfl ?_
    rw [hm]
    unfold Evid.iv Evid.c
    simp only [go_sem, Int.reduceNegSucc, Nat.reduceAdd, Nat.reduceSub, Nat.reduceMul, Nat.reduceEqDiff, Nat.reduceLeDiff, Nat.reduceLT, Nat.reduceBEq, Nat.reduceBNe, reduceIte, reduceCtorEq, Int.reduceToNat, Int.reduceAdd, Int.reduceSub, Int.reduceMul, Int.reduceNeg, Int.reduceLT, Int.reduceLE, Int.reduceEq, Int.reduceNe, Evid.iv, Evid.c, Place.c, Move.c, Cert.c, Recall.c, Purity.c, Sample.c, Recipe.c, ints, ic]
    refine CallP_eq h21 (by decide) ?_
    simp only [go_sem, Int.reduceNegSucc, Nat.reduceAdd, Nat.reduceSub, Nat.reduceMul, Nat.reduceEqDiff, Nat.reduceLeDiff, Nat.reduceLT, Nat.reduceBEq, Nat.reduceBNe, reduceIte, reduceCtorEq, Int.reduceToNat, Int.reduceAdd, Int.reduceSub, Int.reduceMul, Int.reduceNeg, Int.reduceLT, Int.reduceLE, Int.reduceEq, Int.reduceNe, Evid.iv, Evid.c, Place.c, Move.c, Cert.c, Recall.c, Purity.c, Sample.c, Recipe.c, ints, ic]
    refine LoopP_of [1, 2, 14, 15, 16, 7] [32] (fun s : Nat × List Int => ⟨[(1, .im (.int upto)), (2, .im (.clo g caps)), (14, .im (.sl (e.moves.map Move.c))), (15, .im (.int e.moves.length)), (16, .im (.int s.1)),
        (7, if s.2 = [] then .sx [] else .vec 32 3 1 (s.2.map ic))], [], if s.2 = [] then [] else [(32, 1, s.2.length)]⟩)
      (fun s => s.1 ≤ e.moves.length ∧ s.2 ++ movesG is upto s.1 (e.moves.drop s.1) = movesG is upto 0 e.moves ∧ s.2.length ≤ s.1) (fun s => e.moves.length - s.1) (0, []) ?_ ⟨Nat.zero_le _, rfl, Nat.zero_le _⟩ ?_
    · simp only [Int.natCast_zero, go_sem, Int.reduceNegSucc, Nat.reduceAdd, Nat.reduceSub, Nat.reduceMul, Nat.reduceEqDiff, Nat.reduceLeDiff, Nat.reduceLT, Nat.reduceBEq, Nat.reduceBNe, reduceIte, reduceCtorEq, Int.reduceToNat, Int.reduceAdd, Int.reduceSub, Int.reduceMul, Int.reduceNeg, Int.reduceLT, Int.reduceLE, Int.reduceEq, Int.reduceNe, Evid.iv, Evid.c, Place.c, Move.c, Cert.c, Recall.c, Purity.c, Sample.c, Recipe.c, ints, ic]
    · intro ⟨i, l⟩ ⟨hi, ha, hl⟩
      dsimp only at hi ha hl
      by_cases hp : (i : Int) < e.moves.length
      · have hd : decide ((i : Int) < e.moves.length) = true := decide_eq_true hp
        obtain ⟨x, hx⟩ := at_nat hp
        have h1 := i64_ok (n := (i : Int) + 1) (by omega)
        rw [drop_cons hx, movesG] at ha
        rcases l with _ | ⟨y, l⟩
        · simp only [hd, List.getElem?_map, hx, Move.c, eq_self, go_sem, Int.reduceNegSucc, Nat.reduceAdd, Nat.reduceSub, Nat.reduceMul, Nat.reduceEqDiff, Nat.reduceLeDiff, Nat.reduceLT, Nat.reduceBEq, Nat.reduceBNe, reduceIte, reduceCtorEq, Int.reduceToNat, Int.reduceAdd, Int.reduceSub, Int.reduceMul, Int.reduceNeg, Int.reduceLT, Int.reduceLE, Int.reduceEq, Int.reduceNe, Evid.iv, Evid.c, Place.c, Move.c, Cert.c, Recall.c, Purity.c, Sample.c, Recipe.c, ints, ic]
          repeat' (first | (refine Two_of (fun hd => ?_) (fun hd => ?_) <;> simp only [*, hg, go_sem, Int.reduceNegSucc, Nat.reduceAdd, Nat.reduceSub, Nat.reduceMul, Nat.reduceEqDiff, Nat.reduceLeDiff, Nat.reduceLT, Nat.reduceBEq, Nat.reduceBNe, reduceIte, reduceCtorEq, Int.reduceToNat, Int.reduceAdd, Int.reduceSub, Int.reduceMul, Int.reduceNeg, Int.reduceLT, Int.reduceLE, Int.reduceEq, Int.reduceNe, Evid.iv, Evid.c, Place.c, Move.c, Cert.c, Recall.c, Purity.c, Sample.c, Recipe.c, ints, ic]) | (refine CallP_eq (hc x) (by first | decide | assumption) ?_; simp only [*, hg, go_sem, Int.reduceNegSucc, Nat.reduceAdd, Nat.reduceSub, Nat.reduceMul, Nat.reduceEqDiff, Nat.reduceLeDiff, Nat.reduceLT, Nat.reduceBEq, Nat.reduceBNe, reduceIte, reduceCtorEq, Int.reduceToNat, Int.reduceAdd, Int.reduceSub, Int.reduceMul, Int.reduceNeg, Int.reduceLT, Int.reduceLE, Int.reduceEq, Int.reduceNe, Evid.iv, Evid.c, Place.c, Move.c, Cert.c, Recall.c, Purity.c, Sample.c, Recipe.c, ints, ic]) | (refine CallD_eq (hc x) (by decide) ?_; simp only [*, hg, go_sem, Int.reduceNegSucc, Nat.reduceAdd, Nat.reduceSub, Nat.reduceMul, Nat.reduceEqDiff, Nat.reduceLeDiff, Nat.reduceLT, Nat.reduceBEq, Nat.reduceBNe, reduceIte, reduceCtorEq, Int.reduceToNat, Int.reduceAdd, Int.reduceSub, Int.reduceMul, Int.reduceNeg, Int.reduceLT, Int.reduceLE, Int.reduceEq, Int.reduceNe, Evid.iv, Evid.c, Place.c, Move.c, Cert.c, Recall.c, Purity.c, Sample.c, Recipe.c, ints, ic]))
          all_goals first
            | (refine RoundP_of (i + 1, []) ?_ ?_ ⟨?_, ?_, ?_⟩
               · simp only [h1, Int.natCast_add, eq_self, go_sem, Int.reduceNegSucc, Nat.reduceAdd, Nat.reduceSub, Nat.reduceMul, Nat.reduceEqDiff, Nat.reduceLeDiff, Nat.reduceLT, Nat.reduceBEq, Nat.reduceBNe, reduceIte, reduceCtorEq, Int.reduceToNat, Int.reduceAdd, Int.reduceSub, Int.reduceMul, Int.reduceNeg, Int.reduceLT, Int.reduceLE, Int.reduceEq, Int.reduceNe, Evid.iv, Evid.c, Place.c, Move.c, Cert.c, Recall.c, Purity.c, Sample.c, Recipe.c, ints, ic]
               · show e.moves.length - (i + 1) < e.moves.length - i; omega
               · show i + 1 ≤ e.moves.length; omega
               · dsimp only; rw [← ha]; clear ha; simp only [*, Bool.false_and, Bool.and_false, Bool.and_self, Bool.true_and, if_true, if_false, Bool.false_eq_true, List.append_assoc, List.cons_append, List.nil_append]
               · dsimp only; simp only [List.length_cons, List.length_nil] at hl ⊢; omega
               done)
            | (have hlen : ∀ (c : List IV), c ∈ List.map ic ([]) → c.length = 1 := fun c hc => by
                 obtain ⟨z, _, rfl⟩ := List.mem_map.1 hc; rfl
               simp only [List.map_cons, List.map_nil] at hlen
               simp only [List.length_cons, List.length_nil] at hl
               refine ⟨hlen, by simp, ?_⟩
               try refine ⟨by omega, ?_⟩
               refine RoundP_of (i + 1, [] ++ [(i : Int)]) ?_ ?_ ⟨?_, ?_, ?_⟩
               · simp only [h1, Int.natCast_add, eq_self, List.map_append, List.length_append, ic, go_sem, Int.reduceNegSucc, Nat.reduceAdd, Nat.reduceSub, Nat.reduceMul, Nat.reduceEqDiff, Nat.reduceLeDiff, Nat.reduceLT, Nat.reduceBEq, Nat.reduceBNe, reduceIte, reduceCtorEq, Int.reduceToNat, Int.reduceAdd, Int.reduceSub, Int.reduceMul, Int.reduceNeg, Int.reduceLT, Int.reduceLE, Int.reduceEq, Int.reduceNe, Evid.iv, Evid.c, Place.c, Move.c, Cert.c, Recall.c, Purity.c, Sample.c, Recipe.c, ints, ic]
               · show e.moves.length - (i + 1) < e.moves.length - i; omega
               · show i + 1 ≤ e.moves.length; omega
               · dsimp only; rw [← ha]; clear ha; simp only [*, Bool.false_and, Bool.and_false, Bool.and_self, Bool.true_and, if_true, if_false, Bool.false_eq_true, List.append_assoc, List.cons_append, List.nil_append]
               · dsimp only; simp only [List.length_append, List.length_cons, List.length_nil]; omega
               done)
            | trace_state
        · simp only [hd, List.getElem?_map, hx, Move.c, eq_self, go_sem, Int.reduceNegSucc, Nat.reduceAdd, Nat.reduceSub, Nat.reduceMul, Nat.reduceEqDiff, Nat.reduceLeDiff, Nat.reduceLT, Nat.reduceBEq, Nat.reduceBNe, reduceIte, reduceCtorEq, Int.reduceToNat, Int.reduceAdd, Int.reduceSub, Int.reduceMul, Int.reduceNeg, Int.reduceLT, Int.reduceLE, Int.reduceEq, Int.reduceNe, Evid.iv, Evid.c, Place.c, Move.c, Cert.c, Recall.c, Purity.c, Sample.c, Recipe.c, ints, ic]
          repeat' (first | (refine Two_of (fun hd => ?_) (fun hd => ?_) <;> simp only [*, hg, go_sem, Int.reduceNegSucc, Nat.reduceAdd, Nat.reduceSub, Nat.reduceMul, Nat.reduceEqDiff, Nat.reduceLeDiff, Nat.reduceLT, Nat.reduceBEq, Nat.reduceBNe, reduceIte, reduceCtorEq, Int.reduceToNat, Int.reduceAdd, Int.reduceSub, Int.reduceMul, Int.reduceNeg, Int.reduceLT, Int.reduceLE, Int.reduceEq, Int.reduceNe, Evid.iv, Evid.c, Place.c, Move.c, Cert.c, Recall.c, Purity.c, Sample.c, Recipe.c, ints, ic]) | (refine CallP_eq (hc x) (by first | decide | assumption) ?_; simp only [*, hg, go_sem, Int.reduceNegSucc, Nat.reduceAdd, Nat.reduceSub, Nat.reduceMul, Nat.reduceEqDiff, Nat.reduceLeDiff, Nat.reduceLT, Nat.reduceBEq, Nat.reduceBNe, reduceIte, reduceCtorEq, Int.reduceToNat, Int.reduceAdd, Int.reduceSub, Int.reduceMul, Int.reduceNeg, Int.reduceLT, Int.reduceLE, Int.reduceEq, Int.reduceNe, Evid.iv, Evid.c, Place.c, Move.c, Cert.c, Recall.c, Purity.c, Sample.c, Recipe.c, ints, ic]) | (refine CallD_eq (hc x) (by decide) ?_; simp only [*, hg, go_sem, Int.reduceNegSucc, Nat.reduceAdd, Nat.reduceSub, Nat.reduceMul, Nat.reduceEqDiff, Nat.reduceLeDiff, Nat.reduceLT, Nat.reduceBEq, Nat.reduceBNe, reduceIte, reduceCtorEq, Int.reduceToNat, Int.reduceAdd, Int.reduceSub, Int.reduceMul, Int.reduceNeg, Int.reduceLT, Int.reduceLE, Int.reduceEq, Int.reduceNe, Evid.iv, Evid.c, Place.c, Move.c, Cert.c, Recall.c, Purity.c, Sample.c, Recipe.c, ints, ic]))
          all_goals first
            | (refine RoundP_of (i + 1, (y :: l)) ?_ ?_ ⟨?_, ?_, ?_⟩
               · simp only [h1, Int.natCast_add, eq_self, go_sem, Int.reduceNegSucc, Nat.reduceAdd, Nat.reduceSub, Nat.reduceMul, Nat.reduceEqDiff, Nat.reduceLeDiff, Nat.reduceLT, Nat.reduceBEq, Nat.reduceBNe, reduceIte, reduceCtorEq, Int.reduceToNat, Int.reduceAdd, Int.reduceSub, Int.reduceMul, Int.reduceNeg, Int.reduceLT, Int.reduceLE, Int.reduceEq, Int.reduceNe, Evid.iv, Evid.c, Place.c, Move.c, Cert.c, Recall.c, Purity.c, Sample.c, Recipe.c, ints, ic]
               · show e.moves.length - (i + 1) < e.moves.length - i; omega
               · show i + 1 ≤ e.moves.length; omega
               · dsimp only; rw [← ha]; clear ha; simp only [*, Bool.false_and, Bool.and_false, Bool.and_self, Bool.true_and, if_true, if_false, Bool.false_eq_true, List.append_assoc, List.cons_append, List.nil_append]
               · dsimp only; simp only [List.length_cons, List.length_nil] at hl ⊢; omega
               done)
            | (have hlen : ∀ (c : List IV), c ∈ List.map ic ((y :: l)) → c.length = 1 := fun c hc => by
                 obtain ⟨z, _, rfl⟩ := List.mem_map.1 hc; rfl
               simp only [List.map_cons, List.map_nil] at hlen
               simp only [List.length_cons, List.length_nil] at hl
               refine ⟨hlen, by simp, ?_⟩
               try refine ⟨by omega, ?_⟩
               refine RoundP_of (i + 1, (y :: l) ++ [(i : Int)]) ?_ ?_ ⟨?_, ?_, ?_⟩
               · simp only [h1, Int.natCast_add, eq_self, List.map_append, List.length_append, ic, go_sem, Int.reduceNegSucc, Nat.reduceAdd, Nat.reduceSub, Nat.reduceMul, Nat.reduceEqDiff, Nat.reduceLeDiff, Nat.reduceLT, Nat.reduceBEq, Nat.reduceBNe, reduceIte, reduceCtorEq, Int.reduceToNat, Int.reduceAdd, Int.reduceSub, Int.reduceMul, Int.reduceNeg, Int.reduceLT, Int.reduceLE, Int.reduceEq, Int.reduceNe, Evid.iv, Evid.c, Place.c, Move.c, Cert.c, Recall.c, Purity.c, Sample.c, Recipe.c, ints, ic]
               · show e.moves.length - (i + 1) < e.moves.length - i; omega
               · show i + 1 ≤ e.moves.length; omega
               · dsimp only; rw [← ha]; clear ha; simp only [*, Bool.false_and, Bool.and_false, Bool.and_self, Bool.true_and, if_true, if_false, Bool.false_eq_true, List.append_assoc, List.cons_append, List.nil_append]
               · dsimp only; simp only [List.length_append, List.length_cons, List.length_nil]; omega
               done)
            | trace_state
      · have hd : decide ((i : Int) < e.moves.length) = false := decide_eq_false hp
        rw [List.drop_of_length_le (by omega), movesG, List.append_nil] at ha
        rw [← ha]
        rcases l with _ | ⟨y, l⟩
        · simp only [hd, eq_self, ints, go_sem, Int.reduceNegSucc, Nat.reduceAdd, Nat.reduceSub, Nat.reduceMul, Nat.reduceEqDiff, Nat.reduceLeDiff, Nat.reduceLT, Nat.reduceBEq, Nat.reduceBNe, reduceIte, reduceCtorEq, Int.reduceToNat, Int.reduceAdd, Int.reduceSub, Int.reduceMul, Int.reduceNeg, Int.reduceLT, Int.reduceLE, Int.reduceEq, Int.reduceNe, Evid.iv, Evid.c, Place.c, Move.c, Cert.c, Recall.c, Purity.c, Sample.c, Recipe.c, ints, ic]
        · simp only [hd, eq_self, ints, go_sem, Int.reduceNegSucc, Nat.reduceAdd, Nat.reduceSub, Nat.reduceMul, Nat.reduceEqDiff, Nat.reduceLeDiff, Nat.reduceLT, Nat.reduceBEq, Nat.reduceBNe, reduceIte, reduceCtorEq, Int.reduceToNat, Int.reduceAdd, Int.reduceSub, Int.reduceMul, Int.reduceNeg, Int.reduceLT, Int.reduceLE, Int.reduceEq, Int.reduceNe, Evid.iv, Evid.c, Place.c, Move.c, Cert.c, Recall.c, Purity.c, Sample.c, Recipe.c, ints, ic]
  · have hm : movesF e upto is = [] := if_neg h0
    have h21 := c21 e
    refine ctr_go good _ _ [.tmp 6] Try.func50 rfl rfl (by decide +kernel) rfl ?_
    rw [hm]
    unfold Evid.iv Evid.c ints
    simp only [go_sem, Int.reduceNegSucc, Nat.reduceAdd, Nat.reduceSub, Nat.reduceMul, Nat.reduceEqDiff, Nat.reduceLeDiff, Nat.reduceLT, Nat.reduceBEq, Nat.reduceBNe, reduceIte, reduceCtorEq, Int.reduceToNat, Int.reduceAdd, Int.reduceSub, Int.reduceMul, Int.reduceNeg, Int.reduceLT, Int.reduceLE, Int.reduceEq, Int.reduceNe, Evid.iv, Evid.c, Place.c, Move.c, Cert.c, Recall.c, Purity.c, Sample.c, Recipe.c, ints, ic]
    refine CallP_eq h21 (by decide) ?_
    simp only [h0, go_sem, Int.reduceNegSucc, Nat.reduceAdd, Nat.reduceSub, Nat.reduceMul, Nat.reduceEqDiff, Nat.reduceLeDiff, Nat.reduceLT, Nat.reduceBEq, Nat.reduceBNe, reduceIte, reduceCtorEq, Int.reduceToNat, Int.reduceAdd, Int.reduceSub, Int.reduceMul, Int.reduceNeg, Int.reduceLT, Int.reduceLE, Int.reduceEq, Int.reduceNe, Evid.iv, Evid.c, Place.c, Move.c, Cert.c, Recall.c, Purity.c, Sample.c, Recipe.c, ints, ic]
end Go.Proofs.Ytpnlfkaijdjhlaa

namespace Go.Proofs.Ytpnlfkaijdjhlaa
set_option linter.all false
open Go.Abs
def intoF (e : Evid) (place upto : Int) : List Int := movesF e upto fun m => decide (m.to = place)
theorem c22 (e : Evid) (place upto : Int) : Ctr G.P 22 [e.iv, .int place, .int upto] (· = ints (intoF e place upto)) := by
  have h := c50 e upto (fun m => decide (m.to = place)) 51 [.ip [.int place] 0] (by decide) (fun m => c51 m place)
  refine ctr_go good _ _ [.tmp 6] Try.func22 rfl rfl (by decide +kernel) rfl ?_
  unfold intoF
  unfold Evid.iv Evid.c
  simp only [go_sem, Int.reduceNegSucc, Nat.reduceAdd, Nat.reduceSub, Nat.reduceMul, Nat.reduceEqDiff, Nat.reduceLeDiff, Nat.reduceLT, Nat.reduceBEq, Nat.reduceBNe, reduceIte, reduceCtorEq, Int.reduceToNat, Int.reduceAdd, Int.reduceSub, Int.reduceMul, Int.reduceNeg, Int.reduceLT, Int.reduceLE, Int.reduceEq, Int.reduceNe, Evid.iv, Evid.c, Place.c, Move.c, Cert.c, Recall.c, Purity.c, Sample.c, Recipe.c, ints, ic]
  refine CallP_eq h (by decide) ?_
  simp only [ints, go_sem, Int.reduceNegSucc, Nat.reduceAdd, Nat.reduceSub, Nat.reduceMul, Nat.reduceEqDiff, Nat.reduceLeDiff, Nat.reduceLT, Nat.reduceBEq, Nat.reduceBNe, reduceIte, reduceCtorEq, Int.reduceToNat, Int.reduceAdd, Int.reduceSub, Int.reduceMul, Int.reduceNeg, Int.reduceLT, Int.reduceLE, Int.reduceEq, Int.reduceNe, Evid.iv, Evid.c, Place.c, Move.c, Cert.c, Recall.c, Purity.c, Sample.c, Recipe.c, ints, ic]
end Go.Proofs.Ytpnlfkaijdjhlaa
