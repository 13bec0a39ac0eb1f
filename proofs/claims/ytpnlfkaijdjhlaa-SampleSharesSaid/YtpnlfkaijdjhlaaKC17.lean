/- A part of the proof: what functions of the program do, and the layer under it. No further condition. -/
import Derived.Test.YtpnlfkaijdjhlaaKC16
namespace Go.Proofs.Ytpnlfkaijdjhlaa
set_option linter.all false
open Go.Abs

def cookGo (x : Recipe) : Nat → List Move → List Purity
  | _, [] => []
  | i, m :: r => if (decide (m.fr = x.fr) && decide (m.to = x.to)) = true then ⟨i, x.mat, x.least, x.most⟩ :: cookGo x (i + 1) r else cookGo x (i + 1) r
def cookedF (e : Evid) (x : Recipe) : List Purity × Int :=
  if btw x.fr 0 ((e.places.length : Int) - 1) = false then ([], 4) else if btw x.to 0 ((e.places.length : Int) - 1) = false then ([], 4) else
  if btw x.mat 0 (e.mats - 1) = false then ([], 1) else if btw x.least 0 x.most = false then ([], 1) else if decide (1000 < x.most) = true then ([], 1) else (cookGo x 0 e.moves, 0)
set_option maxRecDepth 100000 in
set_option maxHeartbeats 4000000 in
theorem c31 (e : Evid) (x : Recipe) (h1 : e.places.length ≤ 100000) (h2 : e.moves.length ≤ 100000) (h3 : 1 ≤ e.mats ∧ e.mats ≤ 100000) : Ctr G.P 31 [e.iv, .agg x.c] (· = resP (cookedF e x)) := by
  have w1 := i64_ok (n := (e.places.length : Int) - 1) (by omega)
  have w2 := i64_ok (n := e.mats - 1) (by omega)
  refine ctr_go good _ _ [.tmp 4, .tmp 5] Try.func31 rfl rfl (by decide +kernel) rfl ?_
  unfold cookedF Evid.iv Evid.c Recipe.c
  simp only [w1, go_sem, Int.reduceNegSucc, Nat.reduceAdd, Nat.reduceSub, Nat.reduceMul, Nat.reduceEqDiff, Nat.reduceLeDiff, Nat.reduceLT, Nat.reduceBEq, Nat.reduceBNe, reduceIte, reduceCtorEq, Int.reduceToNat, Int.reduceAdd, Int.reduceSub, Int.reduceMul, Int.reduceNeg, Int.reduceLT, Int.reduceLE, Int.reduceEq, Int.reduceNe, Evid.iv, Evid.c, Place.c, Move.c, Cert.c, Recall.c, Purity.c, Sample.c, Recipe.c, ints, ic]
  repeat' (first | (refine Two_of (fun hd => ?_) (fun hd => ?_) <;> simp only [*, resP, purs, List.map_nil, go_sem, Int.reduceNegSucc, Nat.reduceAdd, Nat.reduceSub, Nat.reduceMul, Nat.reduceEqDiff, Nat.reduceLeDiff, Nat.reduceLT, Nat.reduceBEq, Nat.reduceBNe, reduceIte, reduceCtorEq, Int.reduceToNat, Int.reduceAdd, Int.reduceSub, Int.reduceMul, Int.reduceNeg, Int.reduceLT, Int.reduceLE, Int.reduceEq, Int.reduceNe, Evid.iv, Evid.c, Place.c, Move.c, Cert.c, Recall.c, Purity.c, Sample.c, Recipe.c, ints, ic]) | (refine CallP_eq (c25 _ _) (by first | decide | assumption) ?_; simp only [*, resP, purs, List.map_nil, go_sem, Int.reduceNegSucc, Nat.reduceAdd, Nat.reduceSub, Nat.reduceMul, Nat.reduceEqDiff, Nat.reduceLeDiff, Nat.reduceLT, Nat.reduceBEq, Nat.reduceBNe, reduceIte, reduceCtorEq, Int.reduceToNat, Int.reduceAdd, Int.reduceSub, Int.reduceMul, Int.reduceNeg, Int.reduceLT, Int.reduceLE, Int.reduceEq, Int.reduceNe, Evid.iv, Evid.c, Place.c, Move.c, Cert.c, Recall.c, Purity.c, Sample.c, Recipe.c, ints, ic]) | (refine CallD_eq (c25 _ _) (by decide) ?_; simp only [*, resP, purs, List.map_nil, go_sem, Int.reduceNegSucc, Nat.reduceAdd, Nat.reduceSub, Nat.reduceMul, Nat.reduceEqDiff, Nat.reduceLeDiff, Nat.reduceLT, Nat.reduceBEq, Nat.reduceBNe, reduceIte, reduceCtorEq, Int.reduceToNat, Int.reduceAdd, Int.reduceSub, Int.reduceMul, Int.reduceNeg, Int.reduceLT, Int.reduceLE, Int.reduceEq, Int.reduceNe, Evid.iv, Evid.c, Place.c, Move.c, Cert.c, Recall.c, Purity.c, Sample.c, Recipe.c, ints, ic]))
  rename_i k1 k2 k3 k4
  refine LoopP_of [3, 49, 50, 51, 7] [3, 78] (fun g : Nat × List Purity => ⟨[(3, .loc 3 5 0 0), (49, .im (.sl (e.moves.map Move.c))), (50, .im (.int e.moves.length)), (51, .im (.int g.1)),
      (7, if g.2 = [] then .sx [] else .vec 78 52 4 (g.2.map Purity.c))], [(3, 5, [x.c])], if g.2 = [] then [] else [(78, 4, g.2.length)]⟩)
    (fun g => g.1 ≤ e.moves.length ∧ g.2 ++ cookGo x g.1 (e.moves.drop g.1) = cookGo x 0 e.moves ∧ g.2.length ≤ g.1) (fun g => e.moves.length - g.1) (0, []) ?_ ⟨Nat.zero_le _, rfl, Nat.zero_le _⟩ ?_
  · simp only [Int.natCast_zero, Recipe.c, eq_self, go_sem, Int.reduceNegSucc, Nat.reduceAdd, Nat.reduceSub, Nat.reduceMul, Nat.reduceEqDiff, Nat.reduceLeDiff, Nat.reduceLT, Nat.reduceBEq, Nat.reduceBNe, reduceIte, reduceCtorEq, Int.reduceToNat, Int.reduceAdd, Int.reduceSub, Int.reduceMul, Int.reduceNeg, Int.reduceLT, Int.reduceLE, Int.reduceEq, Int.reduceNe, Evid.iv, Evid.c, Place.c, Move.c, Cert.c, Recall.c, Purity.c, Sample.c, Recipe.c, ints, ic]
  · intro ⟨i, l⟩ ⟨hi, ha, hl⟩
    dsimp only at hi ha hl
    by_cases hp : (i : Int) < e.moves.length
    · have hd : decide ((i : Int) < e.moves.length) = true := decide_eq_true hp
      obtain ⟨m, hx⟩ := at_nat hp
      have n1 := i64_ok (n := (i : Int) + 1) (by omega)
      rw [drop_cons hx, cookGo] at ha
      rcases l with _ | ⟨y, l⟩
      · skip
        have hlen : ∀ (c : List IV), c ∈ List.map Purity.c ([]) → c.length = 4 := fun c hc => by
          obtain ⟨z, _, rfl⟩ := List.mem_map.1 hc; rfl
        simp only [List.map_cons, List.map_nil] at hlen
        simp only [List.length_cons, List.length_nil] at hl
        simp only [hd, List.getElem?_map, hx, Move.c, Recipe.c, eq_self, go_sem, Int.reduceNegSucc, Nat.reduceAdd, Nat.reduceSub, Nat.reduceMul, Nat.reduceEqDiff, Nat.reduceLeDiff, Nat.reduceLT, Nat.reduceBEq, Nat.reduceBNe, reduceIte, reduceCtorEq, Int.reduceToNat, Int.reduceAdd, Int.reduceSub, Int.reduceMul, Int.reduceNeg, Int.reduceLT, Int.reduceLE, Int.reduceEq, Int.reduceNe, Evid.iv, Evid.c, Place.c, Move.c, Cert.c, Recall.c, Purity.c, Sample.c, Recipe.c, ints, ic]
        refine Two_of (fun hf => ?_) (fun hf => ?_)
        · simp only [hf, List.getElem?_map, hx, Move.c, Recipe.c, eq_self, go_sem, Int.reduceNegSucc, Nat.reduceAdd, Nat.reduceSub, Nat.reduceMul, Nat.reduceEqDiff, Nat.reduceLeDiff, Nat.reduceLT, Nat.reduceBEq, Nat.reduceBNe, reduceIte, reduceCtorEq, Int.reduceToNat, Int.reduceAdd, Int.reduceSub, Int.reduceMul, Int.reduceNeg, Int.reduceLT, Int.reduceLE, Int.reduceEq, Int.reduceNe, Evid.iv, Evid.c, Place.c, Move.c, Cert.c, Recall.c, Purity.c, Sample.c, Recipe.c, ints, ic]
          refine Two_of (fun ht => ?_) (fun ht => ?_)
          · rw [hf, ht, Bool.and_self, if_pos rfl] at ha
            simp only [hf, ht, List.getElem?_map, hx, Move.c, Recipe.c, eq_self, go_sem, Int.reduceNegSucc, Nat.reduceAdd, Nat.reduceSub, Nat.reduceMul, Nat.reduceEqDiff, Nat.reduceLeDiff, Nat.reduceLT, Nat.reduceBEq, Nat.reduceBNe, reduceIte, reduceCtorEq, Int.reduceToNat, Int.reduceAdd, Int.reduceSub, Int.reduceMul, Int.reduceNeg, Int.reduceLT, Int.reduceLE, Int.reduceEq, Int.reduceNe, Evid.iv, Evid.c, Place.c, Move.c, Cert.c, Recall.c, Purity.c, Sample.c, Recipe.c, ints, ic]
            refine ⟨hlen, by simp, ?_⟩
            try refine ⟨by omega, ?_⟩
            refine RoundP_of (i + 1, [] ++ [⟨i, x.mat, x.least, x.most⟩]) ?_ ?_ ⟨?_, ?_, ?_⟩
            · simp only [n1, Recipe.c, Int.natCast_add, eq_self, List.map_append, List.length_append, Purity.c, go_sem, Int.reduceNegSucc, Nat.reduceAdd, Nat.reduceSub, Nat.reduceMul, Nat.reduceEqDiff, Nat.reduceLeDiff, Nat.reduceLT, Nat.reduceBEq, Nat.reduceBNe, reduceIte, reduceCtorEq, Int.reduceToNat, Int.reduceAdd, Int.reduceSub, Int.reduceMul, Int.reduceNeg, Int.reduceLT, Int.reduceLE, Int.reduceEq, Int.reduceNe, Evid.iv, Evid.c, Place.c, Move.c, Cert.c, Recall.c, Purity.c, Sample.c, Recipe.c, ints, ic]
            · show e.moves.length - (i + 1) < e.moves.length - i; omega
            · show i + 1 ≤ e.moves.length; omega
            · dsimp only; rw [← ha]; simp only [List.append_assoc, List.cons_append, List.nil_append]
            · dsimp only; simp only [List.length_append, List.length_cons, List.length_nil]; omega
          · rw [hf, ht, Bool.and_false, if_neg Bool.false_ne_true] at ha
            simp only [hf, ht, List.getElem?_map, hx, Move.c, Recipe.c, eq_self, go_sem, Int.reduceNegSucc, Nat.reduceAdd, Nat.reduceSub, Nat.reduceMul, Nat.reduceEqDiff, Nat.reduceLeDiff, Nat.reduceLT, Nat.reduceBEq, Nat.reduceBNe, reduceIte, reduceCtorEq, Int.reduceToNat, Int.reduceAdd, Int.reduceSub, Int.reduceMul, Int.reduceNeg, Int.reduceLT, Int.reduceLE, Int.reduceEq, Int.reduceNe, Evid.iv, Evid.c, Place.c, Move.c, Cert.c, Recall.c, Purity.c, Sample.c, Recipe.c, ints, ic]
            refine RoundP_of (i + 1, []) ?_ ?_ ⟨?_, ?_, ?_⟩
            · simp only [n1, Recipe.c, Int.natCast_add, eq_self, go_sem, Int.reduceNegSucc, Nat.reduceAdd, Nat.reduceSub, Nat.reduceMul, Nat.reduceEqDiff, Nat.reduceLeDiff, Nat.reduceLT, Nat.reduceBEq, Nat.reduceBNe, reduceIte, reduceCtorEq, Int.reduceToNat, Int.reduceAdd, Int.reduceSub, Int.reduceMul, Int.reduceNeg, Int.reduceLT, Int.reduceLE, Int.reduceEq, Int.reduceNe, Evid.iv, Evid.c, Place.c, Move.c, Cert.c, Recall.c, Purity.c, Sample.c, Recipe.c, ints, ic]
            · show e.moves.length - (i + 1) < e.moves.length - i; omega
            · show i + 1 ≤ e.moves.length; omega
            · exact ha
            · dsimp only; simp only [List.length_cons, List.length_nil]; omega
        · rw [hf, Bool.false_and, if_neg Bool.false_ne_true] at ha
          simp only [hf, List.getElem?_map, hx, Move.c, Recipe.c, eq_self, go_sem, Int.reduceNegSucc, Nat.reduceAdd, Nat.reduceSub, Nat.reduceMul, Nat.reduceEqDiff, Nat.reduceLeDiff, Nat.reduceLT, Nat.reduceBEq, Nat.reduceBNe, reduceIte, reduceCtorEq, Int.reduceToNat, Int.reduceAdd, Int.reduceSub, Int.reduceMul, Int.reduceNeg, Int.reduceLT, Int.reduceLE, Int.reduceEq, Int.reduceNe, Evid.iv, Evid.c, Place.c, Move.c, Cert.c, Recall.c, Purity.c, Sample.c, Recipe.c, ints, ic]
          refine RoundP_of (i + 1, []) ?_ ?_ ⟨?_, ?_, ?_⟩
          · simp only [n1, Recipe.c, Int.natCast_add, eq_self, go_sem, Int.reduceNegSucc, Nat.reduceAdd, Nat.reduceSub, Nat.reduceMul, Nat.reduceEqDiff, Nat.reduceLeDiff, Nat.reduceLT, Nat.reduceBEq, Nat.reduceBNe, reduceIte, reduceCtorEq, Int.reduceToNat, Int.reduceAdd, Int.reduceSub, Int.reduceMul, Int.reduceNeg, Int.reduceLT, Int.reduceLE, Int.reduceEq, Int.reduceNe, Evid.iv, Evid.c, Place.c, Move.c, Cert.c, Recall.c, Purity.c, Sample.c, Recipe.c, ints, ic]
          · show e.moves.length - (i + 1) < e.moves.length - i; omega
          · show i + 1 ≤ e.moves.length; omega
          · exact ha
          · dsimp only; simp only [List.length_cons, List.length_nil]; omega
      · skip
        have hlen : ∀ (c : List IV), c ∈ List.map Purity.c ((y :: l)) → c.length = 4 := fun c hc => by
          obtain ⟨z, _, rfl⟩ := List.mem_map.1 hc; rfl
        simp only [List.map_cons, List.map_nil] at hlen
        simp only [List.length_cons, List.length_nil] at hl
        simp only [hd, List.getElem?_map, hx, Move.c, Recipe.c, eq_self, go_sem, Int.reduceNegSucc, Nat.reduceAdd, Nat.reduceSub, Nat.reduceMul, Nat.reduceEqDiff, Nat.reduceLeDiff, Nat.reduceLT, Nat.reduceBEq, Nat.reduceBNe, reduceIte, reduceCtorEq, Int.reduceToNat, Int.reduceAdd, Int.reduceSub, Int.reduceMul, Int.reduceNeg, Int.reduceLT, Int.reduceLE, Int.reduceEq, Int.reduceNe, Evid.iv, Evid.c, Place.c, Move.c, Cert.c, Recall.c, Purity.c, Sample.c, Recipe.c, ints, ic]
        refine Two_of (fun hf => ?_) (fun hf => ?_)
        · simp only [hf, List.getElem?_map, hx, Move.c, Recipe.c, eq_self, go_sem, Int.reduceNegSucc, Nat.reduceAdd, Nat.reduceSub, Nat.reduceMul, Nat.reduceEqDiff, Nat.reduceLeDiff, Nat.reduceLT, Nat.reduceBEq, Nat.reduceBNe, reduceIte, reduceCtorEq, Int.reduceToNat, Int.reduceAdd, Int.reduceSub, Int.reduceMul, Int.reduceNeg, Int.reduceLT, Int.reduceLE, Int.reduceEq, Int.reduceNe, Evid.iv, Evid.c, Place.c, Move.c, Cert.c, Recall.c, Purity.c, Sample.c, Recipe.c, ints, ic]
          refine Two_of (fun ht => ?_) (fun ht => ?_)
          · rw [hf, ht, Bool.and_self, if_pos rfl] at ha
            simp only [hf, ht, List.getElem?_map, hx, Move.c, Recipe.c, eq_self, go_sem, Int.reduceNegSucc, Nat.reduceAdd, Nat.reduceSub, Nat.reduceMul, Nat.reduceEqDiff, Nat.reduceLeDiff, Nat.reduceLT, Nat.reduceBEq, Nat.reduceBNe, reduceIte, reduceCtorEq, Int.reduceToNat, Int.reduceAdd, Int.reduceSub, Int.reduceMul, Int.reduceNeg, Int.reduceLT, Int.reduceLE, Int.reduceEq, Int.reduceNe, Evid.iv, Evid.c, Place.c, Move.c, Cert.c, Recall.c, Purity.c, Sample.c, Recipe.c, ints, ic]
            refine ⟨hlen, by simp, ?_⟩
            try refine ⟨by omega, ?_⟩
            refine RoundP_of (i + 1, (y :: l) ++ [⟨i, x.mat, x.least, x.most⟩]) ?_ ?_ ⟨?_, ?_, ?_⟩
            · simp only [n1, Recipe.c, Int.natCast_add, eq_self, List.map_append, List.length_append, Purity.c, go_sem, Int.reduceNegSucc, Nat.reduceAdd, Nat.reduceSub, Nat.reduceMul, Nat.reduceEqDiff, Nat.reduceLeDiff, Nat.reduceLT, Nat.reduceBEq, Nat.reduceBNe, reduceIte, reduceCtorEq, Int.reduceToNat, Int.reduceAdd, Int.reduceSub, Int.reduceMul, Int.reduceNeg, Int.reduceLT, Int.reduceLE, Int.reduceEq, Int.reduceNe, Evid.iv, Evid.c, Place.c, Move.c, Cert.c, Recall.c, Purity.c, Sample.c, Recipe.c, ints, ic]
            · show e.moves.length - (i + 1) < e.moves.length - i; omega
            · show i + 1 ≤ e.moves.length; omega
            · dsimp only; rw [← ha]; simp only [List.append_assoc, List.cons_append, List.nil_append]
            · dsimp only; simp only [List.length_append, List.length_cons, List.length_nil]; omega
          · rw [hf, ht, Bool.and_false, if_neg Bool.false_ne_true] at ha
            simp only [hf, ht, List.getElem?_map, hx, Move.c, Recipe.c, eq_self, go_sem, Int.reduceNegSucc, Nat.reduceAdd, Nat.reduceSub, Nat.reduceMul, Nat.reduceEqDiff, Nat.reduceLeDiff, Nat.reduceLT, Nat.reduceBEq, Nat.reduceBNe, reduceIte, reduceCtorEq, Int.reduceToNat, Int.reduceAdd, Int.reduceSub, Int.reduceMul, Int.reduceNeg, Int.reduceLT, Int.reduceLE, Int.reduceEq, Int.reduceNe, Evid.iv, Evid.c, Place.c, Move.c, Cert.c, Recall.c, Purity.c, Sample.c, Recipe.c, ints, ic]
            refine RoundP_of (i + 1, (y :: l)) ?_ ?_ ⟨?_, ?_, ?_⟩
            · simp only [n1, Recipe.c, Int.natCast_add, eq_self, go_sem, Int.reduceNegSucc, Nat.reduceAdd, Nat.reduceSub, Nat.reduceMul, Nat.reduceEqDiff, Nat.reduceLeDiff, Nat.reduceLT, Nat.reduceBEq, Nat.reduceBNe, reduceIte, reduceCtorEq, Int.reduceToNat, Int.reduceAdd, Int.reduceSub, Int.reduceMul, Int.reduceNeg, Int.reduceLT, Int.reduceLE, Int.reduceEq, Int.reduceNe, Evid.iv, Evid.c, Place.c, Move.c, Cert.c, Recall.c, Purity.c, Sample.c, Recipe.c, ints, ic]
            · show e.moves.length - (i + 1) < e.moves.length - i; omega
            · show i + 1 ≤ e.moves.length; omega
            · exact ha
            · dsimp only; simp only [List.length_cons, List.length_nil]; omega
        · rw [hf, Bool.false_and, if_neg Bool.false_ne_true] at ha
          simp only [hf, List.getElem?_map, hx, Move.c, Recipe.c, eq_self, go_sem, Int.reduceNegSucc, Nat.reduceAdd, Nat.reduceSub, Nat.reduceMul, Nat.reduceEqDiff, Nat.reduceLeDiff, Nat.reduceLT, Nat.reduceBEq, Nat.reduceBNe, reduceIte, reduceCtorEq, Int.reduceToNat, Int.reduceAdd, Int.reduceSub, Int.reduceMul, Int.reduceNeg, Int.reduceLT, Int.reduceLE, Int.reduceEq, Int.reduceNe, Evid.iv, Evid.c, Place.c, Move.c, Cert.c, Recall.c, Purity.c, Sample.c, Recipe.c, ints, ic]
          refine RoundP_of (i + 1, (y :: l)) ?_ ?_ ⟨?_, ?_, ?_⟩
          · simp only [n1, Recipe.c, Int.natCast_add, eq_self, go_sem, Int.reduceNegSucc, Nat.reduceAdd, Nat.reduceSub, Nat.reduceMul, Nat.reduceEqDiff, Nat.reduceLeDiff, Nat.reduceLT, Nat.reduceBEq, Nat.reduceBNe, reduceIte, reduceCtorEq, Int.reduceToNat, Int.reduceAdd, Int.reduceSub, Int.reduceMul, Int.reduceNeg, Int.reduceLT, Int.reduceLE, Int.reduceEq, Int.reduceNe, Evid.iv, Evid.c, Place.c, Move.c, Cert.c, Recall.c, Purity.c, Sample.c, Recipe.c, ints, ic]
          · show e.moves.length - (i + 1) < e.moves.length - i; omega
          · show i + 1 ≤ e.moves.length; omega
          · exact ha
          · dsimp only; simp only [List.length_cons, List.length_nil]; omega
    · have hd : decide ((i : Int) < e.moves.length) = false := decide_eq_false hp
      rw [List.drop_of_length_le (by omega), cookGo, List.append_nil] at ha
      rcases l with _ | ⟨y, l⟩
      · have hb := ha.symm
        clear ha
        simp only [eq_self, resP, purs, *, go_sem, Int.reduceNegSucc, Nat.reduceAdd, Nat.reduceSub, Nat.reduceMul, Nat.reduceEqDiff, Nat.reduceLeDiff, Nat.reduceLT, Nat.reduceBEq, Nat.reduceBNe, reduceIte, reduceCtorEq, Int.reduceToNat, Int.reduceAdd, Int.reduceSub, Int.reduceMul, Int.reduceNeg, Int.reduceLT, Int.reduceLE, Int.reduceEq, Int.reduceNe, Evid.iv, Evid.c, Place.c, Move.c, Cert.c, Recall.c, Purity.c, Sample.c, Recipe.c, ints, ic]
      · have hb := ha.symm
        clear ha
        simp only [eq_self, resP, purs, *, go_sem, Int.reduceNegSucc, Nat.reduceAdd, Nat.reduceSub, Nat.reduceMul, Nat.reduceEqDiff, Nat.reduceLeDiff, Nat.reduceLT, Nat.reduceBEq, Nat.reduceBNe, reduceIte, reduceCtorEq, Int.reduceToNat, Int.reduceAdd, Int.reduceSub, Int.reduceMul, Int.reduceNeg, Int.reduceLT, Int.reduceLE, Int.reduceEq, Int.reduceNe, Evid.iv, Evid.c, Place.c, Move.c, Cert.c, Recall.c, Purity.c, Sample.c, Recipe.c, ints, ic]
end Go.Proofs.Ytpnlfkaijdjhlaa
