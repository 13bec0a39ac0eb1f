/- A part of the proof: what functions of the program do, and the layer under it. No further condition. -/
import Derived.Test.YtpnlfkaijdjhlaaKC14
import Derived.Test.YtpnlfkaijdjhlaaKC19
import Derived.Test.YtpnlfkaijdjhlaaKC20
import Derived.Test.YtpnlfkaijdjhlaaKC23
namespace Go.Proofs.Ytpnlfkaijdjhlaa
set_option linter.all false
open Go.Abs

def zeroE : Evid := ⟨0, 0, 0, [], [], [], [], []⟩
def addS (e : Evid) : List Purity → List Sample → List Purity × Int
  | acc, [] => (acc, 0)
  | acc, s :: r => if decide ((sampledF e s).2 = 0) = true then addS e (acc ++ (sampledF e s).1) r else ([], (sampledF e s).2)
def addR (e : Evid) : List Purity → List Recipe → List Purity × Int
  | acc, [] => (acc, 0)
  | acc, s :: r => if decide ((cookedF e s).2 = 0) = true then addR e (acc ++ (cookedF e s).1) r else ([], (cookedF e s).2)
def expandF (e : Evid) (ss : List Sample) (rs : List Recipe) : Evid × Int :=
  if decide (checkF e = 0) = false then (zeroE, checkF e) else
  if decide ((addS e e.purs ss).2 = 0) = false then (zeroE, (addS e e.purs ss).2) else
  if decide ((addR e (addS e e.purs ss).1 rs).2 = 0) = false then (zeroE, (addR e (addS e e.purs ss).1 rs).2) else
  if decide (200 < ((addR e (addS e e.purs ss).1 rs).1.length : Int)) = true then (zeroE, 6) else ({ e with purs := (addR e (addS e e.purs ss).1 rs).1 }, 0)
def resE (r : Evid × Int) : IV := .tup [r.1.iv, .int r.2]
theorem sampled_len (e : Evid) (s : Sample) (h : e.mats ≤ 6) : (sampledF e s).1.length ≤ 6 := by
  unfold sampledF
  split
  · simp
  · split
    · simp
    · split
      · simp
      · rename_i h3
        simp at h3
        show (puritiesF s).1.length ≤ 6
        omega
theorem cookGo_len (x : Recipe) : ∀ (l : List Move) (i : Nat), (cookGo x i l).length ≤ l.length
  | [], _ => Nat.le_refl _
  | m :: r, i => by
    have := cookGo_len x r (i + 1)
    rw [cookGo]
    split <;> simp <;> omega
theorem cooked_len (e : Evid) (x : Recipe) (h : e.moves.length ≤ 200) : (cookedF e x).1.length ≤ 200 := by
  unfold cookedF
  have := cookGo_len x e.moves 0
  (repeat' split) <;> simp <;> omega
theorem check_fit {e : Evid} (h : checkF e = 0) : (pairs e).all fitP = true ∧ 1 ≤ e.mats := by
  unfold checkF at h
  split at h
  · cases h
  · rename_i h1
    split at h
    · cases h
    · rename_i h2
      simp at h1 h2
      exact ⟨by simpa using h1, by omega⟩
theorem purs_len4 (l : List Purity) : ∀ c ∈ l.map Purity.c, c.length = 4 := fun c hc => by
  obtain ⟨z, _, rfl⟩ := List.mem_map.1 hc; rfl
set_option maxRecDepth 100000 in
set_option maxHeartbeats 2000000 in
theorem c13 (e : Evid) (ss : List Sample) (rs : List Recipe) (hs : ss.length ≤ 1000) (hr : rs.length ≤ 1000) : Ctr G.P 13 [e.iv, samples ss, recipes rs] (· = resE (expandF e ss rs)) := by
  have h36 := c36 e
  by_cases hk : checkF e = 0
  · obtain ⟨hfit, hm⟩ := check_fit hk
    obtain ⟨l1, l2, l3, l4, l5, l6, l7, l8⟩ := fit_len hfit
    clear hfit l3 l4 l7 l8
    have h38 := fun x => c38 e x (by omega) (by omega) ⟨hm, by omega⟩
    have hlS := fun s => sampled_len e s l6
    have hlR := fun s => cooked_len e s l2
    rw [hk] at h36
    have hx : expandF e ss rs = if decide ((addS e e.purs ss).2 = 0) = false then (zeroE, (addS e e.purs ss).2) else
      if decide ((addR e (addS e e.purs ss).1 rs).2 = 0) = false then (zeroE, (addR e (addS e e.purs ss).1 rs).2) else
      if decide (200 < ((addR e (addS e e.purs ss).1 rs).1.length : Int)) = true then (zeroE, 6) else ({ e with purs := (addR e (addS e e.purs ss).1 rs).1 }, 0) := by simp [expandF, hk]
    rw [hx]
    clear hx hk
    refine ctr_go good _ _ [.cell 6 28, .tmp 7] Try.func13 rfl rfl (by decide +kernel) rfl ?_
    unfold samples recipes
    simp only [go_sem, Int.reduceNegSucc, Nat.reduceAdd, Nat.reduceSub, Nat.reduceMul, Nat.reduceEqDiff, Nat.reduceLeDiff, Nat.reduceLT, Nat.reduceBEq, Nat.reduceBNe, reduceIte, reduceCtorEq, Int.reduceToNat, Int.reduceAdd, Int.reduceSub, Int.reduceMul, Int.reduceNeg, Int.reduceLT, Int.reduceLE, Int.reduceEq, Int.reduceNe, Evid.iv, Evid.c, Place.c, Move.c, Cert.c, Recall.c, Purity.c, Sample.c, Recipe.c, ints, ic]
    refine CallP_eq h36 (by decide) ?_
    simp only [go_sem, Int.reduceNegSucc, Nat.reduceAdd, Nat.reduceSub, Nat.reduceMul, Nat.reduceEqDiff, Nat.reduceLeDiff, Nat.reduceLT, Nat.reduceBEq, Nat.reduceBNe, reduceIte, reduceCtorEq, Int.reduceToNat, Int.reduceAdd, Int.reduceSub, Int.reduceMul, Int.reduceNeg, Int.reduceLT, Int.reduceLE, Int.reduceEq, Int.reduceNe, Evid.iv, Evid.c, Place.c, Move.c, Cert.c, Recall.c, Purity.c, Sample.c, Recipe.c, ints, ic]
    clear h36
    refine ⟨by simp, purs_len4 _, by omega, ?_⟩
    refine LoopP_ofP [1, 2, 3, 6, 9, 10] [3, 6, 47, 25] [(9, 47, 52, 4)] (fun g : Nat × List Purity => ⟨[(1, .im (.sl (ss.map Sample.c))), (2, .im (.sl (rs.map Recipe.c))), (3, .loc 3 8 0 0), (6, .loc 6 8 0 0), (9, .vec 47 52 4 (g.2.map Purity.c)), (10, .im (.int g.1))],
        [(6, 8, [zeroE.c]), (3, 8, [e.c])], [(47, 4, g.2.length)]⟩)
      (fun g => g.1 ≤ ss.length ∧ addS e e.purs ss = addS e g.2 (ss.drop g.1) ∧ g.2.length ≤ 200 + 6 * g.1) (fun g => ss.length - g.1) (0, e.purs) ?_ ?_ ⟨Nat.zero_le _, rfl, by omega⟩ ?_
    · simp only [go_sem, Int.reduceNegSucc, Nat.reduceAdd, Nat.reduceSub, Nat.reduceMul, Nat.reduceEqDiff, Nat.reduceLeDiff, Nat.reduceLT, Nat.reduceBEq, Nat.reduceBNe, reduceIte, reduceCtorEq, Int.reduceToNat, Int.reduceAdd, Int.reduceSub, Int.reduceMul, Int.reduceNeg, Int.reduceLT, Int.reduceLE, Int.reduceEq, Int.reduceNe, Evid.iv, Evid.c, Place.c, Move.c, Cert.c, Recall.c, Purity.c, Sample.c, Recipe.c, ints, ic]
    · simp only [Int.natCast_zero, zeroE, List.map_nil, go_sem, Int.reduceNegSucc, Nat.reduceAdd, Nat.reduceSub, Nat.reduceMul, Nat.reduceEqDiff, Nat.reduceLeDiff, Nat.reduceLT, Nat.reduceBEq, Nat.reduceBNe, reduceIte, reduceCtorEq, Int.reduceToNat, Int.reduceAdd, Int.reduceSub, Int.reduceMul, Int.reduceNeg, Int.reduceLT, Int.reduceLE, Int.reduceEq, Int.reduceNe, Evid.iv, Evid.c, Place.c, Move.c, Cert.c, Recall.c, Purity.c, Sample.c, Recipe.c, ints, ic]
    · intro ⟨i, acc⟩ ⟨hi, ha, hl⟩
      dsimp only at hi ha hl
      by_cases hp : (i : Int) < ss.length
      · have hd : decide ((i : Int) < ss.length) = true := decide_eq_true hp
        obtain ⟨x, hx⟩ := at_nat hp
        have h1 := i64_ok (n := (i : Int) + 1) (by omega)
        have h37 := c37 e x
        have hlx := hlS x
        rw [drop_cons hx, addS] at ha
        generalize sampledF e x = r at *
        obtain ⟨l, k⟩ := r
        dsimp only at hlx ha
        simp only [hd, go_sem, Int.reduceNegSucc, Nat.reduceAdd, Nat.reduceSub, Nat.reduceMul, Nat.reduceEqDiff, Nat.reduceLeDiff, Nat.reduceLT, Nat.reduceBEq, Nat.reduceBNe, reduceIte, reduceCtorEq, Int.reduceToNat, Int.reduceAdd, Int.reduceSub, Int.reduceMul, Int.reduceNeg, Int.reduceLT, Int.reduceLE, Int.reduceEq, Int.reduceNe, Evid.iv, Evid.c, Place.c, Move.c, Cert.c, Recall.c, Purity.c, Sample.c, Recipe.c, ints, ic]
        refine DrawP_of 11 (by decide +kernel) ?_
        simp only [hd, List.getElem?_map, hx, go_sem, Int.reduceNegSucc, Nat.reduceAdd, Nat.reduceSub, Nat.reduceMul, Nat.reduceEqDiff, Nat.reduceLeDiff, Nat.reduceLT, Nat.reduceBEq, Nat.reduceBNe, reduceIte, reduceCtorEq, Int.reduceToNat, Int.reduceAdd, Int.reduceSub, Int.reduceMul, Int.reduceNeg, Int.reduceLT, Int.reduceLE, Int.reduceEq, Int.reduceNe, Evid.iv, Evid.c, Place.c, Move.c, Cert.c, Recall.c, Purity.c, Sample.c, Recipe.c, ints, ic]
        refine CallD_eq h37 (by decide) ?_
        simp only [resP, purs, go_sem, Int.reduceNegSucc, Nat.reduceAdd, Nat.reduceSub, Nat.reduceMul, Nat.reduceEqDiff, Nat.reduceLeDiff, Nat.reduceLT, Nat.reduceBEq, Nat.reduceBNe, reduceIte, reduceCtorEq, Int.reduceToNat, Int.reduceAdd, Int.reduceSub, Int.reduceMul, Int.reduceNeg, Int.reduceLT, Int.reduceLE, Int.reduceEq, Int.reduceNe, Evid.iv, Evid.c, Place.c, Move.c, Cert.c, Recall.c, Purity.c, Sample.c, Recipe.c, ints, ic]
        refine Two_of (fun hk => ?_) (fun hk => ?_)
        · rw [hk, if_pos rfl] at ha
          simp only [eq_self, go_sem, Int.reduceNegSucc, Nat.reduceAdd, Nat.reduceSub, Nat.reduceMul, Nat.reduceEqDiff, Nat.reduceLeDiff, Nat.reduceLT, Nat.reduceBEq, Nat.reduceBNe, reduceIte, reduceCtorEq, Int.reduceToNat, Int.reduceAdd, Int.reduceSub, Int.reduceMul, Int.reduceNeg, Int.reduceLT, Int.reduceLE, Int.reduceEq, Int.reduceNe, Evid.iv, Evid.c, Place.c, Move.c, Cert.c, Recall.c, Purity.c, Sample.c, Recipe.c, ints, ic]
          refine ⟨purs_len4 _, purs_len4 _, by omega, ?_⟩
          refine RoundP_of (i + 1, acc ++ l) ?_ ?_ ⟨?_, ha, ?_⟩
          · simp only [h1, Int.natCast_add, zeroE, List.map_nil, List.map_append, List.length_append, go_sem, Int.reduceNegSucc, Nat.reduceAdd, Nat.reduceSub, Nat.reduceMul, Nat.reduceEqDiff, Nat.reduceLeDiff, Nat.reduceLT, Nat.reduceBEq, Nat.reduceBNe, reduceIte, reduceCtorEq, Int.reduceToNat, Int.reduceAdd, Int.reduceSub, Int.reduceMul, Int.reduceNeg, Int.reduceLT, Int.reduceLE, Int.reduceEq, Int.reduceNe, Evid.iv, Evid.c, Place.c, Move.c, Cert.c, Recall.c, Purity.c, Sample.c, Recipe.c, ints, ic]
          · show ss.length - (i + 1) < ss.length - i; omega
          · show i + 1 ≤ ss.length; omega
          · show (acc ++ l).length ≤ 200 + 6 * (i + 1); rw [List.length_append]; omega
        · rw [hk, if_neg Bool.false_ne_true] at ha
          rw [ha]
          have hk' := of_decide_eq_false hk
          simp only [hk', resE, zeroE, List.map_nil, go_sem, Int.reduceNegSucc, Nat.reduceAdd, Nat.reduceSub, Nat.reduceMul, Nat.reduceEqDiff, Nat.reduceLeDiff, Nat.reduceLT, Nat.reduceBEq, Nat.reduceBNe, reduceIte, reduceCtorEq, Int.reduceToNat, Int.reduceAdd, Int.reduceSub, Int.reduceMul, Int.reduceNeg, Int.reduceLT, Int.reduceLE, Int.reduceEq, Int.reduceNe, Evid.iv, Evid.c, Place.c, Move.c, Cert.c, Recall.c, Purity.c, Sample.c, Recipe.c, ints, ic]
      · have hd : decide ((i : Int) < ss.length) = false := decide_eq_false hp
        rw [List.drop_of_length_le (by omega), addS] at ha
        rw [ha]
        simp only [hd, go_sem, Int.reduceNegSucc, Nat.reduceAdd, Nat.reduceSub, Nat.reduceMul, Nat.reduceEqDiff, Nat.reduceLeDiff, Nat.reduceLT, Nat.reduceBEq, Nat.reduceBNe, reduceIte, reduceCtorEq, Int.reduceToNat, Int.reduceAdd, Int.reduceSub, Int.reduceMul, Int.reduceNeg, Int.reduceLT, Int.reduceLE, Int.reduceEq, Int.reduceNe, Evid.iv, Evid.c, Place.c, Move.c, Cert.c, Recall.c, Purity.c, Sample.c, Recipe.c, ints, ic]
        clear hd hp ha hlS
        refine LoopP_ofP [2, 3, 6, 9, 13] [3, 6, 69, 47] [(9, 69, 52, 4)] (fun g : Nat × List Purity => ⟨[(2, .im (.sl (rs.map Recipe.c))), (3, .loc 3 8 0 0), (6, .loc 6 8 0 0), (9, .vec 69 52 4 (g.2.map Purity.c)), (13, .im (.int g.1))],
            [(6, 8, [zeroE.c]), (3, 8, [e.c])], [(69, 4, g.2.length)]⟩)
          (fun g => g.1 ≤ rs.length ∧ addR e acc rs = addR e g.2 (rs.drop g.1) ∧ g.2.length ≤ 10000 + 200 * g.1) (fun g => rs.length - g.1) (0, acc) ?_ ?_ ⟨Nat.zero_le _, rfl, by show acc.length ≤ _; omega⟩ ?_
        · simp only [go_sem, Int.reduceNegSucc, Nat.reduceAdd, Nat.reduceSub, Nat.reduceMul, Nat.reduceEqDiff, Nat.reduceLeDiff, Nat.reduceLT, Nat.reduceBEq, Nat.reduceBNe, reduceIte, reduceCtorEq, Int.reduceToNat, Int.reduceAdd, Int.reduceSub, Int.reduceMul, Int.reduceNeg, Int.reduceLT, Int.reduceLE, Int.reduceEq, Int.reduceNe, Evid.iv, Evid.c, Place.c, Move.c, Cert.c, Recall.c, Purity.c, Sample.c, Recipe.c, ints, ic]
        · simp only [Int.natCast_zero, zeroE, List.map_nil, go_sem, Int.reduceNegSucc, Nat.reduceAdd, Nat.reduceSub, Nat.reduceMul, Nat.reduceEqDiff, Nat.reduceLeDiff, Nat.reduceLT, Nat.reduceBEq, Nat.reduceBNe, reduceIte, reduceCtorEq, Int.reduceToNat, Int.reduceAdd, Int.reduceSub, Int.reduceMul, Int.reduceNeg, Int.reduceLT, Int.reduceLE, Int.reduceEq, Int.reduceNe, Evid.iv, Evid.c, Place.c, Move.c, Cert.c, Recall.c, Purity.c, Sample.c, Recipe.c, ints, ic]
        clear hi hl
        intro ⟨i, acc'⟩ ⟨hi, ha, hl⟩
        dsimp only at hi ha hl
        by_cases hp : (i : Int) < rs.length
        · have hd : decide ((i : Int) < rs.length) = true := decide_eq_true hp
          obtain ⟨x, hx⟩ := at_nat hp
          have h1 := i64_ok (n := (i : Int) + 1) (by omega)
          have h38' := h38 x
          have hlx := hlR x
          rw [drop_cons hx, addR] at ha
          generalize cookedF e x = r at *
          obtain ⟨l, k⟩ := r
          dsimp only at hlx ha
          simp only [hd, go_sem, Int.reduceNegSucc, Nat.reduceAdd, Nat.reduceSub, Nat.reduceMul, Nat.reduceEqDiff, Nat.reduceLeDiff, Nat.reduceLT, Nat.reduceBEq, Nat.reduceBNe, reduceIte, reduceCtorEq, Int.reduceToNat, Int.reduceAdd, Int.reduceSub, Int.reduceMul, Int.reduceNeg, Int.reduceLT, Int.reduceLE, Int.reduceEq, Int.reduceNe, Evid.iv, Evid.c, Place.c, Move.c, Cert.c, Recall.c, Purity.c, Sample.c, Recipe.c, ints, ic]
          refine DrawP_of 11 (by decide +kernel) ?_
          simp only [hd, List.getElem?_map, hx, go_sem, Int.reduceNegSucc, Nat.reduceAdd, Nat.reduceSub, Nat.reduceMul, Nat.reduceEqDiff, Nat.reduceLeDiff, Nat.reduceLT, Nat.reduceBEq, Nat.reduceBNe, reduceIte, reduceCtorEq, Int.reduceToNat, Int.reduceAdd, Int.reduceSub, Int.reduceMul, Int.reduceNeg, Int.reduceLT, Int.reduceLE, Int.reduceEq, Int.reduceNe, Evid.iv, Evid.c, Place.c, Move.c, Cert.c, Recall.c, Purity.c, Sample.c, Recipe.c, ints, ic]
          refine CallD_eq h38' (by decide) ?_
          simp only [resP, purs, go_sem, Int.reduceNegSucc, Nat.reduceAdd, Nat.reduceSub, Nat.reduceMul, Nat.reduceEqDiff, Nat.reduceLeDiff, Nat.reduceLT, Nat.reduceBEq, Nat.reduceBNe, reduceIte, reduceCtorEq, Int.reduceToNat, Int.reduceAdd, Int.reduceSub, Int.reduceMul, Int.reduceNeg, Int.reduceLT, Int.reduceLE, Int.reduceEq, Int.reduceNe, Evid.iv, Evid.c, Place.c, Move.c, Cert.c, Recall.c, Purity.c, Sample.c, Recipe.c, ints, ic]
          refine Two_of (fun hk => ?_) (fun hk => ?_)
          · rw [hk, if_pos rfl] at ha
            simp only [eq_self, go_sem, Int.reduceNegSucc, Nat.reduceAdd, Nat.reduceSub, Nat.reduceMul, Nat.reduceEqDiff, Nat.reduceLeDiff, Nat.reduceLT, Nat.reduceBEq, Nat.reduceBNe, reduceIte, reduceCtorEq, Int.reduceToNat, Int.reduceAdd, Int.reduceSub, Int.reduceMul, Int.reduceNeg, Int.reduceLT, Int.reduceLE, Int.reduceEq, Int.reduceNe, Evid.iv, Evid.c, Place.c, Move.c, Cert.c, Recall.c, Purity.c, Sample.c, Recipe.c, ints, ic]
            refine ⟨purs_len4 _, purs_len4 _, by omega, ?_⟩
            refine RoundP_of (i + 1, acc' ++ l) ?_ ?_ ⟨?_, ha, ?_⟩
            · simp only [h1, Int.natCast_add, zeroE, List.map_nil, List.map_append, List.length_append, go_sem, Int.reduceNegSucc, Nat.reduceAdd, Nat.reduceSub, Nat.reduceMul, Nat.reduceEqDiff, Nat.reduceLeDiff, Nat.reduceLT, Nat.reduceBEq, Nat.reduceBNe, reduceIte, reduceCtorEq, Int.reduceToNat, Int.reduceAdd, Int.reduceSub, Int.reduceMul, Int.reduceNeg, Int.reduceLT, Int.reduceLE, Int.reduceEq, Int.reduceNe, Evid.iv, Evid.c, Place.c, Move.c, Cert.c, Recall.c, Purity.c, Sample.c, Recipe.c, ints, ic]
            · show rs.length - (i + 1) < rs.length - i; omega
            · show i + 1 ≤ rs.length; omega
            · show (acc' ++ l).length ≤ 10000 + 200 * (i + 1); rw [List.length_append]; omega
          · rw [hk, if_neg Bool.false_ne_true] at ha
            rw [ha]
            have hk' := of_decide_eq_false hk
            simp only [hk', resE, zeroE, List.map_nil, go_sem, Int.reduceNegSucc, Nat.reduceAdd, Nat.reduceSub, Nat.reduceMul, Nat.reduceEqDiff, Nat.reduceLeDiff, Nat.reduceLT, Nat.reduceBEq, Nat.reduceBNe, reduceIte, reduceCtorEq, Int.reduceToNat, Int.reduceAdd, Int.reduceSub, Int.reduceMul, Int.reduceNeg, Int.reduceLT, Int.reduceLE, Int.reduceEq, Int.reduceNe, Evid.iv, Evid.c, Place.c, Move.c, Cert.c, Recall.c, Purity.c, Sample.c, Recipe.c, ints, ic]
        · have hd : decide ((i : Int) < rs.length) = false := decide_eq_false hp
          rw [List.drop_of_length_le (by omega), addR] at ha
          rw [ha]
          simp only [hd, go_sem, Int.reduceNegSucc, Nat.reduceAdd, Nat.reduceSub, Nat.reduceMul, Nat.reduceEqDiff, Nat.reduceLeDiff, Nat.reduceLT, Nat.reduceBEq, Nat.reduceBNe, reduceIte, reduceCtorEq, Int.reduceToNat, Int.reduceAdd, Int.reduceSub, Int.reduceMul, Int.reduceNeg, Int.reduceLT, Int.reduceLE, Int.reduceEq, Int.reduceNe, Evid.iv, Evid.c, Place.c, Move.c, Cert.c, Recall.c, Purity.c, Sample.c, Recipe.c, ints, ic]
          refine Two_of (fun hk => ?_) (fun hk => ?_)
          · simp only [hk, resE, zeroE, List.map_nil, go_sem, Int.reduceNegSucc, Nat.reduceAdd, Nat.reduceSub, Nat.reduceMul, Nat.reduceEqDiff, Nat.reduceLeDiff, Nat.reduceLT, Nat.reduceBEq, Nat.reduceBNe, reduceIte, reduceCtorEq, Int.reduceToNat, Int.reduceAdd, Int.reduceSub, Int.reduceMul, Int.reduceNeg, Int.reduceLT, Int.reduceLE, Int.reduceEq, Int.reduceNe, Evid.iv, Evid.c, Place.c, Move.c, Cert.c, Recall.c, Purity.c, Sample.c, Recipe.c, ints, ic]
          · simp only [hk, resE, zeroE, List.map_nil, go_sem, Int.reduceNegSucc, Nat.reduceAdd, Nat.reduceSub, Nat.reduceMul, Nat.reduceEqDiff, Nat.reduceLeDiff, Nat.reduceLT, Nat.reduceBEq, Nat.reduceBNe, reduceIte, reduceCtorEq, Int.reduceToNat, Int.reduceAdd, Int.reduceSub, Int.reduceMul, Int.reduceNeg, Int.reduceLT, Int.reduceLE, Int.reduceEq, Int.reduceNe, Evid.iv, Evid.c, Place.c, Move.c, Cert.c, Recall.c, Purity.c, Sample.c, Recipe.c, ints, ic]
  · have hx : expandF e ss rs = (zeroE, checkF e) := by simp [expandF, hk]
    rw [hx]
    refine ctr_go good _ _ [.cell 6 28, .tmp 7] Try.func13 rfl rfl (by decide +kernel) rfl ?_
    simp only [go_sem, Int.reduceNegSucc, Nat.reduceAdd, Nat.reduceSub, Nat.reduceMul, Nat.reduceEqDiff, Nat.reduceLeDiff, Nat.reduceLT, Nat.reduceBEq, Nat.reduceBNe, reduceIte, reduceCtorEq, Int.reduceToNat, Int.reduceAdd, Int.reduceSub, Int.reduceMul, Int.reduceNeg, Int.reduceLT, Int.reduceLE, Int.reduceEq, Int.reduceNe, Evid.iv, Evid.c, Place.c, Move.c, Cert.c, Recall.c, Purity.c, Sample.c, Recipe.c, ints, ic]
    refine CallP_eq h36 (by decide) ?_
    simp only [hk, resE, zeroE, List.map_nil, go_sem, Int.reduceNegSucc, Nat.reduceAdd, Nat.reduceSub, Nat.reduceMul, Nat.reduceEqDiff, Nat.reduceLeDiff, Nat.reduceLT, Nat.reduceBEq, Nat.reduceBNe, reduceIte, reduceCtorEq, Int.reduceToNat, Int.reduceAdd, Int.reduceSub, Int.reduceMul, Int.reduceNeg, Int.reduceLT, Int.reduceLE, Int.reduceEq, Int.reduceNe, Evid.iv, Evid.c, Place.c, Move.c, Cert.c, Recall.c, Purity.c, Sample.c, Recipe.c, ints, ic]
end Go.Proofs.Ytpnlfkaijdjhlaa
