/- A part of the proof: what functions of the program do, and the layer under it. No further condition. -/
import Derived.Test.YtpnlfkaijdjhlabKX12
import Derived.Test.YtpnlfkaijdjhlabKX19
namespace Go.Proofs.Ytpnlfkaijdjhlab
set_option linter.all false
open Go.Abs

theorem pcells_eq {x y : Pst} : pcells x = pcells y ↔ x = y := by
  cases x; cases y
  simp [pcells]
set_option maxRecDepth 100000 in
theorem t_psame (a b : List Pst) (hl : a.length ≤ 1000000) : Ctr G.P 12 [posts a, posts b] (· = .bool (decide (a = b))) := by
  by_cases hn : (a.length : Int) = b.length
  case neg =>
    have d0 : decide ((a.length : Int) = b.length) = false := decide_eq_false hn
    rw [decide_eq_false (fun e : a = b => hn (by rw [e]))]
    refine ctr_go good _ _ [.tmp 4] Try.func12 rfl rfl (by decide +kernel) rfl ?_
    simp only [d0, go_sem, Int.reduceNegSucc, Nat.reduceAdd, Nat.reduceSub, Nat.reduceMul, Nat.reduceEqDiff, Nat.reduceLeDiff, Nat.reduceLT, Nat.reduceBEq, Nat.reduceBNe, reduceIte, reduceCtorEq, Int.reduceToNat, Int.reduceAdd, Int.reduceSub, Int.reduceMul, Int.reduceNeg, Int.reduceLT, Int.reduceLE, Int.reduceEq, Int.reduceNe, posts, pcells, ints, ic, big, frac]
  case pos =>
  have d0 : decide ((a.length : Int) = b.length) = true := decide_eq_true hn
  refine ctr_go good _ _ [.tmp 4] Try.func12 rfl rfl (by decide +kernel) rfl ?_
  simp only [d0, go_sem, Int.reduceNegSucc, Nat.reduceAdd, Nat.reduceSub, Nat.reduceMul, Nat.reduceEqDiff, Nat.reduceLeDiff, Nat.reduceLT, Nat.reduceBEq, Nat.reduceBNe, reduceIte, reduceCtorEq, Int.reduceToNat, Int.reduceAdd, Int.reduceSub, Int.reduceMul, Int.reduceNeg, Int.reduceLT, Int.reduceLE, Int.reduceEq, Int.reduceNe, posts, pcells, ints, ic, big, frac]
  refine LoopP_of [0, 1, 5] [] (fun i : Nat => ⟨[(0, .im (.sl (a.map pcells))), (1, .im (.sl (b.map pcells))), (5, .im (.int i))], [], []⟩)
    (fun i => i ≤ a.length ∧ a.take i = b.take i) (fun i => a.length - i) 0 ?_ ⟨Nat.zero_le _, by simp⟩ ?_
  · simp only [Int.natCast_zero, go_sem, Int.reduceNegSucc, Nat.reduceAdd, Nat.reduceSub, Nat.reduceMul, Nat.reduceEqDiff, Nat.reduceLeDiff, Nat.reduceLT, Nat.reduceBEq, Nat.reduceBNe, reduceIte, reduceCtorEq, Int.reduceToNat, Int.reduceAdd, Int.reduceSub, Int.reduceMul, Int.reduceNeg, Int.reduceLT, Int.reduceLE, Int.reduceEq, Int.reduceNe, posts, pcells, ints, ic, big, frac]
  intro i ⟨hi, ht⟩
  by_cases hp : (i : Int) < a.length
  · have hd : decide ((i : Int) < a.length) = true := decide_eq_true hp
    obtain ⟨x, hx⟩ : ∃ x, a[i]? = some x := ⟨_, List.getElem?_eq_getElem (by omega)⟩
    obtain ⟨y, hy⟩ : ∃ x, b[i]? = some x := ⟨_, List.getElem?_eq_getElem (by omega)⟩
    have hw := i64_ok (n := (i : Int) + 1) (by omega)
    have hne : x ≠ y → decide (a = b) = false := fun h => decide_eq_false fun e => h (by subst e; rw [hx] at hy; exact Option.some.inj hy)
    have heq : x = y → a.take (i + 1) = b.take (i + 1) := fun h => by rw [take_snoc hx, take_snoc hy, ht, h]
    simp only [hd, List.getElem?_map, hx, go_sem, Int.reduceNegSucc, Nat.reduceAdd, Nat.reduceSub, Nat.reduceMul, Nat.reduceEqDiff, Nat.reduceLeDiff, Nat.reduceLT, Nat.reduceBEq, Nat.reduceBNe, reduceIte, reduceCtorEq, Int.reduceToNat, Int.reduceAdd, Int.reduceSub, Int.reduceMul, Int.reduceNeg, Int.reduceLT, Int.reduceLE, Int.reduceEq, Int.reduceNe, posts, pcells, ints, ic, big, frac]
    refine DrawP_of 9 (by decide +kernel) ?_
    simp only [hd, List.getElem?_map, hx, hy, go_sem, Int.reduceNegSucc, Nat.reduceAdd, Nat.reduceSub, Nat.reduceMul, Nat.reduceEqDiff, Nat.reduceLeDiff, Nat.reduceLT, Nat.reduceBEq, Nat.reduceBNe, reduceIte, reduceCtorEq, Int.reduceToNat, Int.reduceAdd, Int.reduceSub, Int.reduceMul, Int.reduceNeg, Int.reduceLT, Int.reduceLE, Int.reduceEq, Int.reduceNe, posts, pcells, ints, ic, big, frac]
    refine Two_of (fun d1 => ?_) (fun d1 => ?_)
    · simp only [Bool.and_eq_true, decide_eq_true_eq] at d1
      have e : x = y := by
        cases x; cases y
        simpa using d1
      simp only [go_sem, Int.reduceNegSucc, Nat.reduceAdd, Nat.reduceSub, Nat.reduceMul, Nat.reduceEqDiff, Nat.reduceLeDiff, Nat.reduceLT, Nat.reduceBEq, Nat.reduceBNe, reduceIte, reduceCtorEq, Int.reduceToNat, Int.reduceAdd, Int.reduceSub, Int.reduceMul, Int.reduceNeg, Int.reduceLT, Int.reduceLE, Int.reduceEq, Int.reduceNe, posts, pcells, ints, ic, big, frac]
      refine RoundP_of (i + 1) ?_ (by omega) ⟨by omega, heq e⟩
      simp only [hw, Int.natCast_add, go_sem, Int.reduceNegSucc, Nat.reduceAdd, Nat.reduceSub, Nat.reduceMul, Nat.reduceEqDiff, Nat.reduceLeDiff, Nat.reduceLT, Nat.reduceBEq, Nat.reduceBNe, reduceIte, reduceCtorEq, Int.reduceToNat, Int.reduceAdd, Int.reduceSub, Int.reduceMul, Int.reduceNeg, Int.reduceLT, Int.reduceLE, Int.reduceEq, Int.reduceNe, posts, pcells, ints, ic, big, frac]
    · have e : x ≠ y := fun e => by
        subst e
        simp at d1
      rw [hne e]
      simp only [go_sem, Int.reduceNegSucc, Nat.reduceAdd, Nat.reduceSub, Nat.reduceMul, Nat.reduceEqDiff, Nat.reduceLeDiff, Nat.reduceLT, Nat.reduceBEq, Nat.reduceBNe, reduceIte, reduceCtorEq, Int.reduceToNat, Int.reduceAdd, Int.reduceSub, Int.reduceMul, Int.reduceNeg, Int.reduceLT, Int.reduceLE, Int.reduceEq, Int.reduceNe, posts, pcells, ints, ic, big, frac]
  · have hd : decide ((i : Int) < a.length) = false := decide_eq_false hp
    have : a = b := by
      have h1 := List.take_of_length_le (l := a) (i := i) (by omega)
      have h2 := List.take_of_length_le (l := b) (i := i) (by omega)
      rw [← h1, ht, h2]
    rw [decide_eq_true this]
    simp only [hd, go_sem, Int.reduceNegSucc, Nat.reduceAdd, Nat.reduceSub, Nat.reduceMul, Nat.reduceEqDiff, Nat.reduceLeDiff, Nat.reduceLT, Nat.reduceBEq, Nat.reduceBNe, reduceIte, reduceCtorEq, Int.reduceToNat, Int.reduceAdd, Int.reduceSub, Int.reduceMul, Int.reduceNeg, Int.reduceLT, Int.reduceLE, Int.reduceEq, Int.reduceNe, posts, pcells, ints, ic, big, frac]
def fewA (n : Int) : Bool := decide (n ≤ 40) || (decide (497 < n) && decide (n < 503))
set_option maxRecDepth 100000 in
theorem t_few (a : List Pst) : Ctr G.P 9 [posts a] (· = .bool (fewA a.length)) := by
  refine ctr_go good _ _ [.tmp 2] Try.func9 rfl rfl (by decide +kernel) rfl ?_
  simp only [go_sem, Int.reduceNegSucc, Nat.reduceAdd, Nat.reduceSub, Nat.reduceMul, Nat.reduceEqDiff, Nat.reduceLeDiff, Nat.reduceLT, Nat.reduceBEq, Nat.reduceBNe, reduceIte, reduceCtorEq, Int.reduceToNat, Int.reduceAdd, Int.reduceSub, Int.reduceMul, Int.reduceNeg, Int.reduceLT, Int.reduceLE, Int.reduceEq, Int.reduceNe, posts, pcells, ints, ic, big, frac]
  refine Two_of (fun d1 => ?_) (fun d1 => ?_)
  · rw [fewA, d1]
    simp only [d1, go_sem, Int.reduceNegSucc, Nat.reduceAdd, Nat.reduceSub, Nat.reduceMul, Nat.reduceEqDiff, Nat.reduceLeDiff, Nat.reduceLT, Nat.reduceBEq, Nat.reduceBNe, reduceIte, reduceCtorEq, Int.reduceToNat, Int.reduceAdd, Int.reduceSub, Int.reduceMul, Int.reduceNeg, Int.reduceLT, Int.reduceLE, Int.reduceEq, Int.reduceNe, posts, pcells, ints, ic, big, frac]
  · rw [fewA, d1]
    simp only [d1, go_sem, Int.reduceNegSucc, Nat.reduceAdd, Nat.reduceSub, Nat.reduceMul, Nat.reduceEqDiff, Nat.reduceLeDiff, Nat.reduceLT, Nat.reduceBEq, Nat.reduceBNe, reduceIte, reduceCtorEq, Int.reduceToNat, Int.reduceAdd, Int.reduceSub, Int.reduceMul, Int.reduceNeg, Int.reduceLT, Int.reduceLE, Int.reduceEq, Int.reduceNe, posts, pcells, ints, ic, big, frac]
    refine Two_of (fun d2 => ?_) (fun d2 => ?_)
    · simp only [d1, d2, go_sem, Int.reduceNegSucc, Nat.reduceAdd, Nat.reduceSub, Nat.reduceMul, Nat.reduceEqDiff, Nat.reduceLeDiff, Nat.reduceLT, Nat.reduceBEq, Nat.reduceBNe, reduceIte, reduceCtorEq, Int.reduceToNat, Int.reduceAdd, Int.reduceSub, Int.reduceMul, Int.reduceNeg, Int.reduceLT, Int.reduceLE, Int.reduceEq, Int.reduceNe, posts, pcells, ints, ic, big, frac]
    · simp only [d1, d2, go_sem, Int.reduceNegSucc, Nat.reduceAdd, Nat.reduceSub, Nat.reduceMul, Nat.reduceEqDiff, Nat.reduceLeDiff, Nat.reduceLT, Nat.reduceBEq, Nat.reduceBNe, reduceIte, reduceCtorEq, Int.reduceToNat, Int.reduceAdd, Int.reduceSub, Int.reduceMul, Int.reduceNeg, Int.reduceLT, Int.reduceLE, Int.reduceEq, Int.reduceNe, posts, pcells, ints, ic, big, frac]
set_option maxRecDepth 100000 in
theorem t_fewf (s t : Int) (l m : List Int) (n : Int) : Ctr G.P 8 [.agg [.int s, ints l, .int t, ints m], .int n] (· = .bool (decide ((l.length : Int) ≤ n) && decide ((m.length : Int) ≤ n))) := by
  refine ctr_go good _ _ [.tmp 4] Try.func8 rfl rfl (by decide +kernel) rfl ?_
  simp only [go_sem, Int.reduceNegSucc, Nat.reduceAdd, Nat.reduceSub, Nat.reduceMul, Nat.reduceEqDiff, Nat.reduceLeDiff, Nat.reduceLT, Nat.reduceBEq, Nat.reduceBNe, reduceIte, reduceCtorEq, Int.reduceToNat, Int.reduceAdd, Int.reduceSub, Int.reduceMul, Int.reduceNeg, Int.reduceLT, Int.reduceLE, Int.reduceEq, Int.reduceNe, posts, pcells, ints, ic, big, frac]
  refine Two_of (fun d1 => ?_) (fun d1 => ?_)
  · simp only [d1, go_sem, Int.reduceNegSucc, Nat.reduceAdd, Nat.reduceSub, Nat.reduceMul, Nat.reduceEqDiff, Nat.reduceLeDiff, Nat.reduceLT, Nat.reduceBEq, Nat.reduceBNe, reduceIte, reduceCtorEq, Int.reduceToNat, Int.reduceAdd, Int.reduceSub, Int.reduceMul, Int.reduceNeg, Int.reduceLT, Int.reduceLE, Int.reduceEq, Int.reduceNe, posts, pcells, ints, ic, big, frac]
  · simp only [d1, go_sem, Int.reduceNegSucc, Nat.reduceAdd, Nat.reduceSub, Nat.reduceMul, Nat.reduceEqDiff, Nat.reduceLeDiff, Nat.reduceLT, Nat.reduceBEq, Nat.reduceBNe, reduceIte, reduceCtorEq, Int.reduceToNat, Int.reduceAdd, Int.reduceSub, Int.reduceMul, Int.reduceNeg, Int.reduceLT, Int.reduceLE, Int.reduceEq, Int.reduceNe, posts, pcells, ints, ic, big, frac]
set_option maxRecDepth 100000 in
theorem t_small39 : Ctr G.P 7 [] (· = .bool true) := by
  have c1 := t_off 1999 100 (by decide) (by decide) (by decide)
  have c2 := t_off (-3) 2 (by decide) (by decide) (by decide)
  have c3 := t_intf 700 (by decide)
  have p1 := t_ppost [] 2 7 1 19 (by simp)
  rw [show postF [] 2 7 1 19 = ([⟨2, 7, 19, 1⟩], 0) by decide +kernel] at p1
  have p2 := t_ppost [⟨2, 7, 19, 1⟩] 2 7 1 19 (by simp)
  rw [show postF [⟨2, 7, 19, 1⟩] 2 7 1 19 = ([⟨2, 7, 19, 1⟩], 0) by decide +kernel] at p2
  have p3 := t_ppost [⟨2, 7, 19, 1⟩] 2 7 3 12 (by simp)
  rw [show postF [⟨2, 7, 19, 1⟩] 2 7 3 12 = ([⟨2, 7, 19, 1⟩, ⟨2, 7, -7, 3⟩], 0) by decide +kernel] at p3
  have p4 := t_ppost [⟨2, 7, 19, 1⟩, ⟨2, 7, -7, 3⟩] 2 7 3 15 (by simp)
  rw [show postF [⟨2, 7, 19, 1⟩, ⟨2, 7, -7, 3⟩] 2 7 3 15 = ([], 5) by decide +kernel] at p4
  have a1 := t_pcents (Rat.divInt 1999 100) (-1) (by decide +kernel) (by decide +kernel)
  rw [show centsR (Rat.divInt 1999 100) (-1) = 19 by decide +kernel] at a1
  have a2 := t_pcents (Rat.divInt (-3) 2) (-1) (by decide +kernel) (by decide +kernel)
  rw [show centsR (Rat.divInt (-3) 2) (-1) = 0 by decide +kernel] at a2
  have a3 := t_pcents (Rat.divInt 700 1) 500 (by decide +kernel) (by decide +kernel)
  rw [show centsR (Rat.divInt 700 1) 500 = 500 by decide +kernel] at a3
  have s1 := t_psame [⟨2, 7, 19, 1⟩] [⟨2, 7, 19, 1⟩] (by simp)
  rw [decide_eq_true rfl] at s1
  have s2 := t_psame [⟨2, 7, 19, 1⟩, ⟨2, 7, -7, 3⟩] [⟨2, 7, 19, 1⟩, ⟨2, 7, -7, 3⟩] (by simp)
  rw [decide_eq_true rfl] at s2
  have b1 := t_balance [⟨2, 7, 19, 1⟩, ⟨2, 7, -7, 3⟩] 2 7 (by simp)
  rw [show balanceF [⟨2, 7, 19, 1⟩, ⟨2, 7, -7, 3⟩] 2 7 = 12 by decide +kernel] at b1
  have b2 := t_bright [⟨2, 7, 19, 1⟩, ⟨2, 7, -7, 3⟩] (by simp)
  rw [show rightA [⟨2, 7, 19, 1⟩, ⟨2, 7, -7, 3⟩] = true by decide +kernel] at b2
  simp only [posts, pcells, List.map_cons, List.map_nil, frac] at c1 c2 c3 p1 p2 p3 p4 a1 a2 a3 s1 s2 b1 b2
  refine ctr_go good _ _ [.tmp 0] Try.func7 rfl rfl (by decide +kernel) rfl ?_
  simp only [go_sem, Int.reduceNegSucc, Nat.reduceAdd, Nat.reduceSub, Nat.reduceMul, Nat.reduceEqDiff, Nat.reduceLeDiff, Nat.reduceLT, Nat.reduceBEq, Nat.reduceBNe, reduceIte, reduceCtorEq, Int.reduceToNat, Int.reduceAdd, Int.reduceSub, Int.reduceMul, Int.reduceNeg, Int.reduceLT, Int.reduceLE, Int.reduceEq, Int.reduceNe, posts, pcells, ints, ic, big, frac]
  refine CallP_eq c1 (by decide) ?_
  simp only [go_sem, Int.reduceNegSucc, Nat.reduceAdd, Nat.reduceSub, Nat.reduceMul, Nat.reduceEqDiff, Nat.reduceLeDiff, Nat.reduceLT, Nat.reduceBEq, Nat.reduceBNe, reduceIte, reduceCtorEq, Int.reduceToNat, Int.reduceAdd, Int.reduceSub, Int.reduceMul, Int.reduceNeg, Int.reduceLT, Int.reduceLE, Int.reduceEq, Int.reduceNe, posts, pcells, ints, ic, big, frac]
  refine CallP_eq c2 (by decide) ?_
  simp only [go_sem, Int.reduceNegSucc, Nat.reduceAdd, Nat.reduceSub, Nat.reduceMul, Nat.reduceEqDiff, Nat.reduceLeDiff, Nat.reduceLT, Nat.reduceBEq, Nat.reduceBNe, reduceIte, reduceCtorEq, Int.reduceToNat, Int.reduceAdd, Int.reduceSub, Int.reduceMul, Int.reduceNeg, Int.reduceLT, Int.reduceLE, Int.reduceEq, Int.reduceNe, posts, pcells, ints, ic, big, frac]
  refine CallP_eq p1 (by decide) ?_
  simp only [go_sem, Int.reduceNegSucc, Nat.reduceAdd, Nat.reduceSub, Nat.reduceMul, Nat.reduceEqDiff, Nat.reduceLeDiff, Nat.reduceLT, Nat.reduceBEq, Nat.reduceBNe, reduceIte, reduceCtorEq, Int.reduceToNat, Int.reduceAdd, Int.reduceSub, Int.reduceMul, Int.reduceNeg, Int.reduceLT, Int.reduceLE, Int.reduceEq, Int.reduceNe, posts, pcells, ints, ic, big, frac]
  refine CallP_eq p2 (by decide) ?_
  simp only [go_sem, Int.reduceNegSucc, Nat.reduceAdd, Nat.reduceSub, Nat.reduceMul, Nat.reduceEqDiff, Nat.reduceLeDiff, Nat.reduceLT, Nat.reduceBEq, Nat.reduceBNe, reduceIte, reduceCtorEq, Int.reduceToNat, Int.reduceAdd, Int.reduceSub, Int.reduceMul, Int.reduceNeg, Int.reduceLT, Int.reduceLE, Int.reduceEq, Int.reduceNe, posts, pcells, ints, ic, big, frac]
  refine CallP_eq p3 (by decide) ?_
  simp only [go_sem, Int.reduceNegSucc, Nat.reduceAdd, Nat.reduceSub, Nat.reduceMul, Nat.reduceEqDiff, Nat.reduceLeDiff, Nat.reduceLT, Nat.reduceBEq, Nat.reduceBNe, reduceIte, reduceCtorEq, Int.reduceToNat, Int.reduceAdd, Int.reduceSub, Int.reduceMul, Int.reduceNeg, Int.reduceLT, Int.reduceLE, Int.reduceEq, Int.reduceNe, posts, pcells, ints, ic, big, frac]
  refine CallP_eq p4 (by decide) ?_
  simp only [go_sem, Int.reduceNegSucc, Nat.reduceAdd, Nat.reduceSub, Nat.reduceMul, Nat.reduceEqDiff, Nat.reduceLeDiff, Nat.reduceLT, Nat.reduceBEq, Nat.reduceBNe, reduceIte, reduceCtorEq, Int.reduceToNat, Int.reduceAdd, Int.reduceSub, Int.reduceMul, Int.reduceNeg, Int.reduceLT, Int.reduceLE, Int.reduceEq, Int.reduceNe, posts, pcells, ints, ic, big, frac]
  refine CallP_eq a1 (by decide) ?_
  simp only [go_sem, Int.reduceNegSucc, Nat.reduceAdd, Nat.reduceSub, Nat.reduceMul, Nat.reduceEqDiff, Nat.reduceLeDiff, Nat.reduceLT, Nat.reduceBEq, Nat.reduceBNe, reduceIte, reduceCtorEq, Int.reduceToNat, Int.reduceAdd, Int.reduceSub, Int.reduceMul, Int.reduceNeg, Int.reduceLT, Int.reduceLE, Int.reduceEq, Int.reduceNe, posts, pcells, ints, ic, big, frac]
  refine CallP_eq a2 (by decide) ?_
  simp only [go_sem, Int.reduceNegSucc, Nat.reduceAdd, Nat.reduceSub, Nat.reduceMul, Nat.reduceEqDiff, Nat.reduceLeDiff, Nat.reduceLT, Nat.reduceBEq, Nat.reduceBNe, reduceIte, reduceCtorEq, Int.reduceToNat, Int.reduceAdd, Int.reduceSub, Int.reduceMul, Int.reduceNeg, Int.reduceLT, Int.reduceLE, Int.reduceEq, Int.reduceNe, posts, pcells, ints, ic, big, frac]
  refine CallP_eq c3 (by decide) ?_
  simp only [go_sem, Int.reduceNegSucc, Nat.reduceAdd, Nat.reduceSub, Nat.reduceMul, Nat.reduceEqDiff, Nat.reduceLeDiff, Nat.reduceLT, Nat.reduceBEq, Nat.reduceBNe, reduceIte, reduceCtorEq, Int.reduceToNat, Int.reduceAdd, Int.reduceSub, Int.reduceMul, Int.reduceNeg, Int.reduceLT, Int.reduceLE, Int.reduceEq, Int.reduceNe, posts, pcells, ints, ic, big, frac]
  refine CallP_eq a3 (by decide) ?_
  simp only [go_sem, Int.reduceNegSucc, Nat.reduceAdd, Nat.reduceSub, Nat.reduceMul, Nat.reduceEqDiff, Nat.reduceLeDiff, Nat.reduceLT, Nat.reduceBEq, Nat.reduceBNe, reduceIte, reduceCtorEq, Int.reduceToNat, Int.reduceAdd, Int.reduceSub, Int.reduceMul, Int.reduceNeg, Int.reduceLT, Int.reduceLE, Int.reduceEq, Int.reduceNe, posts, pcells, ints, ic, big, frac]
  refine CallP_eq s1 (by decide) ?_
  simp only [go_sem, Int.reduceNegSucc, Nat.reduceAdd, Nat.reduceSub, Nat.reduceMul, Nat.reduceEqDiff, Nat.reduceLeDiff, Nat.reduceLT, Nat.reduceBEq, Nat.reduceBNe, reduceIte, reduceCtorEq, Int.reduceToNat, Int.reduceAdd, Int.reduceSub, Int.reduceMul, Int.reduceNeg, Int.reduceLT, Int.reduceLE, Int.reduceEq, Int.reduceNe, posts, pcells, ints, ic, big, frac]
  refine CallP_eq s2 (by decide) ?_
  simp only [go_sem, Int.reduceNegSucc, Nat.reduceAdd, Nat.reduceSub, Nat.reduceMul, Nat.reduceEqDiff, Nat.reduceLeDiff, Nat.reduceLT, Nat.reduceBEq, Nat.reduceBNe, reduceIte, reduceCtorEq, Int.reduceToNat, Int.reduceAdd, Int.reduceSub, Int.reduceMul, Int.reduceNeg, Int.reduceLT, Int.reduceLE, Int.reduceEq, Int.reduceNe, posts, pcells, ints, ic, big, frac]
  refine CallP_eq b1 (by decide) ?_
  simp only [go_sem, Int.reduceNegSucc, Nat.reduceAdd, Nat.reduceSub, Nat.reduceMul, Nat.reduceEqDiff, Nat.reduceLeDiff, Nat.reduceLT, Nat.reduceBEq, Nat.reduceBNe, reduceIte, reduceCtorEq, Int.reduceToNat, Int.reduceAdd, Int.reduceSub, Int.reduceMul, Int.reduceNeg, Int.reduceLT, Int.reduceLE, Int.reduceEq, Int.reduceNe, posts, pcells, ints, ic, big, frac]
  refine CallP_eq b2 (by decide) ?_
  simp only [go_sem, Int.reduceNegSucc, Nat.reduceAdd, Nat.reduceSub, Nat.reduceMul, Nat.reduceEqDiff, Nat.reduceLeDiff, Nat.reduceLT, Nat.reduceBEq, Nat.reduceBNe, reduceIte, reduceCtorEq, Int.reduceToNat, Int.reduceAdd, Int.reduceSub, Int.reduceMul, Int.reduceNeg, Int.reduceLT, Int.reduceLE, Int.reduceEq, Int.reduceNe, posts, pcells, ints, ic, big, frac]
end Go.Proofs.Ytpnlfkaijdjhlab

namespace Go.Proofs.Ytpnlfkaijdjhlab
set_option linter.all false
open Go.Abs

theorem fewA_le {a : List Pst} (h : fewA a.length = true) : a.length ≤ 1000000 := by
  rw [fewA, Bool.or_eq_true, Bool.and_eq_true, decide_eq_true_eq, decide_eq_true_eq, decide_eq_true_eq] at h
  omega
/-- Both amounts are one number. -/
theorem cents_both (s t : Int) (l m : List Int) (limit : Int) (hl : l.length ≤ 50000) (hm : m.length ≤ 50000) :
    ∃ n : Int, Ctr G.P 13 [.agg [.int s, ints l, .int t, ints m], .int limit] (· = .int n) ∧ Ctr G.P 14 [.agg [.int s, ints l, .int t, ints m], .int limit] (· = .int n) := by
  cases h : fracF s l t m with
  | false => exact ⟨0, t_pcents0 s t l m limit hl hm h, t_cents0 s t l m limit hl hm h⟩
  | true =>
    obtain ⟨r, rfl, rfl, rfl, rfl⟩ := frac_of h
    exact ⟨_, t_pcents r limit hl hm, t_cents r limit hl hm⟩
set_option maxRecDepth 100000 in
set_option maxHeartbeats 1000000 in
theorem w_tells39 (s t : Int) (l m : List Int) (limit : Int) (a : List Pst) (h p v c : Int) :
    Ctr G.P 3 [.agg [.int s, ints l, .int t, ints m], .int limit, posts a, .int h, .int p, .int v, .int c] (· = .bool true) := by
  have hf := t_fewf s t l m 8
  have ha := t_few a
  have hs := t_small39
  simp only [posts] at ha
  by_cases h1 : (decide ((l.length : Int) ≤ 8) && decide ((m.length : Int) ≤ 8)) = true
  case neg =>
    have h1 : (decide ((l.length : Int) ≤ 8) && decide ((m.length : Int) ≤ 8)) = false := by simpa using h1
    rw [h1] at hf
    refine ctr_go good _ _ [.tmp 14] Try.func3 rfl rfl (by decide +kernel) rfl ?_
    simp only [go_sem, Int.reduceNegSucc, Nat.reduceAdd, Nat.reduceSub, Nat.reduceMul, Nat.reduceEqDiff, Nat.reduceLeDiff, Nat.reduceLT, Nat.reduceBEq, Nat.reduceBNe, reduceIte, reduceCtorEq, Int.reduceToNat, Int.reduceAdd, Int.reduceSub, Int.reduceMul, Int.reduceNeg, Int.reduceLT, Int.reduceLE, Int.reduceEq, Int.reduceNe, posts, pcells, ints, ic, big, frac]
    refine CallP_eq hs (by decide) ?_
    simp only [go_sem, Int.reduceNegSucc, Nat.reduceAdd, Nat.reduceSub, Nat.reduceMul, Nat.reduceEqDiff, Nat.reduceLeDiff, Nat.reduceLT, Nat.reduceBEq, Nat.reduceBNe, reduceIte, reduceCtorEq, Int.reduceToNat, Int.reduceAdd, Int.reduceSub, Int.reduceMul, Int.reduceNeg, Int.reduceLT, Int.reduceLE, Int.reduceEq, Int.reduceNe, posts, pcells, ints, ic, big, frac]
    refine CallP_eq hf (by decide) ?_
    simp only [go_sem, Int.reduceNegSucc, Nat.reduceAdd, Nat.reduceSub, Nat.reduceMul, Nat.reduceEqDiff, Nat.reduceLeDiff, Nat.reduceLT, Nat.reduceBEq, Nat.reduceBNe, reduceIte, reduceCtorEq, Int.reduceToNat, Int.reduceAdd, Int.reduceSub, Int.reduceMul, Int.reduceNeg, Int.reduceLT, Int.reduceLE, Int.reduceEq, Int.reduceNe, posts, pcells, ints, ic, big, frac]
  case pos =>
  rw [h1] at hf
  by_cases h2 : fewA a.length = true
  case neg =>
    have h2 : fewA a.length = false := by simpa using h2
    rw [h2] at ha
    refine ctr_go good _ _ [.tmp 14] Try.func3 rfl rfl (by decide +kernel) rfl ?_
    simp only [go_sem, Int.reduceNegSucc, Nat.reduceAdd, Nat.reduceSub, Nat.reduceMul, Nat.reduceEqDiff, Nat.reduceLeDiff, Nat.reduceLT, Nat.reduceBEq, Nat.reduceBNe, reduceIte, reduceCtorEq, Int.reduceToNat, Int.reduceAdd, Int.reduceSub, Int.reduceMul, Int.reduceNeg, Int.reduceLT, Int.reduceLE, Int.reduceEq, Int.reduceNe, posts, pcells, ints, ic, big, frac]
    refine CallP_eq hs (by decide) ?_
    simp only [go_sem, Int.reduceNegSucc, Nat.reduceAdd, Nat.reduceSub, Nat.reduceMul, Nat.reduceEqDiff, Nat.reduceLeDiff, Nat.reduceLT, Nat.reduceBEq, Nat.reduceBNe, reduceIte, reduceCtorEq, Int.reduceToNat, Int.reduceAdd, Int.reduceSub, Int.reduceMul, Int.reduceNeg, Int.reduceLT, Int.reduceLE, Int.reduceEq, Int.reduceNe, posts, pcells, ints, ic, big, frac]
    refine CallP_eq hf (by decide) ?_
    simp only [go_sem, Int.reduceNegSucc, Nat.reduceAdd, Nat.reduceSub, Nat.reduceMul, Nat.reduceEqDiff, Nat.reduceLeDiff, Nat.reduceLT, Nat.reduceBEq, Nat.reduceBNe, reduceIte, reduceCtorEq, Int.reduceToNat, Int.reduceAdd, Int.reduceSub, Int.reduceMul, Int.reduceNeg, Int.reduceLT, Int.reduceLE, Int.reduceEq, Int.reduceNe, posts, pcells, ints, ic, big, frac]
    refine CallP_eq ha (by decide) ?_
    simp only [go_sem, Int.reduceNegSucc, Nat.reduceAdd, Nat.reduceSub, Nat.reduceMul, Nat.reduceEqDiff, Nat.reduceLeDiff, Nat.reduceLT, Nat.reduceBEq, Nat.reduceBNe, reduceIte, reduceCtorEq, Int.reduceToNat, Int.reduceAdd, Int.reduceSub, Int.reduceMul, Int.reduceNeg, Int.reduceLT, Int.reduceLE, Int.reduceEq, Int.reduceNe, posts, pcells, ints, ic, big, frac]
  case pos =>
  rw [h2] at ha
  rw [Bool.and_eq_true, decide_eq_true_eq, decide_eq_true_eq] at h1
  have hl := fewA_le h2
  obtain ⟨n, n1, n2⟩ := cents_both s t l m limit (by omega) (by omega)
  have p1 := t_ppost a h p v c hl
  have p2 := t_rpost a h p v c hl
  have q1 := t_psame (postF a h p v c).1 (postF a h p v c).1 (by
    unfold postF
    repeat' split
    all_goals first | (simp; done) | exact hl | (simp; have := (rt_of (a := a) (by simp_all)).2; omega))
  rw [decide_eq_true rfl] at q1
  have r1 := t_bright a hl
  have r2 := t_rright a hl
  have b1 := t_balance a h p hl
  have b2 := t_rbalance a h p hl
  simp only [posts] at p1 p2 q1 r1 r2 b1 b2
  refine ctr_go good _ _ [.tmp 14] Try.func3 rfl rfl (by decide +kernel) rfl ?_
  simp only [go_sem, Int.reduceNegSucc, Nat.reduceAdd, Nat.reduceSub, Nat.reduceMul, Nat.reduceEqDiff, Nat.reduceLeDiff, Nat.reduceLT, Nat.reduceBEq, Nat.reduceBNe, reduceIte, reduceCtorEq, Int.reduceToNat, Int.reduceAdd, Int.reduceSub, Int.reduceMul, Int.reduceNeg, Int.reduceLT, Int.reduceLE, Int.reduceEq, Int.reduceNe, posts, pcells, ints, ic, big, frac]
  refine CallP_eq hs (by decide) ?_
  simp only [go_sem, Int.reduceNegSucc, Nat.reduceAdd, Nat.reduceSub, Nat.reduceMul, Nat.reduceEqDiff, Nat.reduceLeDiff, Nat.reduceLT, Nat.reduceBEq, Nat.reduceBNe, reduceIte, reduceCtorEq, Int.reduceToNat, Int.reduceAdd, Int.reduceSub, Int.reduceMul, Int.reduceNeg, Int.reduceLT, Int.reduceLE, Int.reduceEq, Int.reduceNe, posts, pcells, ints, ic, big, frac]
  refine CallP_eq hf (by decide) ?_
  simp only [go_sem, Int.reduceNegSucc, Nat.reduceAdd, Nat.reduceSub, Nat.reduceMul, Nat.reduceEqDiff, Nat.reduceLeDiff, Nat.reduceLT, Nat.reduceBEq, Nat.reduceBNe, reduceIte, reduceCtorEq, Int.reduceToNat, Int.reduceAdd, Int.reduceSub, Int.reduceMul, Int.reduceNeg, Int.reduceLT, Int.reduceLE, Int.reduceEq, Int.reduceNe, posts, pcells, ints, ic, big, frac]
  refine CallP_eq ha (by decide) ?_
  simp only [go_sem, Int.reduceNegSucc, Nat.reduceAdd, Nat.reduceSub, Nat.reduceMul, Nat.reduceEqDiff, Nat.reduceLeDiff, Nat.reduceLT, Nat.reduceBEq, Nat.reduceBNe, reduceIte, reduceCtorEq, Int.reduceToNat, Int.reduceAdd, Int.reduceSub, Int.reduceMul, Int.reduceNeg, Int.reduceLT, Int.reduceLE, Int.reduceEq, Int.reduceNe, posts, pcells, ints, ic, big, frac]
  refine CallP_eq p1 (by decide) ?_
  simp only [go_sem, Int.reduceNegSucc, Nat.reduceAdd, Nat.reduceSub, Nat.reduceMul, Nat.reduceEqDiff, Nat.reduceLeDiff, Nat.reduceLT, Nat.reduceBEq, Nat.reduceBNe, reduceIte, reduceCtorEq, Int.reduceToNat, Int.reduceAdd, Int.reduceSub, Int.reduceMul, Int.reduceNeg, Int.reduceLT, Int.reduceLE, Int.reduceEq, Int.reduceNe, posts, pcells, ints, ic, big, frac]
  refine CallP_eq p2 (by decide) ?_
  simp only [go_sem, Int.reduceNegSucc, Nat.reduceAdd, Nat.reduceSub, Nat.reduceMul, Nat.reduceEqDiff, Nat.reduceLeDiff, Nat.reduceLT, Nat.reduceBEq, Nat.reduceBNe, reduceIte, reduceCtorEq, Int.reduceToNat, Int.reduceAdd, Int.reduceSub, Int.reduceMul, Int.reduceNeg, Int.reduceLT, Int.reduceLE, Int.reduceEq, Int.reduceNe, posts, pcells, ints, ic, big, frac]
  refine DrawP_of 39 (by decide +kernel) ?_
  simp only [eq_self, go_sem, Int.reduceNegSucc, Nat.reduceAdd, Nat.reduceSub, Nat.reduceMul, Nat.reduceEqDiff, Nat.reduceLeDiff, Nat.reduceLT, Nat.reduceBEq, Nat.reduceBNe, reduceIte, reduceCtorEq, Int.reduceToNat, Int.reduceAdd, Int.reduceSub, Int.reduceMul, Int.reduceNeg, Int.reduceLT, Int.reduceLE, Int.reduceEq, Int.reduceNe, posts, pcells, ints, ic, big, frac]
  refine CallD_eq q1 (by decide) ?_
  simp only [eq_self, go_sem, Int.reduceNegSucc, Nat.reduceAdd, Nat.reduceSub, Nat.reduceMul, Nat.reduceEqDiff, Nat.reduceLeDiff, Nat.reduceLT, Nat.reduceBEq, Nat.reduceBNe, reduceIte, reduceCtorEq, Int.reduceToNat, Int.reduceAdd, Int.reduceSub, Int.reduceMul, Int.reduceNeg, Int.reduceLT, Int.reduceLE, Int.reduceEq, Int.reduceNe, posts, pcells, ints, ic, big, frac]
  refine CallD_eq n1 (by decide) ?_
  simp only [eq_self, go_sem, Int.reduceNegSucc, Nat.reduceAdd, Nat.reduceSub, Nat.reduceMul, Nat.reduceEqDiff, Nat.reduceLeDiff, Nat.reduceLT, Nat.reduceBEq, Nat.reduceBNe, reduceIte, reduceCtorEq, Int.reduceToNat, Int.reduceAdd, Int.reduceSub, Int.reduceMul, Int.reduceNeg, Int.reduceLT, Int.reduceLE, Int.reduceEq, Int.reduceNe, posts, pcells, ints, ic, big, frac]
  refine CallD_eq n2 (by decide) ?_
  simp only [eq_self, go_sem, Int.reduceNegSucc, Nat.reduceAdd, Nat.reduceSub, Nat.reduceMul, Nat.reduceEqDiff, Nat.reduceLeDiff, Nat.reduceLT, Nat.reduceBEq, Nat.reduceBNe, reduceIte, reduceCtorEq, Int.reduceToNat, Int.reduceAdd, Int.reduceSub, Int.reduceMul, Int.reduceNeg, Int.reduceLT, Int.reduceLE, Int.reduceEq, Int.reduceNe, posts, pcells, ints, ic, big, frac]
  refine CallD_eq r1 (by decide) ?_
  simp only [eq_self, go_sem, Int.reduceNegSucc, Nat.reduceAdd, Nat.reduceSub, Nat.reduceMul, Nat.reduceEqDiff, Nat.reduceLeDiff, Nat.reduceLT, Nat.reduceBEq, Nat.reduceBNe, reduceIte, reduceCtorEq, Int.reduceToNat, Int.reduceAdd, Int.reduceSub, Int.reduceMul, Int.reduceNeg, Int.reduceLT, Int.reduceLE, Int.reduceEq, Int.reduceNe, posts, pcells, ints, ic, big, frac]
  refine CallD_eq r2 (by decide) ?_
  simp only [eq_self, go_sem, Int.reduceNegSucc, Nat.reduceAdd, Nat.reduceSub, Nat.reduceMul, Nat.reduceEqDiff, Nat.reduceLeDiff, Nat.reduceLT, Nat.reduceBEq, Nat.reduceBNe, reduceIte, reduceCtorEq, Int.reduceToNat, Int.reduceAdd, Int.reduceSub, Int.reduceMul, Int.reduceNeg, Int.reduceLT, Int.reduceLE, Int.reduceEq, Int.reduceNe, posts, pcells, ints, ic, big, frac]
  refine CallD_eq b1 (by decide) ?_
  simp only [eq_self, go_sem, Int.reduceNegSucc, Nat.reduceAdd, Nat.reduceSub, Nat.reduceMul, Nat.reduceEqDiff, Nat.reduceLeDiff, Nat.reduceLT, Nat.reduceBEq, Nat.reduceBNe, reduceIte, reduceCtorEq, Int.reduceToNat, Int.reduceAdd, Int.reduceSub, Int.reduceMul, Int.reduceNeg, Int.reduceLT, Int.reduceLE, Int.reduceEq, Int.reduceNe, posts, pcells, ints, ic, big, frac]
  refine CallD_eq b2 (by decide) ?_
  simp only [eq_self, go_sem, Int.reduceNegSucc, Nat.reduceAdd, Nat.reduceSub, Nat.reduceMul, Nat.reduceEqDiff, Nat.reduceLeDiff, Nat.reduceLT, Nat.reduceBEq, Nat.reduceBNe, reduceIte, reduceCtorEq, Int.reduceToNat, Int.reduceAdd, Int.reduceSub, Int.reduceMul, Int.reduceNeg, Int.reduceLT, Int.reduceLE, Int.reduceEq, Int.reduceNe, posts, pcells, ints, ic, big, frac]
end Go.Proofs.Ytpnlfkaijdjhlab
