/- A part of the proof: what functions of the program do, and the layer under it. No further condition. -/
import Derived.Test.YtpnlfkaijdjhlabKX12
import Derived.Test.YtpnlfkaijdjhlabKX19
namespace Go.Proofs.Ytpnlfkaijdjhlab
set_option linter.all false
open Go.Abs

theorem pcells_eq {x y : Pst} : pcells x = pcells y ↔ x = y := by
  cases x; cases y
  simp [pcells]
set_option maxRecDepth 100000 in
theorem t_psame (a b : List Pst) (hl : a.length ≤ 1000000) : Ctr G.P 12 [posts a, posts b] (· = .bool (decide (a = b))) := by
  by_cases hn : (a.length : Int) = b.length
  case neg =>
    have d0 : decide ((a.length : Int) = b.length) = false := decide_eq_false hn
    rw [decide_eq_false (fun e : a = b => hn (by rw [e]))]
    refine ctr_go good _ _ [.tmp 4] Try.func12 rfl rfl (by decide +kernel) rfl ?_
    simp only [d0, go_sem, Int.reduceNegSucc, Nat.reduceAdd, Nat.reduceSub, Nat.reduceMul, Nat.reduceEqDiff, Nat.reduceLeDiff, Nat.reduceLT, Nat.reduceBEq, Nat.reduceBNe, reduceIte, reduceCtorEq, Int.reduceToNat, Int.reduceAdd, Int.reduceSub, Int.reduceMul, Int.reduceNeg, Int.reduceLT, Int.reduceLE, Int.reduceEq, Int.reduceNe, posts, pcells, ints, ic, big, frac]
  case pos =>
  have d0 : decide ((a.length : Int) = b.length) = true := decide_eq_true hn
  refine ctr_go good _ _ [.tmp 4] Try.func12 rfl rfl (by decide +kernel) rfl ?_
  simp only [d0, go_sem, Int.reduceNegSucc, Nat.reduceAdd, Nat.reduceSub, Nat.reduceMul, Nat.reduceEqDiff, Nat.reduceLeDiff, Nat.reduceLT, Nat.reduceBEq, Nat.reduceBNe, reduceIte, reduceCtorEq, Int.reduceToNat, Int.reduceAdd, Int.reduceSub, Int.reduceMul, Int.reduceNeg, Int.reduceLT, Int.reduceLE, Int.reduceEq, Int.reduceNe, posts, pcells, ints, ic, big, frac]
  refine LoopP_of [0, 1, 5] [] (fun i : Nat => ⟨[(0, .im (.sl (a.map pcells))), (1, .im (.sl (b.map pcells))), (5, .im (.int i))], [], []⟩)
    (fun i => i ≤ a.length ∧ a.take i = b.take i) (fun i => a.length - i) 0 ?_ ⟨Nat.zero_le _, by simp⟩ ?_
  · simp only [Int.natCast_zero, go_sem, Int.reduceNegSucc, Nat.reduceAdd, Nat.reduceSub, Nat.reduceMul, Nat.reduceEqDiff, Nat.reduceLeDiff, Nat.reduceLT, Nat.reduceBEq, Nat.reduceBNe, reduceIte, reduceCtorEq, Int.reduceToNat, Int.reduceAdd, Int.reduceSub, Int.reduceMul, Int.reduceNeg, Int.reduceLT, Int.reduceLE, Int.reduceEq, Int.reduceNe, posts, pcells, ints, ic, big, frac]
  intro i ⟨hi, ht⟩
  by_cases hp : (i : Int) < a.length
  · have hd : decide ((i : Int) < a.length) = true := decide_eq_true hp
    obtain ⟨x, hx⟩ : ∃ x, a[i]? = some x := ⟨_, List.getElem?_eq_getElem (by omega)⟩
    obtain ⟨y, hy⟩ : ∃ x, b[i]? = some x := ⟨_, List.getElem?_eq_getElem (by omega)⟩
    have hw := i64_ok (n := (i : Int) + 1) (by omega)
    have hne : x ≠ y → decide (a = b) = false := fun h => decide_eq_false fun e => h (by subst e; rw [hx] at hy; exact Option.some.inj hy)
    have heq : x = y → a.take (i + 1) = b.take (i + 1) := fun h => by rw [take_snoc hx, take_snoc hy, ht, h]
    simp only [hd, List.getElem?_map, hx, go_sem, Int.reduceNegSucc, Nat.reduceAdd, Nat.reduceSub, Nat.reduceMul, Nat.reduceEqDiff, Nat.reduceLeDiff, Nat.reduceLT, Nat.reduceBEq, Nat.reduceBNe, reduceIte, reduceCtorEq, Int.reduceToNat, Int.reduceAdd, Int.reduceSub, Int.reduceMul, Int.reduceNeg, Int.reduceLT, Int.reduceLE, Int.reduceEq, Int.reduceNe, posts, pcells, ints, ic, big, frac]
    refine DrawP_of 9 (by decide +kernel) ?_
    simp only [hd, List.getElem?_map, hx, hy, go_sem, Int.reduceNegSucc, Nat.reduceAdd, Nat.reduceSub, Nat.reduceMul, Nat.reduceEqDiff, Nat.reduceLeDiff, Nat.reduceLT, Nat.reduceBEq, Nat.reduceBNe, reduceIte, reduceCtorEq, Int.reduceToNat, Int.reduceAdd, Int.reduceSub, Int.reduceMul, Int.reduceNeg, Int.reduceLT, Int.reduceLE, Int.reduceEq, Int.reduceNe, posts, pcells, ints, ic, big, frac]
    refine Two_of (fun d1 => ?_) (fun d1 => ?_)
    · simp only [Bool.and_eq_true, decide_eq_true_eq] at d1
      have e : x = y := by
        cases x; cases y
        simpa using d1
      simp only [go_sem, Int.reduceNegSucc, Nat.reduceAdd, Nat.reduceSub, Nat.reduceMul, Nat.reduceEqDiff, Nat.reduceLeDiff, Nat.reduceLT, Nat.reduceBEq, Nat.reduceBNe, reduceIte, reduceCtorEq, Int.reduceToNat, Int.reduceAdd, Int.reduceSub, Int.reduceMul, Int.reduceNeg, Int.reduceLT, Int.reduceLE, Int.reduceEq, Int.reduceNe, posts, pcells, ints, ic, big, frac]
      refine RoundP_of (i + 1) ?_ (by omega) ⟨by omega, heq e⟩
      simp only [hw, Int.natCast_add, go_sem, Int.reduceNegSucc, Nat.reduceAdd, Nat.reduceSub, Nat.reduceMul, Nat.reduceEqDiff, Nat.reduceLeDiff, Nat.reduceLT, Nat.reduceBEq, Nat.reduceBNe, reduceIte, reduceCtorEq, Int.reduceToNat, Int.reduceAdd, Int.reduceSub, Int.reduceMul, Int.reduceNeg, Int.reduceLT, Int.reduceLE, Int.reduceEq, Int.reduceNe, posts, pcells, ints, ic, big, frac]
    · have e : x ≠ y := fun e => by
        subst e
        simp at d1
      rw [hne e]
      simp only [go_sem, Int.reduceNegSucc, Nat.reduceAdd, Nat.reduceSub, Nat.reduceMul, Nat.reduceEqDiff, Nat.reduceLeDiff, Nat.reduceLT, Nat.reduceBEq, Nat.reduceBNe, reduceIte, reduceCtorEq, Int.reduceToNat, Int.reduceAdd, Int.reduceSub, Int.reduceMul, Int.reduceNeg, Int.reduceLT, Int.reduceLE, Int.reduceEq, Int.reduceNe, posts, pcells, ints, ic, big, frac]
  · have hd : decide ((i : Int) < a.length) = false := decide_eq_false hp
    have : a = b := by
      have h1 := List.take_of_length_le (l := a) (i := i) (by omega)
      have h2 := List.take_of_length_le (l := b) (i := i) (by omega)
      rw [← h1, ht, h2]
    rw [decide_eq_true this]
    simp only [hd, go_sem, Int.reduceNegSucc, Nat.reduceAdd, Nat.reduceSub, Nat.reduceMul, Nat.reduceEqDiff, Nat.reduceLeDiff, Nat.reduceLT, Nat.reduceBEq, Nat.reduceBNe, reduceIte, reduceCtorEq, Int.reduceToNat, Int.reduceAdd, Int.reduceSub, Int.reduceMul, Int.reduceNeg, Int.reduceLT, Int.reduceLE, Int.reduceEq, Int.reduceNe, posts, pcells, ints, ic, big, frac]
def fewA (n : Int) : Bool := decide (n ≤ 40) || (decide (497 < n) && decide (n < 503))
set_option maxRecDepth 100000 in
theorem t_few (a : List Pst) : Ctr G.P 9 [posts a] (· = .bool (fewA a.length)) := by
  refine ctr_go good _ _ [.tmp 2] Try.func9 rfl rfl (by decide +kernel) rfl ?_
  simp only [go_sem, Int.reduceNegSucc, Nat.reduceAdd, Nat.reduceSub, Nat.reduceMul, Nat.reduceEqDiff, Nat.reduceLeDiff, Nat.reduceLT, Nat.reduceBEq, Nat.reduceBNe, reduceIte, reduceCtorEq, Int.reduceToNat, Int.reduceAdd, Int.reduceSub, Int.reduceMul, Int.reduceNeg, Int.reduceLT, Int.reduceLE, Int.reduceEq, Int.reduceNe, posts, pcells, ints, ic, big, frac]
  refine Two_of (fun d1 => ?_) (fun d1 => ?_)
  · rw [fewA, d1]
    simp only [d1, go_sem, Int.reduceNegSucc, Nat.reduceAdd, Nat.reduceSub, Nat.reduceMul, Nat.reduceEqDiff, Nat.reduceLeDiff, Nat.reduceLT, Nat.reduceBEq, Nat.reduceBNe, reduceIte, reduceCtorEq, Int.reduceToNat, Int.reduceAdd, Int.reduceSub, Int.reduceMul, Int.reduceNeg, Int.reduceLT, Int.reduceLE, Int.reduceEq, Int.reduceNe, posts, pcells, ints, ic, big, frac]
  · rw [fewA, d1]
    simp only [d1, go_sem, Int.reduceNegSucc, Nat.reduceAdd, Nat.reduceSub, Nat.reduceMul, Nat.reduceEqDiff, Nat.reduceLeDiff, Nat.reduceLT, Nat.reduceBEq, Nat.reduceBNe, reduceIte, reduceCtorEq, Int.reduceToNat, Int.reduceAdd, Int.reduceSub, Int.reduceMul, Int.reduceNeg, Int.reduceLT, Int.reduceLE, Int.reduceEq, Int.reduceNe, posts, pcells, ints, ic, big, frac]
    refine Two_of (fun d2 => ?_) (fun d2 => ?_)
    · simp only [d1, d2, go_sem, Int.reduceNegSucc, Nat.reduceAdd, Nat.reduceSub, Nat.reduceMul, Nat.reduceEqDiff, Nat.reduceLeDiff, Nat.reduceLT, Nat.reduceBEq, Nat.reduceBNe, reduceIte, reduceCtorEq, Int.reduceToNat, Int.reduceAdd, Int.reduceSub, Int.reduceMul, Int.reduceNeg, Int.reduceLT, Int.reduceLE, Int.reduceEq, Int.reduceNe, posts, pcells, ints, ic, big, frac]
    · simp only [d1, d2, go_sem, Int.reduceNegSucc, Nat.reduceAdd, Nat.reduceSub, Nat.reduceMul, Nat.reduceEqDiff, Nat.reduceLeDiff, Nat.reduceLT, Nat.reduceBEq, Nat.reduceBNe, reduceIte, reduceCtorEq, Int.reduceToNat, Int.reduceAdd, Int.reduceSub, Int.reduceMul, Int.reduceNeg, Int.reduceLT, Int.reduceLE, Int.reduceEq, Int.reduceNe, posts, pcells, ints, ic, big, frac]
set_option maxRecDepth 100000 in
theorem t_fewf (s t : Int) (l m : List Int) (n : Int) : Ctr G.P 8 [.agg [.int s, ints l, .int t, ints m], .int n] (· = .bool (decide ((l.length : Int) ≤ n) && decide ((m.length : Int) ≤ n))) := by
  refine ctr_go good _ _ [.tmp 4] Try.func8 rfl rfl (by decide +kernel) rfl ?_
  simp only [go_sem, Int.reduceNegSucc, Nat.reduceAdd, Nat.reduceSub, Nat.reduceMul, Nat.reduceEqDiff, Nat.reduceLeDiff, Nat.reduceLT, Nat.reduceBEq, Nat.reduceBNe, reduceIte, reduceCtorEq, Int.reduceToNat, Int.reduceAdd, Int.reduceSub, Int.reduceMul, Int.reduceNeg, Int.reduceLT, Int.reduceLE, Int.reduceEq, Int.reduceNe, posts, pcells, ints, ic, big, frac]
  refine Two_of (fun d1 => ?_) (fun d1 => ?_)
  · simp only [d1, go_sem, Int.reduceNegSucc, Nat.reduceAdd, Nat.reduceSub, Nat.reduceMul, Nat.reduceEqDiff, Nat.reduceLeDiff, Nat.reduceLT, Nat.reduceBEq, Nat.reduceBNe, reduceIte, reduceCtorEq, Int.reduceToNat, Int.reduceAdd, Int.reduceSub, Int.reduceMul, Int.reduceNeg, Int.reduceLT, Int.reduceLE, Int.reduceEq, Int.reduceNe, posts, pcells, ints, ic, big, frac]
  · simp only [d1, go_sem, Int.reduceNegSucc, Nat.reduceAdd, Nat.reduceSub, Nat.reduceMul, Nat.reduceEqDiff, Nat.reduceLeDiff, Nat.reduceLT, Nat.reduceBEq, Nat.reduceBNe, reduceIte, reduceCtorEq, Int.reduceToNat, Int.reduceAdd, Int.reduceSub, Int.reduceMul, Int.reduceNeg, Int.reduceLT, Int.reduceLE, Int.reduceEq, Int.reduceNe, posts, pcells, ints, ic, big, frac]
set_option maxRecDepth 100000 in
theorem t_small39 : Ctr G.P 7 [] (· = .bool true) := by
  have c1 := t_off 1999 100 (by decide) (by decide) (by decide)
  have c2 := t_off (-3) 2 (by decide) (by decide) (by decide)
  have c3 := t_intf 700 (by decide)
  have p1 := t_ppost [] 2 7 1 19 (by simp)
  rw [show postF [] 2 7 1 19 = ([⟨2, 7, 19, 1⟩], 0) by decide +kernel] at p1
  have p2 := t_ppost [⟨2, 7, 19, 1⟩] 2 7 1 19 (by simp)
  rw [show postF [⟨2, 7, 19, 1⟩] 2 7 1 19 = ([⟨2, 7, 19, 1⟩], 0) by decide +kernel] at p2
  have p3 := t_ppost [⟨2, 7, 19, 1⟩] 2 7 3 12 (by simp)
  rw [show postF [⟨2, 7, 19, 1⟩] 2 7 3 12 = ([⟨2, 7, 19, 1⟩, ⟨2, 7, -7, 3⟩], 0) by decide +kernel] at p3
  have p4 := t_ppost [⟨2, 7, 19, 1⟩, ⟨2, 7, -7, 3⟩] 2 7 3 15 (by simp)
  rw [show postF [⟨2, 7, 19, 1⟩, ⟨2, 7, -7, 3⟩] 2 7 3 15 = ([], 5) by decide +kernel] at p4
  have a1 := t_pcents (Rat.divInt 1999 100) (-1) (by decide +kernel) (by decide +kernel)
  rw [show centsR (Rat.divInt 1999 100) (-1) = 19 by decide +kernel] at a1
  have a2 := t_pcents (Rat.divInt (-3) 2) (-1) (by decide +kernel) (by decide +kernel)
  rw [show centsR (Rat.divInt (-3) 2) (-1) = 0 by decide +kernel] at a2
  have a3 := t_pcents (Rat.divInt 700 1) 500 (by decide +kernel) (by decide +kernel)
  rw [show centsR (Rat.divInt 700 1) 500 = 500 by decide +kernel] at a3
  have s1 := t_psame [⟨2, 7, 19, 1⟩] [⟨2, 7, 19, 1⟩] (by simp)
  rw [decide_eq_true rfl] at s1
  have s2 := t_psame [⟨2, 7, 19, 1⟩, ⟨2, 7, -7, 3⟩] [⟨2, 7, 19, 1⟩, ⟨2, 7, -7, 3⟩] (by simp)
  rw [decide_eq_true rfl] at s2
  have b1 := t_balance [⟨2, 7, 19, 1⟩, ⟨2, 7, -7, 3⟩] 2 7 (by simp)
  rw [show balanceF [⟨2, 7, 19, 1⟩, ⟨2, 7, -7, 3⟩] 2 7 = 12 by decide +kernel] at b1
  have b2 := t_bright [⟨2, 7, 19, 1⟩, ⟨2, 7, -7, 3⟩] (by simp)
  rw [show rightA [⟨2, 7, 19, 1⟩, ⟨2, 7, -7, 3⟩] = true by decide +kernel] at b2
  simp only [posts, pcells, List.map_cons, List.map_nil, frac] at c1 c2 c3 p1 p2 p3 p4 a1 a2 a3 s1 s2 b1 b2
  refine ctr_go good _ _ [.tmp 0] Try.func7 rfl rfl (by decide +kernel) rfl ?_
  simp only [go_sem, Int.reduceNegSucc, Nat.reduceAdd, Nat.reduceSub, Nat.reduceMul, Nat.reduceEqDiff, Nat.reduceLeDiff, Nat.reduceLT, Nat.reduceBEq, Nat.reduceBNe, reduceIte, reduceCtorEq, Int.reduceToNat, Int.reduceAdd, Int.reduceSub, Int.reduceMul, Int.reduceNeg, Int.reduceLT, Int.reduceLE, Int.reduceEq, Int.reduceNe, posts, pcells, ints, ic, big, frac]
  refine CallP_eq c1 (by decide) ?_
  simp only [go_sem, Int.reduceNegSucc, Nat.reduceAdd, Nat.reduceSub, Nat.reduceMul, Nat.reduceEqDiff, Nat.reduceLeDiff, Nat.reduceLT, Nat.reduceBEq, Nat.reduceBNe, reduceIte, reduceCtorEq, Int.reduceToNat, Int.reduceAdd, Int.reduceSub, Int.reduceMul, Int.reduceNeg, Int.reduceLT, Int.reduceLE, Int.reduceEq, Int.reduceNe, posts, pcells, ints, ic, big, frac]
  refine CallP_eq c2 (by decide) ?_
  simp only [go_sem, Int.reduceNegSucc, Nat.reduceAdd, Nat.reduceSub, Nat.reduceMul, Nat.reduceEqDiff, Nat.reduceLeDiff, Nat.reduceLT, Nat.reduceBEq, Nat.reduceBNe, reduceIte, reduceCtorEq, Int.reduceToNat, Int.reduceAdd, Int.reduceSub, Int.reduceMul, Int.reduceNeg, Int.reduceLT, Int.reduceLE, Int.reduceEq, Int.reduceNe, posts, pcells, ints, ic, big, frac]
  refine CallP_eq p1 (by decide) ?_
  simp only [go_sem, Int.reduceNegSucc, Nat.reduceAdd, Nat.reduceSub, Nat.reduceMul, Nat.reduceEqDiff, Nat.reduceLeDiff, Nat.reduceLT, Nat.reduceBEq, Nat.reduceBNe, reduceIte, reduceCtorEq, Int.reduceToNat, Int.reduceAdd, Int.reduceSub, Int.reduceMul, Int.reduceNeg, Int.reduceLT, Int.reduceLE, Int.reduceEq, Int.reduceNe, posts, pcells, ints, ic, big, frac]
  refine CallP_eq p2 (by decide) ?_
  simp only [go_sem, Int.reduceNegSucc, Nat.reduceAdd, Nat.reduceSub, Nat.reduceMul, Nat.reduceEqDiff, Nat.reduceLeDiff, Nat.reduceLT, Nat.reduceBEq, Nat.reduceBNe, reduceIte, reduceCtorEq, Int.reduceToNat, Int.reduceAdd, Int.reduceSub, Int.reduceMul, Int.reduceNeg, Int.reduceLT, Int.reduceLE, Int.reduceEq, Int.reduceNe, posts, pcells, ints, ic, big, frac]
  refine CallP_eq p3 (by decide) ?_
  simp only [go_sem, Int.reduceNegSucc, Nat.reduceAdd, Nat.reduceSub, Nat.reduceMul, Nat.reduceEqDiff, Nat.reduceLeDiff, Nat.reduceLT, Nat.reduceBEq, Nat.reduceBNe, reduceIte, reduceCtorEq, Int.reduceToNat, Int.reduceAdd, Int.reduceSub, Int.reduceMul, Int.reduceNeg, Int.reduceLT, Int.reduceLE, Int.reduceEq, Int.reduceNe, posts, pcells, ints, ic, big, frac]
  refine CallP_eq p4 (by decide) ?_
  simp only [go_sem, Int.reduceNegSucc, Nat.reduceAdd, Nat.reduceSub, Nat.reduceMul, Nat.reduceEqDiff, Nat.reduceLeDiff, Nat.reduceLT, Nat.reduceBEq, Nat.reduceBNe, reduceIte, reduceCtorEq, Int.reduceToNat, Int.reduceAdd, Int.reduceSub, Int.reduceMul, Int.reduceNeg, Int.reduceLT, Int.reduceLE, Int.reduceEq, Int.reduceNe, posts, pcells, ints, ic, big, frac]
  refine CallP_eq a1 (by decide) ?_
  simp only [go_sem, Int.reduceNegSucc, Nat.reduceAdd, Nat.reduceSub, Nat.reduceMul, Nat.reduceEqDiff, Nat.reduceLeDiff, Nat.reduceLT, Nat.reduceBEq, Nat.reduceBNe, reduceIte, reduceCtorEq, Int.reduceToNat, Int.reduceAdd, Int.reduceSub, Int.reduceMul, Int.reduceNeg, Int.reduceLT, Int.reduceLE, Int.reduceEq, Int.reduceNe, posts, pcells, ints, ic, big, frac]
  refine CallP_eq a2 (by decide) ?_
  simp only [go_sem, Int.reduceNegSucc, Nat.reduceAdd, Nat.reduceSub, Nat.reduceMul, Nat.reduceEqDiff, Nat.reduceLeDiff, Nat.reduceLT, Nat.reduceBEq, Nat.reduceBNe, reduceIte, reduceCtorEq, Int.reduceToNat, Int.reduceAdd, Int.reduceSub, Int.reduceMul, Int.reduceNeg, Int.reduceLT, Int.reduceLE, Int.reduceEq, Int.reduceNe, posts, pcells, ints, ic, big, frac]
  refine CallP_eq c3 (by decide) ?_
  simp only [go_sem, Int.reduceNegSucc, Nat.reduceAdd, Nat.reduceSub, Nat.reduceMul, Nat.reduceEqDiff, Nat.reduceLeDiff, Nat.reduceLT, Nat.reduceBEq, Nat.reduceBNe, reduceIte, reduceCtorEq, Int.reduceToNat, Int.reduceAdd, Int.reduceSub, Int.reduceMul, Int.reduceNeg, Int.reduceLT, Int.reduceLE, Int.reduceEq, Int.reduceNe, posts, pcells, ints, ic, big, frac]
  refine CallP_eq a3 (by decide) ?_
  simp only [go_sem, Int.reduceNegSucc, Nat.reduceAdd, Nat.reduceSub, Nat.reduceMul, Nat.reduceEqDiff, Nat.reduceLeDiff, Nat.reduceLT, Nat.reduceBEq, Nat.reduceBNe, reduceIte, reduceCtorEq, Int.reduceToNat, Int.reduceAdd, Int.reduceSub, Int.reduceMul, Int.reduceNeg, Int.reduceLT, Int.reduceLE, Int.reduceEq, Int.reduceNe, posts, pcells, ints, ic, big, frac]
  refine CallP_eq s1 (by decide) ?_
  simp only [go_sem, Int.reduceNegSucc, Nat.reduceAdd, Nat.reduceSub, Nat.reduceMul, Nat.reduceEqDiff, Nat.reduceLeDiff, Nat.reduceLT, Nat.reduceBEq, Nat.reduceBNe, reduceIte, reduceCtorEq, Int.reduceToNat, Int.reduceAdd, Int.reduceSub, Int.reduceMul, Int.reduceNeg, Int.reduceLT, Int.reduceLE, Int.reduceEq, Int.reduceNe, posts, pcells, ints, ic, big, frac]
  refine CallP_eq s2 (by decide) ?_
  simp only [go_sem, Int.reduceNegSucc, Nat.reduceAdd, Nat.reduceSub, Nat.reduceMul, Nat.reduceEqDiff, Nat.reduceLeDiff, Nat.reduceLT, Nat.reduceBEq, Nat.reduceBNe, reduceIte, reduceCtorEq, Int.reduceToNat, Int.reduceAdd, Int.reduceSub, Int.reduceMul, Int.reduceNeg, Int.reduceLT, Int.reduceLE, Int.reduceEq, Int.reduceNe, posts, pcells, ints, ic, big, frac]
  refine CallP_eq b1 (by decide) ?_
  simp only [go_sem, Int.reduceNegSucc, Nat.reduceAdd, Nat.reduceSub, Nat.reduceMul, Nat.reduceEqDiff, Nat.reduceLeDiff, Nat.reduceLT, Nat.reduceBEq, Nat.reduceBNe, reduceIte, reduceCtorEq, Int.reduceToNat, Int.reduceAdd, Int.reduceSub, Int.reduceMul, Int.reduceNeg, Int.reduceLT, Int.reduceLE, Int.reduceEq, Int.reduceNe, posts, pcells, ints, ic, big, frac]
  refine CallP_eq b2 (by decide) ?_
  simp only [go_sem, Int.reduceNegSucc, Nat.reduceAdd, Nat.reduceSub, Nat.reduceMul, Nat.reduceEqDiff, Nat.reduceLeDiff, Nat.reduceLT, Nat.reduceBEq, Nat.reduceBNe, reduceIte, reduceCtorEq, Int.reduceToNat, Int.reduceAdd, Int.reduceSub, Int.reduceMul, Int.reduceNeg, Int.reduceLT, Int.reduceLE, Int.reduceEq, Int.reduceNe, posts, pcells, ints, ic, big, frac]
end Go.Proofs.Ytpnlfkaijdjhlab

namespace Go.Proofs.Ytpnlfkaijdjhlab
set_option linter.all false
open Go.Abs

theorem fewA_le {a : List Pst} (h : fewA a.length = true) : a.length ≤ 1000000 := by
  rw [fewA, Bool.or_eq_true, Bool.and_eq_true, decide_eq_true_eq, decide_eq_true_eq, decide_eq_true_eq] at h
  omega
/-- Both amounts are one number. -/
theorem cents_both (s t : Int) (l m : List Int) (limit : Int) (hl : l.length ≤ 50000) (hm : m.length ≤ 50000) :
    ∃ n : Int, Ctr G.P 13 [.agg [.int s, ints l, .int t, ints m], .int limit] (· = .int n) ∧ Ctr G.P 14 [.agg [.int s, ints l, .int t, ints m], .int limit] (· = .int n) := by
  cases h : fracF s l t m with
  | false => exact ⟨0, t_pcents0 s t l m limit hl hm h, t_cents0 s t l m limit hl hm h⟩
  | true =>
    obtain ⟨r, rfl, rfl, rfl, rfl⟩ := frac_of h
    exact ⟨_, t_pcents r limit hl hm, t_cents r limit hl hm⟩
set_option maxRecDepth 100000 in
set_option maxHeartbeats 1000000 in
theorem w_tells39 (s t : Int) (l m : List Int) (limit : Int) (a : List Pst) (h p v c : Int) :
    Ctr G.P 3 [.agg [.int s, ints l, .int t, ints m], .int limit, posts a, .int h, .int p, .int v, .int c] (· = .bool true) := by
  have hf := t_fewf s t l m 8
  have ha := t_few a
  have hs := t_small39
  simp only [posts] at ha
  by_cases h1 : (decide ((l.length : Int) ≤ 8) && decide ((m.length : Int) ≤ 8)) = true
  case neg =>
    have h1 : (decide ((l.length : Int) ≤ 8) && decide ((m.length : Int) ≤ 8)) = false := by simpa using h1
    rw [h1] at hf
    refine ctr_go good _ _ [.tmp 14] Try.func3 rfl rfl (by decide +kernel) rfl ?_
    simp only [go_sem, Int.reduceNegSucc, Nat.reduceAdd, Nat.reduceSub, Nat.reduceMul, Nat.reduceEqDiff, Nat.reduceLeDiff, Nat.reduceLT, Nat.reduceBEq, Nat.reduceBNe, reduceIte, reduceCtorEq, Int.reduceToNat, Int.reduceAdd, Int.reduceSub, Int.reduceMul, Int.reduceNeg, Int.reduceLT, Int.reduceLE, Int.reduceEq, Int.reduceNe, posts, pcells, ints, ic, big, frac]
    refine CallP_eq hs (by decide) ?_
    simp only [go_sem, Int.reduceNegSucc, Nat.reduceAdd, Nat.reduceSub, Nat.reduceMul, Nat.reduceEqDiff, Nat.reduceLeDiff, Nat.reduceLT, Nat.reduceBEq, Nat.reduceBNe, reduceIte, reduceCtorEq, Int.reduceToNat, Int.reduceAdd, Int.reduceSub, Int.reduceMul, Int.reduceNeg, Int.reduceLT, Int.reduceLE, Int.reduceEq, Int.reduceNe, posts, pcells, ints, ic, big, frac]
    refine CallP_eq hf (by decide) ?_
    simp only [go_sem, Int.reduceNegSucc, Nat.reduceAdd, Nat.reduceSub, Nat.reduceMul, Nat.reduceEqDiff, Nat.reduceLeDiff, Nat.reduceLT, Nat.reduceBEq, Nat.reduceBNe, reduceIte, reduceCtorEq, Int.reduceToNat, Int.reduceAdd, Int.reduceSub, Int.reduceMul, Int.reduceNeg, Int.reduceLT, Int.reduceLE, Int.reduceEq, Int.reduceNe, posts, pcells, ints, ic, big, frac]
  case pos =>
  rw [h1] at hf
  by_cases h2 : fewA a.length = true
  case neg =>
    have h2 : fewA a.length = false := by simpa using h2
    rw [h2] at ha
    refine ctr_go good _ _ [.tmp 14] Try.func3 rfl rfl (by decide +kernel) rfl ?_
    simp only [go_sem, Int.reduceNegSucc, Nat.reduceAdd, Nat.reduceSub, Nat.reduceMul, Nat.reduceEqDiff, Nat.reduceLeDiff, Nat.reduceLT, Nat.reduceBEq, Nat.reduceBNe, reduceIte, reduceCtorEq, Int.reduceToNat, Int.reduceAdd, Int.reduceSub, Int.reduceMul, Int.reduceNeg, Int.reduceLT, Int.reduceLE, Int.reduceEq, Int.reduceNe, posts, pcells, ints, ic, big, frac]
    refine CallP_eq hs (by decide) ?_
    simp only [go_sem, Int.reduceNegSucc, Nat.reduceAdd, Nat.reduceSub, Nat.reduceMul, Nat.reduceEqDiff, Nat.reduceLeDiff, Nat.reduceLT, Nat.reduceBEq, Nat.reduceBNe, reduceIte, reduceCtorEq, Int.reduceToNat, Int.reduceAdd, Int.reduceSub, Int.reduceMul, Int.reduceNeg, Int.reduceLT, Int.reduceLE, Int.reduceEq, Int.reduceNe, posts, pcells, ints, ic, big, frac]
    refine CallP_eq hf (by decide) ?_
    simp only [go_sem, Int.reduceNegSucc, Nat.reduceAdd, Nat.reduceSub, Nat.reduceMul, Nat.reduceEqDiff, Nat.reduceLeDiff, Nat.reduceLT, Nat.reduceBEq, Nat.reduceBNe, reduceIte, reduceCtorEq, Int.reduceToNat, Int.reduceAdd, Int.reduceSub, Int.reduceMul, Int.reduceNeg, Int.reduceLT, Int.reduceLE, Int.reduceEq, Int.reduceNe, posts, pcells, ints, ic, big, frac]
    refine CallP_eq ha (by decide) ?_
    simp only [go_sem, Int.reduceNegSucc, Nat.reduceAdd, Nat.reduceSub, Nat.reduceMul, Nat.reduceEqDiff, Nat.reduceLeDiff, Nat.reduceLT, Nat.reduceBEq, Nat.reduceBNe, reduceIte, reduceCtorEq, Int.reduceToNat, Int.reduceAdd, Int.reduceSub, Int.reduceMul, Int.reduceNeg, Int.reduceLT, Int.reduceLE, Int.reduceEq, Int.reduceNe, posts, pcells, ints, ic, big, frac]
  case pos =>
  rw [h2] at ha
  rw [Bool.and_eq_true, decide_eq_true_eq, decide_eq_true_eq] at h1
  have hl := fewA_le h2
  obtain ⟨n, n1, n2⟩ := cents_both s t l m limit (by omega) (by omega)
  have p1 := t_ppost a h p v c hl
  have p2 := t_rpost a h p v c hl
  have q1 := t_psame (postF a h p v c).1 (postF a h p v c).1 (by
    unfold postF
    repeat' split
    all_goals first | (simp; done) | exact hl | (simp; have := (rt_of (a := a) (by simp_all)).2; omega))
  rw [decide_eq_true rfl] at q1
  have r1 := t_bright a hl
  have r2 := t_rright a hl
  have b1 := t_balance a h p hl
  have b2 := t_rbalance a h p hl
  simp only [posts] at p1 p2 q1 r1 r2 b1 b2
  refine ctr_go good _ _ [.tmp 14] Try.func3 rfl rfl (by decide +kernel) rfl ?_
  simp only [go_sem, Int.reduceNegSucc, Nat.reduceAdd, Nat.reduceSub, Nat.reduceMul, Nat.reduceEqDiff, Nat.reduceLeDiff, Nat.reduceLT, Nat.reduceBEq, Nat.reduceBNe, reduceIte, reduceCtorEq, Int.reduceToNat, Int.reduceAdd, Int.reduceSub, Int.reduceMul, Int.reduceNeg, Int.reduceLT, Int.reduceLE, Int.reduceEq, Int.reduceNe, posts, pcells, ints, ic, big, frac]
  refine CallP_eq hs (by decide) ?_
  simp only [go_sem, Int.reduceNegSucc, Nat.reduceAdd, Nat.reduceSub, Nat.reduceMul, Nat.reduceEqDiff, Nat.reduceLeDiff, Nat.reduceLT, Nat.reduceBEq, Nat.reduceBNe, reduceIte, reduceCtorEq, Int.reduceToNat, Int.reduceAdd, Int.reduceSub, Int.reduceMul, Int.reduceNeg, Int.reduceLT, Int.reduceLE, Int.reduceEq, Int.reduceNe, posts, pcells, ints, ic, big, frac]
  refine CallP_eq hf (by decide) ?_
  simp only [go_sem, Int.reduceNegSucc, Nat.reduceAdd, Nat.reduceSub, Nat.reduceMul, Nat.reduceEqDiff, Nat.reduceLeDiff, Nat.reduceLT, Nat.reduceBEq, Nat.reduceBNe, reduceIte, reduceCtorEq, Int.reduceToNat, Int.reduceAdd, Int.reduceSub, Int.reduceMul, Int.reduceNeg, Int.reduceLT, Int.reduceLE, Int.reduceEq, Int.reduceNe, posts, pcells, ints, ic, big, frac]
  refine CallP_eq ha (by decide) ?_
  simp only [go_sem, Int.reduceNegSucc, Nat.reduceAdd, Nat.reduceSub, Nat.reduceMul, Nat.reduceEqDiff, Nat.reduceLeDiff, Nat.reduceLT, Nat.reduceBEq, Nat.reduceBNe, reduceIte, reduceCtorEq, Int.reduceToNat, Int.reduceAdd, Int.reduceSub, Int.reduceMul, Int.reduceNeg, Int.reduceLT, Int.reduceLE, Int.reduceEq, Int.reduceNe, posts, pcells, ints, ic, big, frac]
  refine CallP_eq p1 (by decide) ?_
  simp only [go_sem, Int.reduceNegSucc, Nat.reduceAdd, Nat.reduceSub, Nat.reduceMul, Nat.reduceEqDiff, Nat.reduceLeDiff, Nat.reduceLT, Nat.reduceBEq, Nat.reduceBNe, reduceIte, reduceCtorEq, Int.reduceToNat, Int.reduceAdd, Int.reduceSub, Int.reduceMul, Int.reduceNeg, Int.reduceLT, Int.reduceLE, Int.reduceEq, Int.reduceNe, posts, pcells, ints, ic, big, frac]
  refine CallP_eq p2 (by decide) ?_
  simp only [go_sem, Int.reduceNegSucc, Nat.reduceAdd, Nat.reduceSub, Nat.reduceMul, Nat.reduceEqDiff, Nat.reduceLeDiff, Nat.reduceLT, Nat.reduceBEq, Nat.reduceBNe, reduceIte, reduceCtorEq, Int.reduceToNat, Int.reduceAdd, Int.reduceSub, Int.reduceMul, Int.reduceNeg, Int.reduceLT, Int.reduceLE, Int.reduceEq, Int.reduceNe, posts, pcells, ints, ic, big, frac]
  refine DrawP_of 39 (by decide +kernel) ?_
  simp only [eq_self, go_sem, Int.reduceNegSucc, Nat.reduceAdd, Nat.reduceSub, Nat.reduceMul, Nat.reduceEqDiff, Nat.reduceLeDiff, Nat.reduceLT, Nat.reduceBEq, Nat.reduceBNe, reduceIte, reduceCtorEq, Int.reduceToNat, Int.reduceAdd, Int.reduceSub, Int.reduceMul, Int.reduceNeg, Int.reduceLT, Int.reduceLE, Int.reduceEq, Int.reduceNe, posts, pcells, ints, ic, big, frac]
  refine CallD_eq q1 (by decide) ?_
  simp only [eq_self, go_sem, Int.reduceNegSucc, Nat.reduceAdd, Nat.reduceSub, Nat.reduceMul, Nat.reduceEqDiff, Nat.reduceLeDiff, Nat.reduceLT, Nat.reduceBEq, Nat.reduceBNe, reduceIte, reduceCtorEq, Int.reduceToNat, Int.reduceAdd, Int.reduceSub, Int.reduceMul, Int.reduceNeg, Int.reduceLT, Int.reduceLE, Int.reduceEq, Int.reduceNe, posts, pcells, ints, ic, big, frac]
  refine CallD_eq n1 (by decide) ?_
  simp only [eq_self, go_sem, Int.reduceNegSucc, Nat.reduceAdd, Nat.reduceSub, Nat.reduceMul, Nat.reduceEqDiff, Nat.reduceLeDiff, Nat.reduceLT, Nat.reduceBEq, Nat.reduceBNe, reduceIte, reduceCtorEq, Int.reduceToNat, Int.reduceAdd, Int.reduceSub, Int.reduceMul, Int.reduceNeg, Int.reduceLT, Int.reduceLE, Int.reduceEq, Int.reduceNe, posts, pcells, ints, ic, big, frac]
  refine CallD_eq n2 (by decide) ?_
  simp only [eq_self, go_sem, Int.reduceNegSucc, Nat.reduceAdd, Nat.reduceSub, Nat.reduceMul, Nat.reduceEqDiff, Nat.reduceLeDiff, Nat.reduceLT, Nat.reduceBEq, Nat.reduceBNe, reduceIte, reduceCtorEq, Int.reduceToNat, Int.reduceAdd, Int.reduceSub, Int.reduceMul, Int.reduceNeg, Int.reduceLT, Int.reduceLE, Int.reduceEq, Int.reduceNe, posts, pcells, ints, ic, big, frac]
  refine CallD_eq r1 (by decide) ?_
  simp only [eq_self, go_sem, Int.reduceNegSucc, Nat.reduceAdd, Nat.reduceSub, Nat.reduceMul, Nat.reduceEqDiff, Nat.reduceLeDiff, Nat.reduceLT, Nat.reduceBEq, Nat.reduceBNe, reduceIte, reduceCtorEq, Int.reduceToNat, Int.reduceAdd, Int.reduceSub, Int.reduceMul, Int.reduceNeg, Int.reduceLT, Int.reduceLE, Int.reduceEq, Int.reduceNe, posts, pcells, ints, ic, big, frac]
  refine CallD_eq r2 (by decide) ?_
  simp only [eq_self, go_sem, Int.reduceNegSucc, Nat.reduceAdd, Nat.reduceSub, Nat.reduceMul, Nat.reduceEqDiff, Nat.reduceLeDiff, Nat.reduceLT, Nat.reduceBEq, Nat.reduceBNe, reduceIte, reduceCtorEq, Int.reduceToNat, Int.reduceAdd, Int.reduceSub, Int.reduceMul, Int.reduceNeg, Int.reduceLT, Int.reduceLE, Int.reduceEq, Int.reduceNe, posts, pcells, ints, ic, big, frac]
  refine CallD_eq b1 (by decide) ?_
  simp only [eq_self, go_sem, Int.reduceNegSucc, Nat.reduceAdd, Nat.reduceSub, Nat.reduceMul, Nat.reduceEqDiff, Nat.reduceLeDiff, Nat.reduceLT, Nat.reduceBEq, Nat.reduceBNe, reduceIte, reduceCtorEq, Int.reduceToNat, Int.reduceAdd, Int.reduceSub, Int.reduceMul, Int.reduceNeg, Int.reduceLT, Int.reduceLE, Int.reduceEq, Int.reduceNe, posts, pcells, ints, ic, big, frac]
  refine CallD_eq b2 (by decide) ?_
  simp only [eq_self, go_sem, Int.reduceNegSucc, Nat.reduceAdd, Nat.reduceSub, Nat.reduceMul, Nat.reduceEqDiff, Nat.reduceLeDiff, Nat.reduceLT, Nat.reduceBEq, Nat.reduceBNe, reduceIte, reduceCtorEq, Int.reduceToNat, Int.reduceAdd, Int.reduceSub, Int.reduceMul, Int.reduceNeg, Int.reduceLT, Int.reduceLE, Int.reduceEq, Int.reduceNe, posts, pcells, ints, ic, big, frac]
end Go.Proofs.Ytpnlfkaijdjhlab

namespace Go.Proofs.Ytpnlfkaijdjhlab
set_option linter.all false
open Go.Abs

/-! What Post does to an account. -/
theorem bef_app (a : List Pst) (x : Pst) (h p : Int) (hn : ¬ (x.h = h ∧ x.p = p)) : bef (a ++ [x]) h p = bef a h p := by
  rw [bef_snoc, befStep, if_neg hn]
theorem rightA_iff {a : List Pst} : rightA a = true ↔ Rt a ∧ a.length ≤ 500 := by
  refine ⟨rt_of, fun h => ?_⟩
  rw [rightA, Bool.and_eq_true, Bool.not_eq_true', decide_eq_false_iff_not]
  exact ⟨by omega, h.1⟩
theorem balanceF_of {a : List Pst} (h : rightA a = true) (x y : Int) : balanceF a x y = (bef a x y).1 := by rw [balanceF, if_pos h]
structure Posted (a A : List Pst) (h p c : Int) : Prop where
  right : rightA A = true
  bal : balanceF A h p = c
  lo : a.length ≤ A.length
  hi : A.length ≤ a.length + 1
  again : postF A h p 0 c = (A, 0)
  begins : A.take a.length = a
  others : ∀ o, o ≠ h → balanceF A o p = balanceF a o p
  others' : ∀ o, o ≠ p → balanceF A h o = balanceF a h o
theorem post_fst {a : List Pst} {h p v c : Int} (hr : rightA a = true) (he : (postF a h p v c).2 = 0) : Posted a (postF a h p v c).1 h p c := by
  have key : ∀ A : List Pst, postF a h p v c = (A, 0) → Posted a A h p c := by
    intro A hA
    unfold postF at hA
    by_cases h1 : (rightA a && (inF h 0 99 && (inF p 0 100000 && inF v 0 100000))) = false
    · rw [if_pos h1] at hA; simp at hA
    rw [if_neg h1] at hA
    by_cases h2 : inF c 0 1125899906842624 = false
    · rw [if_pos h2] at hA; simp at hA
    rw [if_neg h2] at hA
    have h2' : inF c 0 1125899906842624 = true := by simpa using h2
    simp only [Bool.not_eq_false, Bool.and_eq_true] at h1
    obtain ⟨_, i1, i2, i3⟩ := h1
    have hcc := inF_iff.1 h2'
    obtain ⟨hrt, h500⟩ := rt_of hr
    have same : ∀ B : List Pst, rightA B = true → (bef B h p).1 = c → postF B h p 0 c = (B, 0) := by
      intro B hB hb
      unfold postF
      rw [if_neg (by rw [hB, i1, i2]; decide), if_neg h2, if_pos hb]
    by_cases h3 : (bef a h p).1 = c
    · rw [if_pos h3] at hA
      have : a = A := by simpa using hA
      subst this
      exact ⟨hr, by rw [balanceF_of hr, h3], Nat.le_refl _, by omega, same a hr h3, by simp, fun _ _ => rfl, fun _ _ => rfl⟩
    rw [if_neg h3] at hA
    by_cases h4 : v ≤ (bef a h p).2
    · rw [if_pos h4] at hA; simp at hA
    rw [if_neg h4] at hA
    by_cases h5 : 500 ≤ (a.length : Int)
    · rw [if_pos h5] at hA; simp at hA
    rw [if_neg h5] at hA
    have hA : a ++ [⟨h, p, c - (bef a h p).1, v⟩] = A := by simpa using hA
    have hb0 := (bef_rt a hrt h p).1
    have i1 := inF_iff.1 i1
    have i2 := inF_iff.1 i2
    have i3 := inF_iff.1 i3
    have hst : stepOk a ⟨h, p, c - (bef a h p).1, v⟩ = true := by
      rw [stepOk_iff, okP_iff]
      refine ⟨⟨i1, i2, i3, ?_, ?_⟩, ?_, ?_, ?_⟩ <;> dsimp only <;> omega
    have hR : rightA A = true := by
      rw [rightA_iff, ← hA, rt_snoc]
      exact ⟨⟨hrt, hst⟩, by simp; omega⟩
    have hbe : bef A h p = (c, v) := by
      rw [← hA, bef_snoc, befStep, if_pos ⟨rfl, rfl⟩]
      dsimp only; congr 1; omega
    have hoth : ∀ o q, ¬ (h = o ∧ p = q) → balanceF A o q = balanceF a o q := fun o q hn => by
      rw [balanceF_of hR, balanceF_of hr, ← hA, bef_app _ _ _ _ hn]
    exact ⟨hR, by rw [balanceF_of hR, hbe], by rw [← hA]; simp, by rw [← hA]; simp, same A hR (by rw [hbe]), by rw [← hA]; simp, fun o ho => hoth o p fun e => ho e.1.symm, fun o ho => hoth h o fun e => ho e.2.symm⟩
  exact key _ (Prod.ext rfl he)
theorem post_bad {a : List Pst} {h p v c : Int} (he : (postF a h p v c).2 ≠ 0) : (postF a h p v c).1 = [] := by
  revert he
  unfold postF
  repeat' split
  all_goals first | (intro _; rfl) | (intro he; exact absurd rfl he)

/-! The postings together are the sum of all balances. -/
def sumC (a : List Pst) : Int := a.foldl (fun s x => s + x.c) 0
theorem sumC_snoc (a : List Pst) (x : Pst) : sumC (a ++ [x]) = sumC a + x.c := by rw [sumC, List.foldl_append]; rfl
def keyStep (D : List (Int × Int)) (x : Pst) : List (Int × Int) := if (x.h, x.p) ∈ D then D else D ++ [(x.h, x.p)]
def keysD (a : List Pst) : List (Int × Int) := a.foldl keyStep []
theorem keysD_snoc (a : List Pst) (x : Pst) : keysD (a ++ [x]) = keyStep (keysD a) x := by rw [keysD, List.foldl_append]; rfl
theorem mem_keysD (a : List Pst) : ∀ h p, (h, p) ∈ keysD a ↔ has a h p = true := by
  refine snoc_ind (P := fun a => ∀ h p, (h, p) ∈ keysD a ↔ has a h p = true) (fun h p => by simp [keysD, has]) (fun a x ih h p => ?_) a
  rw [keysD_snoc, has_snoc, keyStep, Bool.or_eq_true, ← ih, decide_eq_true_eq]
  split
  · rename_i hm
    refine ⟨.inl, fun e => e.elim id fun e => ?_⟩
    rw [← e.1, ← e.2]; exact hm
  · rw [List.mem_append, List.mem_singleton, Prod.mk.injEq]
    exact or_congr Iff.rfl ⟨fun e => ⟨e.1.symm, e.2.symm⟩, fun e => ⟨e.1.symm, e.2.symm⟩⟩
theorem keysD_nodup (a : List Pst) : (keysD a).Nodup := by
  refine snoc_ind (P := fun a => (keysD a).Nodup) (by simp [keysD]) (fun a x ih => ?_) a
  rw [keysD_snoc, keyStep]
  split
  · exact ih
  · rename_i hm
    rw [List.nodup_append]
    exact ⟨ih, by simp, fun y hy z hz e => hm (by rw [← List.mem_singleton.1 hz, ← e]; exact hy)⟩
def sumL (f : Int × Int → Int) : List (Int × Int) → Int
  | [] => 0
  | k :: r => f k + sumL f r
theorem sumL_snoc (f : Int × Int → Int) : ∀ (D : List (Int × Int)) (k : Int × Int), sumL f (D ++ [k]) = sumL f D + f k
  | [], k => by simp [sumL]
  | d :: D, k => by rw [List.cons_append, sumL, sumL, sumL_snoc f D k]; omega
theorem sumL_add (f g : Int × Int → Int) : ∀ D : List (Int × Int), sumL (fun k => f k + g k) D = sumL f D + sumL g D
  | [] => by simp [sumL]
  | d :: D => by rw [sumL, sumL, sumL, sumL_add f g D]; omega
theorem sumL_zero (f : Int × Int → Int) : ∀ D : List (Int × Int), (∀ k ∈ D, f k = 0) → sumL f D = 0
  | [], _ => rfl
  | d :: D, h => by rw [sumL, h d (List.mem_cons_self ..), sumL_zero f D fun k hk => h k (List.mem_cons_of_mem _ hk)]; omega
theorem sumL_one (k : Int × Int) (c : Int) : ∀ D : List (Int × Int), D.Nodup → k ∈ D → sumL (fun d => if d = k then c else 0) D = c
  | [], _, h => by cases h
  | d :: D, hn, h => by
    rw [List.nodup_cons] at hn
    rw [sumL]
    by_cases e : d = k
    · subst e
      rw [if_pos rfl, sumL_zero _ D fun y hy => if_neg fun e => hn.1 (by rw [← e]; exact hy)]; omega
    · rw [if_neg e, sumL_one k c D hn.2 ((List.mem_cons.1 h).resolve_left (Ne.symm e))]; omega
theorem sumL_congr {f g : Int × Int → Int} : ∀ {D : List (Int × Int)}, (∀ k ∈ D, f k = g k) → sumL f D = sumL g D
  | [], _ => rfl
  | d :: D, h => by rw [sumL, sumL, h d (List.mem_cons_self ..), sumL_congr fun k hk => h k (List.mem_cons_of_mem _ hk)]
theorem sum_over (a : List Pst) (D : List (Int × Int)) (hD : D.Nodup) : (∀ h p, has a h p = true → (h, p) ∈ D) → sumL (fun k => (bef a k.1 k.2).1) D = sumC a := by
  refine snoc_ind (P := fun a => (∀ h p, has a h p = true → (h, p) ∈ D) → sumL (fun k => (bef a k.1 k.2).1) D = sumC a) (fun _ => ?_) (fun a x ih hm => ?_) a
  · exact sumL_zero _ D fun k _ => rfl
  · have h1 : ∀ h p, has a h p = true → (h, p) ∈ D := fun h p e => hm h p (by rw [has_snoc, e]; rfl)
    have hx : (x.h, x.p) ∈ D := hm _ _ (by rw [has_snoc, decide_eq_true ⟨rfl, rfl⟩, Bool.or_true])
    rw [sumC_snoc, ← ih h1]
    have : sumL (fun k => (bef (a ++ [x]) k.1 k.2).1) D = sumL (fun k => (bef a k.1 k.2).1 + (if k = (x.h, x.p) then x.c else 0)) D := by
      refine sumL_congr fun k _ => ?_
      rw [bef_snoc, befStep]
      by_cases e : x.h = k.1 ∧ x.p = k.2
      · rw [if_pos e, if_pos (Prod.ext e.1.symm e.2.symm)]
      · rw [if_neg e, if_neg (fun e' => e (by rw [e']; exact ⟨rfl, rfl⟩))]; omega
    rw [this, sumL_add, sumL_one _ _ D hD hx]
/-- What the loop has summed up. -/
def allF (A : List Pst) (i : Nat) : Int := sumL (fun k => (bef A k.1 k.2).1) (keysD (A.take i))
theorem all_end (A : List Pst) : allF A A.length = sumC A := by
  rw [allF, List.take_length]
  exact sum_over A _ (keysD_nodup A) fun h p => (mem_keysD A h p).2
theorem all_next {A : List Pst} {i : Nat} {x : Pst} (hx : A[i]? = some x) : allF A (i + 1) = if has (A.take i) x.h x.p = true then allF A i else allF A i + (bef A x.h x.p).1 := by
  rw [allF, take_snoc hx, keysD_snoc, keyStep]
  by_cases h : has (A.take i) x.h x.p = true
  · rw [if_pos h, if_pos ((mem_keysD _ _ _).2 h)]; rfl
  · rw [if_neg h, if_neg (fun e => h ((mem_keysD _ _ _).1 e)), sumL_snoc]; rfl
theorem sum_bound {A : List Pst} (hA : Rt A) : ∀ i : Nat, -(i * 1125899906842624) ≤ sumC (A.take i) ∧ sumC (A.take i) ≤ i * 1125899906842624
  | 0 => by simp [sumC]
  | i + 1 => by
    have ih := sum_bound hA i
    cases hx : A[i]? with
    | none => rw [List.take_of_length_le (by have := List.getElem?_eq_none_iff.1 hx; omega)] at *; omega
    | some x =>
      have ht := hA.take (i + 1)
      rw [take_snoc hx, rt_snoc, stepOk_iff, okP_iff] at ht
      rw [take_snoc hx, sumC_snoc]; omega
theorem all_bound {A : List Pst} (hA : Rt A) : ∀ i : Nat, 0 ≤ allF A i ∧ allF A i ≤ i * 1125899906842624
  | 0 => by simp [allF, keysD, sumL]
  | i + 1 => by
    have ih := all_bound hA i
    cases hx : A[i]? with
    | none =>
      have h1 := List.getElem?_eq_none_iff.1 hx
      have : allF A (i + 1) = allF A i := by rw [allF, allF, List.take_of_length_le (by omega), List.take_of_length_le (by omega)]
      omega
    | some x =>
      have hb := (bef_rt A hA x.h x.p).1
      rw [all_next hx]
      split <;> omega
end Go.Proofs.Ytpnlfkaijdjhlab
