/- A part of the proof: what functions of the program do, and the layer under it. No further condition. -/
import Derived.Test.YtpnlfkaijdjhlabKX20
namespace Go.Proofs.Ytpnlfkaijdjhlab
set_option linter.all false
open Go.Abs

theorem has_step (A : List Pst) (k : Nat) (y : Pst) (h p : Int) (hy : A[k]? = some y) : has (A.take (k + 1)) h p = (has (A.take k) h p || decide (y.h = h ∧ y.p = p)) := by rw [take_snoc hy, has_snoc]
set_option maxRecDepth 100000 in
set_option maxHeartbeats 4000000 in
theorem w_posts39 (a : List Pst) (h p v c o : Int) : Ctr G.P 4 [posts a, .int h, .int p, .int v, .int c, .int o] (· = .bool true) := by
  have ha := t_few a
  have hs := t_small39
  simp only [posts] at ha
  by_cases h2 : fewA a.length = true
  case neg =>
    have h2 : fewA a.length = false := by simpa using h2
    rw [h2] at ha
    refine ctr_go good _ _ [.tmp 12] Try.func4 rfl rfl (by decide +kernel) rfl ?_
    simp only [go_sem, Int.reduceNegSucc, Nat.reduceAdd, Nat.reduceSub, Nat.reduceMul, Nat.reduceEqDiff, Nat.reduceLeDiff, Nat.reduceLT, Nat.reduceBEq, Nat.reduceBNe, reduceIte, reduceCtorEq, Int.reduceToNat, Int.reduceAdd, Int.reduceSub, Int.reduceMul, Int.reduceNeg, Int.reduceLT, Int.reduceLE, Int.reduceEq, Int.reduceNe, posts, pcells, ints, ic, big, frac]
    refine CallP_eq hs (by decide) ?_
    simp only [go_sem, Int.reduceNegSucc, Nat.reduceAdd, Nat.reduceSub, Nat.reduceMul, Nat.reduceEqDiff, Nat.reduceLeDiff, Nat.reduceLT, Nat.reduceBEq, Nat.reduceBNe, reduceIte, reduceCtorEq, Int.reduceToNat, Int.reduceAdd, Int.reduceSub, Int.reduceMul, Int.reduceNeg, Int.reduceLT, Int.reduceLE, Int.reduceEq, Int.reduceNe, posts, pcells, ints, ic, big, frac]
    refine CallP_eq ha (by decide) ?_
    simp only [go_sem, Int.reduceNegSucc, Nat.reduceAdd, Nat.reduceSub, Nat.reduceMul, Nat.reduceEqDiff, Nat.reduceLeDiff, Nat.reduceLT, Nat.reduceBEq, Nat.reduceBNe, reduceIte, reduceCtorEq, Int.reduceToNat, Int.reduceAdd, Int.reduceSub, Int.reduceMul, Int.reduceNeg, Int.reduceLT, Int.reduceLE, Int.reduceEq, Int.reduceNe, posts, pcells, ints, ic, big, frac]
  case pos =>
  rw [h2] at ha
  have hl := fewA_le h2
  have r0 := t_bright a hl
  simp only [posts] at r0
  by_cases hr : rightA a = true
  case neg =>
    have hr : rightA a = false := by simpa using hr
    rw [hr] at r0
    refine ctr_go good _ _ [.tmp 12] Try.func4 rfl rfl (by decide +kernel) rfl ?_
    simp only [go_sem, Int.reduceNegSucc, Nat.reduceAdd, Nat.reduceSub, Nat.reduceMul, Nat.reduceEqDiff, Nat.reduceLeDiff, Nat.reduceLT, Nat.reduceBEq, Nat.reduceBNe, reduceIte, reduceCtorEq, Int.reduceToNat, Int.reduceAdd, Int.reduceSub, Int.reduceMul, Int.reduceNeg, Int.reduceLT, Int.reduceLE, Int.reduceEq, Int.reduceNe, posts, pcells, ints, ic, big, frac]
    refine CallP_eq hs (by decide) ?_
    simp only [go_sem, Int.reduceNegSucc, Nat.reduceAdd, Nat.reduceSub, Nat.reduceMul, Nat.reduceEqDiff, Nat.reduceLeDiff, Nat.reduceLT, Nat.reduceBEq, Nat.reduceBNe, reduceIte, reduceCtorEq, Int.reduceToNat, Int.reduceAdd, Int.reduceSub, Int.reduceMul, Int.reduceNeg, Int.reduceLT, Int.reduceLE, Int.reduceEq, Int.reduceNe, posts, pcells, ints, ic, big, frac]
    refine CallP_eq ha (by decide) ?_
    simp only [go_sem, Int.reduceNegSucc, Nat.reduceAdd, Nat.reduceSub, Nat.reduceMul, Nat.reduceEqDiff, Nat.reduceLeDiff, Nat.reduceLT, Nat.reduceBEq, Nat.reduceBNe, reduceIte, reduceCtorEq, Int.reduceToNat, Int.reduceAdd, Int.reduceSub, Int.reduceMul, Int.reduceNeg, Int.reduceLT, Int.reduceLE, Int.reduceEq, Int.reduceNe, posts, pcells, ints, ic, big, frac]
    refine CallP_eq r0 (by decide) ?_
    simp only [go_sem, Int.reduceNegSucc, Nat.reduceAdd, Nat.reduceSub, Nat.reduceMul, Nat.reduceEqDiff, Nat.reduceLeDiff, Nat.reduceLT, Nat.reduceBEq, Nat.reduceBNe, reduceIte, reduceCtorEq, Int.reduceToNat, Int.reduceAdd, Int.reduceSub, Int.reduceMul, Int.reduceNeg, Int.reduceLT, Int.reduceLE, Int.reduceEq, Int.reduceNe, posts, pcells, ints, ic, big, frac]
  case pos =>
  rw [hr] at r0
  have p1 := t_ppost a h p v c hl
  simp only [posts] at p1
  by_cases he : (postF a h p v c).2 = 0
  case neg =>
    rw [post_bad he, List.map_nil] at p1
    have d : decide ((postF a h p v c).2 = 0) = false := decide_eq_false he
    generalize (postF a h p v c).2 = e at *
    refine ctr_go good _ _ [.tmp 12] Try.func4 rfl rfl (by decide +kernel) rfl ?_
    simp only [go_sem, Int.reduceNegSucc, Nat.reduceAdd, Nat.reduceSub, Nat.reduceMul, Nat.reduceEqDiff, Nat.reduceLeDiff, Nat.reduceLT, Nat.reduceBEq, Nat.reduceBNe, reduceIte, reduceCtorEq, Int.reduceToNat, Int.reduceAdd, Int.reduceSub, Int.reduceMul, Int.reduceNeg, Int.reduceLT, Int.reduceLE, Int.reduceEq, Int.reduceNe, posts, pcells, ints, ic, big, frac]
    refine CallP_eq hs (by decide) ?_
    simp only [go_sem, Int.reduceNegSucc, Nat.reduceAdd, Nat.reduceSub, Nat.reduceMul, Nat.reduceEqDiff, Nat.reduceLeDiff, Nat.reduceLT, Nat.reduceBEq, Nat.reduceBNe, reduceIte, reduceCtorEq, Int.reduceToNat, Int.reduceAdd, Int.reduceSub, Int.reduceMul, Int.reduceNeg, Int.reduceLT, Int.reduceLE, Int.reduceEq, Int.reduceNe, posts, pcells, ints, ic, big, frac]
    refine CallP_eq ha (by decide) ?_
    simp only [go_sem, Int.reduceNegSucc, Nat.reduceAdd, Nat.reduceSub, Nat.reduceMul, Nat.reduceEqDiff, Nat.reduceLeDiff, Nat.reduceLT, Nat.reduceBEq, Nat.reduceBNe, reduceIte, reduceCtorEq, Int.reduceToNat, Int.reduceAdd, Int.reduceSub, Int.reduceMul, Int.reduceNeg, Int.reduceLT, Int.reduceLE, Int.reduceEq, Int.reduceNe, posts, pcells, ints, ic, big, frac]
    refine CallP_eq r0 (by decide) ?_
    simp only [go_sem, Int.reduceNegSucc, Nat.reduceAdd, Nat.reduceSub, Nat.reduceMul, Nat.reduceEqDiff, Nat.reduceLeDiff, Nat.reduceLT, Nat.reduceBEq, Nat.reduceBNe, reduceIte, reduceCtorEq, Int.reduceToNat, Int.reduceAdd, Int.reduceSub, Int.reduceMul, Int.reduceNeg, Int.reduceLT, Int.reduceLE, Int.reduceEq, Int.reduceNe, posts, pcells, ints, ic, big, frac]
    refine CallP_eq p1 (by decide) ?_
    simp only [d, go_sem, Int.reduceNegSucc, Nat.reduceAdd, Nat.reduceSub, Nat.reduceMul, Nat.reduceEqDiff, Nat.reduceLeDiff, Nat.reduceLT, Nat.reduceBEq, Nat.reduceBNe, reduceIte, reduceCtorEq, Int.reduceToNat, Int.reduceAdd, Int.reduceSub, Int.reduceMul, Int.reduceNeg, Int.reduceLT, Int.reduceLE, Int.reduceEq, Int.reduceNe, posts, pcells, ints, ic, big, frac]
  case pos =>
  have hP := post_fst hr he
  rw [he] at p1
  generalize (postF a h p v c).1 = A at *
  have h500 := (rt_of hr).2
  have hlA : A.length ≤ 501 := by have := hP.hi; omega
  have hRA := (rt_of hP.right).1
  have r1 := t_bright A (by omega)
  rw [hP.right] at r1
  have b1 := t_balance A h p (by omega)
  rw [hP.bal] at b1
  have p2 := t_ppost A h p 0 c (by omega)
  rw [hP.again] at p2
  have s1 := t_psame A A (by omega)
  rw [decide_eq_true rfl] at s1
  have s2 := t_psame a a (by omega)
  rw [decide_eq_true rfl] at s2
  have htk : (A.map pcells).take a.length = a.map pcells := by rw [← List.map_take, hP.begins]
  have hall : ((A.map pcells).all fun c => c.length == 4) = true := List.all_eq_true.2 fun c hc => by rw [pcells_len A c hc]; rfl
  have bo := t_balance A o p (by omega)
  have bo' := t_balance a o p (by omega)
  have bq := t_balance A h o (by omega)
  have bq' := t_balance a h o (by omega)
  simp only [posts] at r1 b1 p2 s1 s2 bo bo' bq bq'
  have d1 : decide ((A.length : Int) < a.length) = false := decide_eq_false (by have := hP.lo; omega)
  have hw1 := i64_ok (n := (a.length : Int) + 1) (by omega)
  have d2 : decide ((a.length : Int) + 1 < A.length) = false := decide_eq_false (by have := hP.hi; omega)
  have hle : (a.length : Int) ≤ A.length := by have := hP.lo; omega
  have e1 : decide (o = h) = false → decide (balanceF A o p = balanceF a o p) = true := fun d => decide_eq_true (hP.others o (of_decide_eq_false d))
  have e2 : decide (o = p) = false → decide (balanceF A h o = balanceF a h o) = true := fun d => decide_eq_true (hP.others' o (of_decide_eq_false d))
  generalize balanceF A o p = k1 at *
  generalize balanceF a o p = k2 at *
  generalize balanceF A h o = k3 at *
  generalize balanceF a h o = k4 at *
  have hfin : sumC A = allF A A.length := (all_end A).symm
  have hge : 0 ≤ allF A A.length := (all_bound hRA A.length).1
  have last : ∀ i : Nat, i ≤ A.length → A.length ≤ i → sumC (A.take i) = allF A i ∧ 0 ≤ sumC (A.take i) := fun i h1 h2 => by
    have : i = A.length := by omega
    subst this
    rw [List.take_length, hfin]; exact ⟨rfl, hge⟩
  refine ctr_go good _ _ [.tmp 12] Try.func4 rfl rfl (by decide +kernel) rfl ?_
  simp only [go_sem, Int.reduceNegSucc, Nat.reduceAdd, Nat.reduceSub, Nat.reduceMul, Nat.reduceEqDiff, Nat.reduceLeDiff, Nat.reduceLT, Nat.reduceBEq, Nat.reduceBNe, reduceIte, reduceCtorEq, Int.reduceToNat, Int.reduceAdd, Int.reduceSub, Int.reduceMul, Int.reduceNeg, Int.reduceLT, Int.reduceLE, Int.reduceEq, Int.reduceNe, posts, pcells, ints, ic, big, frac]
  refine CallP_eq hs (by decide) ?_
  simp only [go_sem, Int.reduceNegSucc, Nat.reduceAdd, Nat.reduceSub, Nat.reduceMul, Nat.reduceEqDiff, Nat.reduceLeDiff, Nat.reduceLT, Nat.reduceBEq, Nat.reduceBNe, reduceIte, reduceCtorEq, Int.reduceToNat, Int.reduceAdd, Int.reduceSub, Int.reduceMul, Int.reduceNeg, Int.reduceLT, Int.reduceLE, Int.reduceEq, Int.reduceNe, posts, pcells, ints, ic, big, frac]
  refine CallP_eq ha (by decide) ?_
  simp only [go_sem, Int.reduceNegSucc, Nat.reduceAdd, Nat.reduceSub, Nat.reduceMul, Nat.reduceEqDiff, Nat.reduceLeDiff, Nat.reduceLT, Nat.reduceBEq, Nat.reduceBNe, reduceIte, reduceCtorEq, Int.reduceToNat, Int.reduceAdd, Int.reduceSub, Int.reduceMul, Int.reduceNeg, Int.reduceLT, Int.reduceLE, Int.reduceEq, Int.reduceNe, posts, pcells, ints, ic, big, frac]
  refine CallP_eq r0 (by decide) ?_
  simp only [go_sem, Int.reduceNegSucc, Nat.reduceAdd, Nat.reduceSub, Nat.reduceMul, Nat.reduceEqDiff, Nat.reduceLeDiff, Nat.reduceLT, Nat.reduceBEq, Nat.reduceBNe, reduceIte, reduceCtorEq, Int.reduceToNat, Int.reduceAdd, Int.reduceSub, Int.reduceMul, Int.reduceNeg, Int.reduceLT, Int.reduceLE, Int.reduceEq, Int.reduceNe, posts, pcells, ints, ic, big, frac]
  refine CallP_eq p1 (by decide) ?_
  simp only [go_sem, Int.reduceNegSucc, Nat.reduceAdd, Nat.reduceSub, Nat.reduceMul, Nat.reduceEqDiff, Nat.reduceLeDiff, Nat.reduceLT, Nat.reduceBEq, Nat.reduceBNe, reduceIte, reduceCtorEq, Int.reduceToNat, Int.reduceAdd, Int.reduceSub, Int.reduceMul, Int.reduceNeg, Int.reduceLT, Int.reduceLE, Int.reduceEq, Int.reduceNe, posts, pcells, ints, ic, big, frac]
  refine CallP_eq r1 (by decide) ?_
  simp only [go_sem, Int.reduceNegSucc, Nat.reduceAdd, Nat.reduceSub, Nat.reduceMul, Nat.reduceEqDiff, Nat.reduceLeDiff, Nat.reduceLT, Nat.reduceBEq, Nat.reduceBNe, reduceIte, reduceCtorEq, Int.reduceToNat, Int.reduceAdd, Int.reduceSub, Int.reduceMul, Int.reduceNeg, Int.reduceLT, Int.reduceLE, Int.reduceEq, Int.reduceNe, posts, pcells, ints, ic, big, frac]
  refine CallP_eq b1 (by decide) ?_
  simp only [eq_self, d1, hw1, d2, go_sem, Int.reduceNegSucc, Nat.reduceAdd, Nat.reduceSub, Nat.reduceMul, Nat.reduceEqDiff, Nat.reduceLeDiff, Nat.reduceLT, Nat.reduceBEq, Nat.reduceBNe, reduceIte, reduceCtorEq, Int.reduceToNat, Int.reduceAdd, Int.reduceSub, Int.reduceMul, Int.reduceNeg, Int.reduceLT, Int.reduceLE, Int.reduceEq, Int.reduceNe, posts, pcells, ints, ic, big, frac]
  refine CallP_eq p2 (by decide) ?_
  simp only [go_sem, Int.reduceNegSucc, Nat.reduceAdd, Nat.reduceSub, Nat.reduceMul, Nat.reduceEqDiff, Nat.reduceLeDiff, Nat.reduceLT, Nat.reduceBEq, Nat.reduceBNe, reduceIte, reduceCtorEq, Int.reduceToNat, Int.reduceAdd, Int.reduceSub, Int.reduceMul, Int.reduceNeg, Int.reduceLT, Int.reduceLE, Int.reduceEq, Int.reduceNe, posts, pcells, ints, ic, big, frac]
  refine CallP_eq s1 (by decide) ?_
  simp only [hle, hall, Nat.sub_zero, htk, go_sem, Int.reduceNegSucc, Nat.reduceAdd, Nat.reduceSub, Nat.reduceMul, Nat.reduceEqDiff, Nat.reduceLeDiff, Nat.reduceLT, Nat.reduceBEq, Nat.reduceBNe, reduceIte, reduceCtorEq, Int.reduceToNat, Int.reduceAdd, Int.reduceSub, Int.reduceMul, Int.reduceNeg, Int.reduceLT, Int.reduceLE, Int.reduceEq, Int.reduceNe, posts, pcells, ints, ic, big, frac]
  refine CallP_eq s2 (by decide) ?_
  simp only [go_sem, Int.reduceNegSucc, Nat.reduceAdd, Nat.reduceSub, Nat.reduceMul, Nat.reduceEqDiff, Nat.reduceLeDiff, Nat.reduceLT, Nat.reduceBEq, Nat.reduceBNe, reduceIte, reduceCtorEq, Int.reduceToNat, Int.reduceAdd, Int.reduceSub, Int.reduceMul, Int.reduceNeg, Int.reduceLT, Int.reduceLE, Int.reduceEq, Int.reduceNe, posts, pcells, ints, ic, big, frac]
  repeat' (first
    | (refine Two_of (fun d => ?_) (fun d => ?_) <;> simp only [d, e1, e2, go_sem, Int.reduceNegSucc, Nat.reduceAdd, Nat.reduceSub, Nat.reduceMul, Nat.reduceEqDiff, Nat.reduceLeDiff, Nat.reduceLT, Nat.reduceBEq, Nat.reduceBNe, reduceIte, reduceCtorEq, Int.reduceToNat, Int.reduceAdd, Int.reduceSub, Int.reduceMul, Int.reduceNeg, Int.reduceLT, Int.reduceLE, Int.reduceEq, Int.reduceNe, posts, pcells, ints, ic, big, frac])
    | (refine CallP_eq bo (by decide) ?_; simp only [e1, e2, *, go_sem, Int.reduceNegSucc, Nat.reduceAdd, Nat.reduceSub, Nat.reduceMul, Nat.reduceEqDiff, Nat.reduceLeDiff, Nat.reduceLT, Nat.reduceBEq, Nat.reduceBNe, reduceIte, reduceCtorEq, Int.reduceToNat, Int.reduceAdd, Int.reduceSub, Int.reduceMul, Int.reduceNeg, Int.reduceLT, Int.reduceLE, Int.reduceEq, Int.reduceNe, posts, pcells, ints, ic, big, frac])
    | (refine CallP_eq bo' (by decide) ?_; simp only [e1, e2, *, go_sem, Int.reduceNegSucc, Nat.reduceAdd, Nat.reduceSub, Nat.reduceMul, Nat.reduceEqDiff, Nat.reduceLeDiff, Nat.reduceLT, Nat.reduceBEq, Nat.reduceBNe, reduceIte, reduceCtorEq, Int.reduceToNat, Int.reduceAdd, Int.reduceSub, Int.reduceMul, Int.reduceNeg, Int.reduceLT, Int.reduceLE, Int.reduceEq, Int.reduceNe, posts, pcells, ints, ic, big, frac])
    | (refine CallP_eq bq (by decide) ?_; simp only [e1, e2, *, go_sem, Int.reduceNegSucc, Nat.reduceAdd, Nat.reduceSub, Nat.reduceMul, Nat.reduceEqDiff, Nat.reduceLeDiff, Nat.reduceLT, Nat.reduceBEq, Nat.reduceBNe, reduceIte, reduceCtorEq, Int.reduceToNat, Int.reduceAdd, Int.reduceSub, Int.reduceMul, Int.reduceNeg, Int.reduceLT, Int.reduceLE, Int.reduceEq, Int.reduceNe, posts, pcells, ints, ic, big, frac])
    | (refine CallP_eq bq' (by decide) ?_; simp only [e1, e2, *, go_sem, Int.reduceNegSucc, Nat.reduceAdd, Nat.reduceSub, Nat.reduceMul, Nat.reduceEqDiff, Nat.reduceLeDiff, Nat.reduceLT, Nat.reduceBEq, Nat.reduceBNe, reduceIte, reduceCtorEq, Int.reduceToNat, Int.reduceAdd, Int.reduceSub, Int.reduceMul, Int.reduceNeg, Int.reduceLT, Int.reduceLE, Int.reduceEq, Int.reduceNe, posts, pcells, ints, ic, big, frac]))
  all_goals
    refine LoopP_of [13, 14, 18, 19, 20] [] (fun i : Nat => ⟨[(13, .im (.bool true)), (14, .im (.sl (A.map pcells))), (18, .im (.int (sumC (A.take i)))), (19, .im (.int (allF A i))), (20, .im (.int i))], [], []⟩)
      (fun i => i ≤ A.length) (fun i => A.length - i) 0 ?_ (Nat.zero_le _) ?_
    · simp only [Int.natCast_zero, allF, List.take_zero, keysD, sumC, List.foldl_nil, sumL, go_sem, Int.reduceNegSucc, Nat.reduceAdd, Nat.reduceSub, Nat.reduceMul, Nat.reduceEqDiff, Nat.reduceLeDiff, Nat.reduceLT, Nat.reduceBEq, Nat.reduceBNe, reduceIte, reduceCtorEq, Int.reduceToNat, Int.reduceAdd, Int.reduceSub, Int.reduceMul, Int.reduceNeg, Int.reduceLT, Int.reduceLE, Int.reduceEq, Int.reduceNe, posts, pcells, ints, ic, big, frac]
    intro i hi
    by_cases hp : (i : Int) < A.length
    · have hd : decide ((i : Int) < A.length) = true := decide_eq_true hp
      obtain ⟨x, hx⟩ : ∃ x, A[i]? = some x := ⟨_, List.getElem?_eq_getElem (by omega)⟩
      have hw := i64_ok (n := (i : Int) + 1) (by omega)
      have hsn : sumC (A.take (i + 1)) = sumC (A.take i) + x.c := by rw [take_snoc hx, sumC_snoc]
      have hsb := sum_bound hRA (i + 1)
      rw [hsn] at hsb
      have hws := i64_ok (n := sumC (A.take i) + x.c) (by omega)
      have hab := all_bound hRA i
      have hxb := (bef_rt A hRA x.h x.p).1
      have hwa := i64_ok (n := allF A i + (bef A x.h x.p).1) (by omega)
      have hnx := all_next hx
      have bx := t_balance A x.h x.p (by omega)
      rw [balanceF_of hP.right] at bx
      simp only [posts] at bx
      simp only [hd, List.getElem?_map, hx, hws, go_sem, Int.reduceNegSucc, Nat.reduceAdd, Nat.reduceSub, Nat.reduceMul, Nat.reduceEqDiff, Nat.reduceLeDiff, Nat.reduceLT, Nat.reduceBEq, Nat.reduceBNe, reduceIte, reduceCtorEq, Int.reduceToNat, Int.reduceAdd, Int.reduceSub, Int.reduceMul, Int.reduceNeg, Int.reduceLT, Int.reduceLE, Int.reduceEq, Int.reduceNe, posts, pcells, ints, ic, big, frac]
      refine LoopP_of [13, 14, 18, 19, 20, 21, 22] [] (fun k : Nat => ⟨[(13, .im (.bool true)), (14, .im (.sl (A.map pcells))), (18, .im (.int (sumC (A.take i) + x.c))), (19, .im (.int (allF A i))), (20, .im (.int i)), (21, .im (.bool !has (A.take k) x.h x.p)), (22, .im (.int k))], [], []⟩)
        (fun k => k ≤ i) (fun k => i - k) 0 ?_ (Nat.zero_le _) ?_
      · simp only [Int.natCast_zero, List.take_zero, has, List.any_nil, go_sem, Int.reduceNegSucc, Nat.reduceAdd, Nat.reduceSub, Nat.reduceMul, Nat.reduceEqDiff, Nat.reduceLeDiff, Nat.reduceLT, Nat.reduceBEq, Nat.reduceBNe, reduceIte, reduceCtorEq, Int.reduceToNat, Int.reduceAdd, Int.reduceSub, Int.reduceMul, Int.reduceNeg, Int.reduceLT, Int.reduceLE, Int.reduceEq, Int.reduceNe, posts, pcells, ints, ic, big, frac]
      intro k hk
      by_cases hkp : (k : Int) < i
      · have hkd : decide ((k : Int) < i) = true := decide_eq_true hkp
        obtain ⟨y, hy⟩ : ∃ y, A[k]? = some y := ⟨_, List.getElem?_eq_getElem (by omega)⟩
        have hwk := i64_ok (n := (k : Int) + 1) (by omega)
        have hkA : (k : Int) < A.length := by omega
        have hst := has_step A k y x.h x.p hy
        rw [Bool.decide_and] at hst
        simp only [hkd, hd, go_sem, Int.reduceNegSucc, Nat.reduceAdd, Nat.reduceSub, Nat.reduceMul, Nat.reduceEqDiff, Nat.reduceLeDiff, Nat.reduceLT, Nat.reduceBEq, Nat.reduceBNe, reduceIte, reduceCtorEq, Int.reduceToNat, Int.reduceAdd, Int.reduceSub, Int.reduceMul, Int.reduceNeg, Int.reduceLT, Int.reduceLE, Int.reduceEq, Int.reduceNe, posts, pcells, ints, ic, big, frac]
        refine DrawP_of 28 (by decide +kernel) ?_
        by_cases hh : has (A.take k) x.h x.p = true
        · rw [hh, Bool.true_or] at hst
          simp only [hh, go_sem, Int.reduceNegSucc, Nat.reduceAdd, Nat.reduceSub, Nat.reduceMul, Nat.reduceEqDiff, Nat.reduceLeDiff, Nat.reduceLT, Nat.reduceBEq, Nat.reduceBNe, reduceIte, reduceCtorEq, Int.reduceToNat, Int.reduceAdd, Int.reduceSub, Int.reduceMul, Int.reduceNeg, Int.reduceLT, Int.reduceLE, Int.reduceEq, Int.reduceNe, posts, pcells, ints, ic, big, frac]
          refine RoundP_of (k + 1) ?_ (by omega) (by omega)
          simp only [hwk, hst, Int.natCast_add, go_sem, Int.reduceNegSucc, Nat.reduceAdd, Nat.reduceSub, Nat.reduceMul, Nat.reduceEqDiff, Nat.reduceLeDiff, Nat.reduceLT, Nat.reduceBEq, Nat.reduceBNe, reduceIte, reduceCtorEq, Int.reduceToNat, Int.reduceAdd, Int.reduceSub, Int.reduceMul, Int.reduceNeg, Int.reduceLT, Int.reduceLE, Int.reduceEq, Int.reduceNe, posts, pcells, ints, ic, big, frac]
        · have hh : has (A.take k) x.h x.p = false := by simpa using hh
          rw [hh, Bool.false_or] at hst
          simp only [hh, hd, hkA, List.getElem?_map, hx, hy, go_sem, Int.reduceNegSucc, Nat.reduceAdd, Nat.reduceSub, Nat.reduceMul, Nat.reduceEqDiff, Nat.reduceLeDiff, Nat.reduceLT, Nat.reduceBEq, Nat.reduceBNe, reduceIte, reduceCtorEq, Int.reduceToNat, Int.reduceAdd, Int.reduceSub, Int.reduceMul, Int.reduceNeg, Int.reduceLT, Int.reduceLE, Int.reduceEq, Int.reduceNe, posts, pcells, ints, ic, big, frac]
          refine Two_of (fun d1 => ?_) (fun d1 => ?_)
          · rw [d1, Bool.true_and] at hst
            simp only [d1, hh, hd, hkA, List.getElem?_map, hx, hy, go_sem, Int.reduceNegSucc, Nat.reduceAdd, Nat.reduceSub, Nat.reduceMul, Nat.reduceEqDiff, Nat.reduceLeDiff, Nat.reduceLT, Nat.reduceBEq, Nat.reduceBNe, reduceIte, reduceCtorEq, Int.reduceToNat, Int.reduceAdd, Int.reduceSub, Int.reduceMul, Int.reduceNeg, Int.reduceLT, Int.reduceLE, Int.reduceEq, Int.reduceNe, posts, pcells, ints, ic, big, frac]
            refine RoundP_of (k + 1) ?_ (by omega) (by omega)
            simp only [hwk, hst, Int.natCast_add, go_sem, Int.reduceNegSucc, Nat.reduceAdd, Nat.reduceSub, Nat.reduceMul, Nat.reduceEqDiff, Nat.reduceLeDiff, Nat.reduceLT, Nat.reduceBEq, Nat.reduceBNe, reduceIte, reduceCtorEq, Int.reduceToNat, Int.reduceAdd, Int.reduceSub, Int.reduceMul, Int.reduceNeg, Int.reduceLT, Int.reduceLE, Int.reduceEq, Int.reduceNe, posts, pcells, ints, ic, big, frac]
          · rw [d1, Bool.false_and] at hst
            simp only [d1, hh, go_sem, Int.reduceNegSucc, Nat.reduceAdd, Nat.reduceSub, Nat.reduceMul, Nat.reduceEqDiff, Nat.reduceLeDiff, Nat.reduceLT, Nat.reduceBEq, Nat.reduceBNe, reduceIte, reduceCtorEq, Int.reduceToNat, Int.reduceAdd, Int.reduceSub, Int.reduceMul, Int.reduceNeg, Int.reduceLT, Int.reduceLE, Int.reduceEq, Int.reduceNe, posts, pcells, ints, ic, big, frac]
            refine RoundP_of (k + 1) ?_ (by omega) (by omega)
            simp only [hwk, hst, Int.natCast_add, go_sem, Int.reduceNegSucc, Nat.reduceAdd, Nat.reduceSub, Nat.reduceMul, Nat.reduceEqDiff, Nat.reduceLeDiff, Nat.reduceLT, Nat.reduceBEq, Nat.reduceBNe, reduceIte, reduceCtorEq, Int.reduceToNat, Int.reduceAdd, Int.reduceSub, Int.reduceMul, Int.reduceNeg, Int.reduceLT, Int.reduceLE, Int.reduceEq, Int.reduceNe, posts, pcells, ints, ic, big, frac]
      · have hkd : decide ((k : Int) < i) = false := decide_eq_false hkp
        have hki : k = i := by omega
        subst hki
        by_cases hh : has (A.take k) x.h x.p = true
        · rw [if_pos hh] at hnx
          simp only [hkd, hh, go_sem, Int.reduceNegSucc, Nat.reduceAdd, Nat.reduceSub, Nat.reduceMul, Nat.reduceEqDiff, Nat.reduceLeDiff, Nat.reduceLT, Nat.reduceBEq, Nat.reduceBNe, reduceIte, reduceCtorEq, Int.reduceToNat, Int.reduceAdd, Int.reduceSub, Int.reduceMul, Int.reduceNeg, Int.reduceLT, Int.reduceLE, Int.reduceEq, Int.reduceNe, posts, pcells, ints, ic, big, frac]
          refine RoundP_of (k + 1) ?_ (by omega) (by omega)
          simp only [hw, hsn, hnx, Int.natCast_add, go_sem, Int.reduceNegSucc, Nat.reduceAdd, Nat.reduceSub, Nat.reduceMul, Nat.reduceEqDiff, Nat.reduceLeDiff, Nat.reduceLT, Nat.reduceBEq, Nat.reduceBNe, reduceIte, reduceCtorEq, Int.reduceToNat, Int.reduceAdd, Int.reduceSub, Int.reduceMul, Int.reduceNeg, Int.reduceLT, Int.reduceLE, Int.reduceEq, Int.reduceNe, posts, pcells, ints, ic, big, frac]
        · rw [if_neg hh] at hnx
          have hh : has (A.take k) x.h x.p = false := by simpa using hh
          simp only [hkd, hh, go_sem, Int.reduceNegSucc, Nat.reduceAdd, Nat.reduceSub, Nat.reduceMul, Nat.reduceEqDiff, Nat.reduceLeDiff, Nat.reduceLT, Nat.reduceBEq, Nat.reduceBNe, reduceIte, reduceCtorEq, Int.reduceToNat, Int.reduceAdd, Int.reduceSub, Int.reduceMul, Int.reduceNeg, Int.reduceLT, Int.reduceLE, Int.reduceEq, Int.reduceNe, posts, pcells, ints, ic, big, frac]
          refine DrawP_of 15 (by decide +kernel) ?_
          simp only [hd, List.getElem?_map, hx, go_sem, Int.reduceNegSucc, Nat.reduceAdd, Nat.reduceSub, Nat.reduceMul, Nat.reduceEqDiff, Nat.reduceLeDiff, Nat.reduceLT, Nat.reduceBEq, Nat.reduceBNe, reduceIte, reduceCtorEq, Int.reduceToNat, Int.reduceAdd, Int.reduceSub, Int.reduceMul, Int.reduceNeg, Int.reduceLT, Int.reduceLE, Int.reduceEq, Int.reduceNe, posts, pcells, ints, ic, big, frac]
          refine CallD_eq bx (by decide) ?_
          simp only [hwa, go_sem, Int.reduceNegSucc, Nat.reduceAdd, Nat.reduceSub, Nat.reduceMul, Nat.reduceEqDiff, Nat.reduceLeDiff, Nat.reduceLT, Nat.reduceBEq, Nat.reduceBNe, reduceIte, reduceCtorEq, Int.reduceToNat, Int.reduceAdd, Int.reduceSub, Int.reduceMul, Int.reduceNeg, Int.reduceLT, Int.reduceLE, Int.reduceEq, Int.reduceNe, posts, pcells, ints, ic, big, frac]
          refine RoundP_of (k + 1) ?_ (by omega) (by omega)
          simp only [hw, hsn, hnx, Int.natCast_add, go_sem, Int.reduceNegSucc, Nat.reduceAdd, Nat.reduceSub, Nat.reduceMul, Nat.reduceEqDiff, Nat.reduceLeDiff, Nat.reduceLT, Nat.reduceBEq, Nat.reduceBNe, reduceIte, reduceCtorEq, Int.reduceToNat, Int.reduceAdd, Int.reduceSub, Int.reduceMul, Int.reduceNeg, Int.reduceLT, Int.reduceLE, Int.reduceEq, Int.reduceNe, posts, pcells, ints, ic, big, frac]
    · have hd : decide ((i : Int) < A.length) = false := decide_eq_false hp
      obtain ⟨f1, f2⟩ := last i hi (by omega)
      have f3 : decide (0 ≤ allF A i) = true := decide_eq_true (by rw [← f1]; exact f2)
      simp only [hd, f1, f3, eq_self, go_sem, Int.reduceNegSucc, Nat.reduceAdd, Nat.reduceSub, Nat.reduceMul, Nat.reduceEqDiff, Nat.reduceLeDiff, Nat.reduceLT, Nat.reduceBEq, Nat.reduceBNe, reduceIte, reduceCtorEq, Int.reduceToNat, Int.reduceAdd, Int.reduceSub, Int.reduceMul, Int.reduceNeg, Int.reduceLT, Int.reduceLE, Int.reduceEq, Int.reduceNe, posts, pcells, ints, ic, big, frac]
end Go.Proofs.Ytpnlfkaijdjhlab
