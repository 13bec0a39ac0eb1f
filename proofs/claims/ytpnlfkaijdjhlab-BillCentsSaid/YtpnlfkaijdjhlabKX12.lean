/-
  Sums, differences and products of digit lists, a step at a time. Program-independent. The generic layer under all claims of this repo: numbers, 2.
-/
import Derived.Test.YtpnlfkaijdjhlabKX11
namespace Go.Proofs.Ytpnlfkaijdjhlab
set_option linter.all false
open Go.Abs

set_option maxRecDepth 100000 in
set_option maxHeartbeats 1000000 in
theorem t_ppost (a : List Pst) (h p v c : Int) (hl : a.length ≤ 1000000) : Ctr G.P 10 [posts a, .int h, .int p, .int v, .int c] (· = .tup [posts (postF a h p v c).1, .int (postF a h p v c).2]) := by
  have hb := t_balances a hl
  have c1 := t_pin h 0 99
  have c2 := t_pin p 0 100000
  have c3 := t_pin v 0 100000
  have c4 := t_pin c 0 1125899906842624
  by_cases hr : rightA a = true
  case neg =>
    have hr : rightA a = false := by simpa using hr
    rw [balR_f hr] at hb
    rw [post_arg (by rw [hr]; rfl)]
    refine ctr_go good _ _ [.tmp 10, .tmp 11] Try.func10 rfl rfl (by decide +kernel) rfl ?_
    simp only [go_sem, Int.reduceNegSucc, Nat.reduceAdd, Nat.reduceSub, Nat.reduceMul, Nat.reduceEqDiff, Nat.reduceLeDiff, Nat.reduceLT, Nat.reduceBEq, Nat.reduceBNe, reduceIte, reduceCtorEq, Int.reduceToNat, Int.reduceAdd, Int.reduceSub, Int.reduceMul, Int.reduceNeg, Int.reduceLT, Int.reduceLE, Int.reduceEq, Int.reduceNe, posts, pcells]
    refine CallP_eq hb (by decide) ?_
    simp only [List.map_nil, go_sem, Int.reduceNegSucc, Nat.reduceAdd, Nat.reduceSub, Nat.reduceMul, Nat.reduceEqDiff, Nat.reduceLeDiff, Nat.reduceLT, Nat.reduceBEq, Nat.reduceBNe, reduceIte, reduceCtorEq, Int.reduceToNat, Int.reduceAdd, Int.reduceSub, Int.reduceMul, Int.reduceNeg, Int.reduceLT, Int.reduceLE, Int.reduceEq, Int.reduceNe, posts, pcells]
  case pos =>
  rw [balR_t hr] at hb
  have hq := t_pclone a hl
  have hv := t_pclonev a hl
  simp only [posts] at hq hv
  obtain ⟨hrt, h500⟩ := rt_of hr
  have hbr := bef_rt a hrt h p
  have hk := bal_get a h p
  by_cases hh : has a h p = true
  · rw [if_pos hh] at hk
    refine ctr_go good _ _ [.tmp 10, .tmp 11] Try.func10 rfl rfl (by decide +kernel) rfl ?_
    simp only [go_sem, Int.reduceNegSucc, Nat.reduceAdd, Nat.reduceSub, Nat.reduceMul, Nat.reduceEqDiff, Nat.reduceLeDiff, Nat.reduceLT, Nat.reduceBEq, Nat.reduceBNe, reduceIte, reduceCtorEq, Int.reduceToNat, Int.reduceAdd, Int.reduceSub, Int.reduceMul, Int.reduceNeg, Int.reduceLT, Int.reduceLE, Int.reduceEq, Int.reduceNe, posts, pcells]
    refine CallP_eq hb (by decide) ?_
    simp only [go_sem, Int.reduceNegSucc, Nat.reduceAdd, Nat.reduceSub, Nat.reduceMul, Nat.reduceEqDiff, Nat.reduceLeDiff, Nat.reduceLT, Nat.reduceBEq, Nat.reduceBNe, reduceIte, reduceCtorEq, Int.reduceToNat, Int.reduceAdd, Int.reduceSub, Int.reduceMul, Int.reduceNeg, Int.reduceLT, Int.reduceLE, Int.reduceEq, Int.reduceNe, posts, pcells]
    refine CallP_eq c1 (by decide) ?_
    simp only [go_sem, Int.reduceNegSucc, Nat.reduceAdd, Nat.reduceSub, Nat.reduceMul, Nat.reduceEqDiff, Nat.reduceLeDiff, Nat.reduceLT, Nat.reduceBEq, Nat.reduceBNe, reduceIte, reduceCtorEq, Int.reduceToNat, Int.reduceAdd, Int.reduceSub, Int.reduceMul, Int.reduceNeg, Int.reduceLT, Int.reduceLE, Int.reduceEq, Int.reduceNe, posts, pcells]
    refine Two_of (fun d1 => ?_) (fun d1 => ?_)
    rotate_left
    · rw [post_arg (by rw [hr, d1]; rfl)]
      simp only [d1, List.map_nil, go_sem, Int.reduceNegSucc, Nat.reduceAdd, Nat.reduceSub, Nat.reduceMul, Nat.reduceEqDiff, Nat.reduceLeDiff, Nat.reduceLT, Nat.reduceBEq, Nat.reduceBNe, reduceIte, reduceCtorEq, Int.reduceToNat, Int.reduceAdd, Int.reduceSub, Int.reduceMul, Int.reduceNeg, Int.reduceLT, Int.reduceLE, Int.reduceEq, Int.reduceNe, posts, pcells]
    simp only [d1, go_sem, Int.reduceNegSucc, Nat.reduceAdd, Nat.reduceSub, Nat.reduceMul, Nat.reduceEqDiff, Nat.reduceLeDiff, Nat.reduceLT, Nat.reduceBEq, Nat.reduceBNe, reduceIte, reduceCtorEq, Int.reduceToNat, Int.reduceAdd, Int.reduceSub, Int.reduceMul, Int.reduceNeg, Int.reduceLT, Int.reduceLE, Int.reduceEq, Int.reduceNe, posts, pcells]
    refine CallP_eq c2 (by decide) ?_
    simp only [d1, go_sem, Int.reduceNegSucc, Nat.reduceAdd, Nat.reduceSub, Nat.reduceMul, Nat.reduceEqDiff, Nat.reduceLeDiff, Nat.reduceLT, Nat.reduceBEq, Nat.reduceBNe, reduceIte, reduceCtorEq, Int.reduceToNat, Int.reduceAdd, Int.reduceSub, Int.reduceMul, Int.reduceNeg, Int.reduceLT, Int.reduceLE, Int.reduceEq, Int.reduceNe, posts, pcells]
    refine Two_of (fun d2 => ?_) (fun d2 => ?_)
    rotate_left
    · rw [post_arg (by rw [hr, d1, d2]; rfl)]
      simp only [d1, d2, List.map_nil, go_sem, Int.reduceNegSucc, Nat.reduceAdd, Nat.reduceSub, Nat.reduceMul, Nat.reduceEqDiff, Nat.reduceLeDiff, Nat.reduceLT, Nat.reduceBEq, Nat.reduceBNe, reduceIte, reduceCtorEq, Int.reduceToNat, Int.reduceAdd, Int.reduceSub, Int.reduceMul, Int.reduceNeg, Int.reduceLT, Int.reduceLE, Int.reduceEq, Int.reduceNe, posts, pcells]
    simp only [d1, d2, go_sem, Int.reduceNegSucc, Nat.reduceAdd, Nat.reduceSub, Nat.reduceMul, Nat.reduceEqDiff, Nat.reduceLeDiff, Nat.reduceLT, Nat.reduceBEq, Nat.reduceBNe, reduceIte, reduceCtorEq, Int.reduceToNat, Int.reduceAdd, Int.reduceSub, Int.reduceMul, Int.reduceNeg, Int.reduceLT, Int.reduceLE, Int.reduceEq, Int.reduceNe, posts, pcells]
    refine CallP_eq c3 (by decide) ?_
    simp only [d1, d2, go_sem, Int.reduceNegSucc, Nat.reduceAdd, Nat.reduceSub, Nat.reduceMul, Nat.reduceEqDiff, Nat.reduceLeDiff, Nat.reduceLT, Nat.reduceBEq, Nat.reduceBNe, reduceIte, reduceCtorEq, Int.reduceToNat, Int.reduceAdd, Int.reduceSub, Int.reduceMul, Int.reduceNeg, Int.reduceLT, Int.reduceLE, Int.reduceEq, Int.reduceNe, posts, pcells]
    refine Two_of (fun d3 => ?_) (fun d3 => ?_)
    rotate_left
    · rw [post_arg (by rw [hr, d1, d2, d3]; rfl)]
      simp only [d1, d2, d3, List.map_nil, go_sem, Int.reduceNegSucc, Nat.reduceAdd, Nat.reduceSub, Nat.reduceMul, Nat.reduceEqDiff, Nat.reduceLeDiff, Nat.reduceLT, Nat.reduceBEq, Nat.reduceBNe, reduceIte, reduceCtorEq, Int.reduceToNat, Int.reduceAdd, Int.reduceSub, Int.reduceMul, Int.reduceNeg, Int.reduceLT, Int.reduceLE, Int.reduceEq, Int.reduceNe, posts, pcells]
    simp only [d1, d2, d3, go_sem, Int.reduceNegSucc, Nat.reduceAdd, Nat.reduceSub, Nat.reduceMul, Nat.reduceEqDiff, Nat.reduceLeDiff, Nat.reduceLT, Nat.reduceBEq, Nat.reduceBNe, reduceIte, reduceCtorEq, Int.reduceToNat, Int.reduceAdd, Int.reduceSub, Int.reduceMul, Int.reduceNeg, Int.reduceLT, Int.reduceLE, Int.reduceEq, Int.reduceNe, posts, pcells]
    have hg : ¬ (rightA a && (inF h 0 99 && (inF p 0 100000 && inF v 0 100000))) = false := by rw [hr, d1, d2, d3]; decide
    refine CallP_eq c4 (by decide) ?_
    simp only [d1, d2, d3, go_sem, Int.reduceNegSucc, Nat.reduceAdd, Nat.reduceSub, Nat.reduceMul, Nat.reduceEqDiff, Nat.reduceLeDiff, Nat.reduceLT, Nat.reduceBEq, Nat.reduceBNe, reduceIte, reduceCtorEq, Int.reduceToNat, Int.reduceAdd, Int.reduceSub, Int.reduceMul, Int.reduceNeg, Int.reduceLT, Int.reduceLE, Int.reduceEq, Int.reduceNe, posts, pcells]
    refine Two_of (fun d4 => ?_) (fun d4 => ?_)
    rotate_left
    · rw [post_range hg d4]
      simp only [d1, d2, d3, d4, List.map_nil, go_sem, Int.reduceNegSucc, Nat.reduceAdd, Nat.reduceSub, Nat.reduceMul, Nat.reduceEqDiff, Nat.reduceLeDiff, Nat.reduceLT, Nat.reduceBEq, Nat.reduceBNe, reduceIte, reduceCtorEq, Int.reduceToNat, Int.reduceAdd, Int.reduceSub, Int.reduceMul, Int.reduceNeg, Int.reduceLT, Int.reduceLE, Int.reduceEq, Int.reduceNe, posts, pcells]
    rw [post_ok hg (by rw [d4]; decide)]
    have hcc := inF_iff.1 d4
    have hvv := inF_iff.1 d3
    have hws := i64_ok (n := c - (bef a h p).1) (by omega)
    simp only [d1, d2, d3, d4, hk, go_sem, Int.reduceNegSucc, Nat.reduceAdd, Nat.reduceSub, Nat.reduceMul, Nat.reduceEqDiff, Nat.reduceLeDiff, Nat.reduceLT, Nat.reduceBEq, Nat.reduceBNe, reduceIte, reduceCtorEq, Int.reduceToNat, Int.reduceAdd, Int.reduceSub, Int.reduceMul, Int.reduceNeg, Int.reduceLT, Int.reduceLE, Int.reduceEq, Int.reduceNe, posts, pcells]
    refine Two_dec (fun d5 d5' => ?_) (fun d5 d5' => ?_)
    · rw [if_pos d5']
      simp only [d5, go_sem, Int.reduceNegSucc, Nat.reduceAdd, Nat.reduceSub, Nat.reduceMul, Nat.reduceEqDiff, Nat.reduceLeDiff, Nat.reduceLT, Nat.reduceBEq, Nat.reduceBNe, reduceIte, reduceCtorEq, Int.reduceToNat, Int.reduceAdd, Int.reduceSub, Int.reduceMul, Int.reduceNeg, Int.reduceLT, Int.reduceLE, Int.reduceEq, Int.reduceNe, posts, pcells]
      refine CallP_eq hq (by decide) ?_
      simp only [go_sem, Int.reduceNegSucc, Nat.reduceAdd, Nat.reduceSub, Nat.reduceMul, Nat.reduceEqDiff, Nat.reduceLeDiff, Nat.reduceLT, Nat.reduceBEq, Nat.reduceBNe, reduceIte, reduceCtorEq, Int.reduceToNat, Int.reduceAdd, Int.reduceSub, Int.reduceMul, Int.reduceNeg, Int.reduceLT, Int.reduceLE, Int.reduceEq, Int.reduceNe, posts, pcells]
    rw [if_neg d5']
    simp only [d5, go_sem, Int.reduceNegSucc, Nat.reduceAdd, Nat.reduceSub, Nat.reduceMul, Nat.reduceEqDiff, Nat.reduceLeDiff, Nat.reduceLT, Nat.reduceBEq, Nat.reduceBNe, reduceIte, reduceCtorEq, Int.reduceToNat, Int.reduceAdd, Int.reduceSub, Int.reduceMul, Int.reduceNeg, Int.reduceLT, Int.reduceLE, Int.reduceEq, Int.reduceNe, posts, pcells]
    refine Two_dec (fun d6 d6' => ?_) (fun d6 d6' => ?_)
    · rw [if_pos d6']
      simp only [d6, List.map_nil, go_sem, Int.reduceNegSucc, Nat.reduceAdd, Nat.reduceSub, Nat.reduceMul, Nat.reduceEqDiff, Nat.reduceLeDiff, Nat.reduceLT, Nat.reduceBEq, Nat.reduceBNe, reduceIte, reduceCtorEq, Int.reduceToNat, Int.reduceAdd, Int.reduceSub, Int.reduceMul, Int.reduceNeg, Int.reduceLT, Int.reduceLE, Int.reduceEq, Int.reduceNe, posts, pcells]
    rw [if_neg d6']
    simp only [d6, go_sem, Int.reduceNegSucc, Nat.reduceAdd, Nat.reduceSub, Nat.reduceMul, Nat.reduceEqDiff, Nat.reduceLeDiff, Nat.reduceLT, Nat.reduceBEq, Nat.reduceBNe, reduceIte, reduceCtorEq, Int.reduceToNat, Int.reduceAdd, Int.reduceSub, Int.reduceMul, Int.reduceNeg, Int.reduceLT, Int.reduceLE, Int.reduceEq, Int.reduceNe, posts, pcells]
    refine Two_dec (fun d7 d7' => ?_) (fun d7 d7' => ?_)
    · rw [if_pos (by omega)]
      simp only [d7, List.map_nil, go_sem, Int.reduceNegSucc, Nat.reduceAdd, Nat.reduceSub, Nat.reduceMul, Nat.reduceEqDiff, Nat.reduceLeDiff, Nat.reduceLT, Nat.reduceBEq, Nat.reduceBNe, reduceIte, reduceCtorEq, Int.reduceToNat, Int.reduceAdd, Int.reduceSub, Int.reduceMul, Int.reduceNeg, Int.reduceLT, Int.reduceLE, Int.reduceEq, Int.reduceNe, posts, pcells]
    rw [if_neg (by omega)]
    simp only [d7, hws, go_sem, Int.reduceNegSucc, Nat.reduceAdd, Nat.reduceSub, Nat.reduceMul, Nat.reduceEqDiff, Nat.reduceLeDiff, Nat.reduceLT, Nat.reduceBEq, Nat.reduceBNe, reduceIte, reduceCtorEq, Int.reduceToNat, Int.reduceAdd, Int.reduceSub, Int.reduceMul, Int.reduceNeg, Int.reduceLT, Int.reduceLE, Int.reduceEq, Int.reduceNe, posts, pcells]
    refine DrawV_of 4 1 80 4 (a.map pcells).length (by decide +kernel) ?_
    simp only [d7, hws, go_sem, Int.reduceNegSucc, Nat.reduceAdd, Nat.reduceSub, Nat.reduceMul, Nat.reduceEqDiff, Nat.reduceLeDiff, Nat.reduceLT, Nat.reduceBEq, Nat.reduceBNe, reduceIte, reduceCtorEq, Int.reduceToNat, Int.reduceAdd, Int.reduceSub, Int.reduceMul, Int.reduceNeg, Int.reduceLT, Int.reduceLE, Int.reduceEq, Int.reduceNe, posts, pcells]
    refine CallQ_eq hv (by decide) (pcells_len a) (by simp) ?_
    simp only [d7, hws, List.map_append, List.map_cons, List.map_nil, go_sem, Int.reduceNegSucc, Nat.reduceAdd, Nat.reduceSub, Nat.reduceMul, Nat.reduceEqDiff, Nat.reduceLeDiff, Nat.reduceLT, Nat.reduceBEq, Nat.reduceBNe, reduceIte, reduceCtorEq, Int.reduceToNat, Int.reduceAdd, Int.reduceSub, Int.reduceMul, Int.reduceNeg, Int.reduceLT, Int.reduceLE, Int.reduceEq, Int.reduceNe, posts, pcells]
    exact ⟨pcells_len a, by simp, by omega⟩
  · rw [if_neg hh] at hk
    have he := hbr.2.2.1 (by simpa using hh)
    refine ctr_go good _ _ [.tmp 10, .tmp 11] Try.func10 rfl rfl (by decide +kernel) rfl ?_
    simp only [go_sem, Int.reduceNegSucc, Nat.reduceAdd, Nat.reduceSub, Nat.reduceMul, Nat.reduceEqDiff, Nat.reduceLeDiff, Nat.reduceLT, Nat.reduceBEq, Nat.reduceBNe, reduceIte, reduceCtorEq, Int.reduceToNat, Int.reduceAdd, Int.reduceSub, Int.reduceMul, Int.reduceNeg, Int.reduceLT, Int.reduceLE, Int.reduceEq, Int.reduceNe, posts, pcells]
    refine CallP_eq hb (by decide) ?_
    simp only [go_sem, Int.reduceNegSucc, Nat.reduceAdd, Nat.reduceSub, Nat.reduceMul, Nat.reduceEqDiff, Nat.reduceLeDiff, Nat.reduceLT, Nat.reduceBEq, Nat.reduceBNe, reduceIte, reduceCtorEq, Int.reduceToNat, Int.reduceAdd, Int.reduceSub, Int.reduceMul, Int.reduceNeg, Int.reduceLT, Int.reduceLE, Int.reduceEq, Int.reduceNe, posts, pcells]
    refine CallP_eq c1 (by decide) ?_
    simp only [go_sem, Int.reduceNegSucc, Nat.reduceAdd, Nat.reduceSub, Nat.reduceMul, Nat.reduceEqDiff, Nat.reduceLeDiff, Nat.reduceLT, Nat.reduceBEq, Nat.reduceBNe, reduceIte, reduceCtorEq, Int.reduceToNat, Int.reduceAdd, Int.reduceSub, Int.reduceMul, Int.reduceNeg, Int.reduceLT, Int.reduceLE, Int.reduceEq, Int.reduceNe, posts, pcells]
    refine Two_of (fun d1 => ?_) (fun d1 => ?_)
    rotate_left
    · rw [post_arg (by rw [hr, d1]; rfl)]
      simp only [d1, List.map_nil, go_sem, Int.reduceNegSucc, Nat.reduceAdd, Nat.reduceSub, Nat.reduceMul, Nat.reduceEqDiff, Nat.reduceLeDiff, Nat.reduceLT, Nat.reduceBEq, Nat.reduceBNe, reduceIte, reduceCtorEq, Int.reduceToNat, Int.reduceAdd, Int.reduceSub, Int.reduceMul, Int.reduceNeg, Int.reduceLT, Int.reduceLE, Int.reduceEq, Int.reduceNe, posts, pcells]
    simp only [d1, go_sem, Int.reduceNegSucc, Nat.reduceAdd, Nat.reduceSub, Nat.reduceMul, Nat.reduceEqDiff, Nat.reduceLeDiff, Nat.reduceLT, Nat.reduceBEq, Nat.reduceBNe, reduceIte, reduceCtorEq, Int.reduceToNat, Int.reduceAdd, Int.reduceSub, Int.reduceMul, Int.reduceNeg, Int.reduceLT, Int.reduceLE, Int.reduceEq, Int.reduceNe, posts, pcells]
    refine CallP_eq c2 (by decide) ?_
    simp only [d1, go_sem, Int.reduceNegSucc, Nat.reduceAdd, Nat.reduceSub, Nat.reduceMul, Nat.reduceEqDiff, Nat.reduceLeDiff, Nat.reduceLT, Nat.reduceBEq, Nat.reduceBNe, reduceIte, reduceCtorEq, Int.reduceToNat, Int.reduceAdd, Int.reduceSub, Int.reduceMul, Int.reduceNeg, Int.reduceLT, Int.reduceLE, Int.reduceEq, Int.reduceNe, posts, pcells]
    refine Two_of (fun d2 => ?_) (fun d2 => ?_)
    rotate_left
    · rw [post_arg (by rw [hr, d1, d2]; rfl)]
      simp only [d1, d2, List.map_nil, go_sem, Int.reduceNegSucc, Nat.reduceAdd, Nat.reduceSub, Nat.reduceMul, Nat.reduceEqDiff, Nat.reduceLeDiff, Nat.reduceLT, Nat.reduceBEq, Nat.reduceBNe, reduceIte, reduceCtorEq, Int.reduceToNat, Int.reduceAdd, Int.reduceSub, Int.reduceMul, Int.reduceNeg, Int.reduceLT, Int.reduceLE, Int.reduceEq, Int.reduceNe, posts, pcells]
    simp only [d1, d2, go_sem, Int.reduceNegSucc, Nat.reduceAdd, Nat.reduceSub, Nat.reduceMul, Nat.reduceEqDiff, Nat.reduceLeDiff, Nat.reduceLT, Nat.reduceBEq, Nat.reduceBNe, reduceIte, reduceCtorEq, Int.reduceToNat, Int.reduceAdd, Int.reduceSub, Int.reduceMul, Int.reduceNeg, Int.reduceLT, Int.reduceLE, Int.reduceEq, Int.reduceNe, posts, pcells]
    refine CallP_eq c3 (by decide) ?_
    simp only [d1, d2, go_sem, Int.reduceNegSucc, Nat.reduceAdd, Nat.reduceSub, Nat.reduceMul, Nat.reduceEqDiff, Nat.reduceLeDiff, Nat.reduceLT, Nat.reduceBEq, Nat.reduceBNe, reduceIte, reduceCtorEq, Int.reduceToNat, Int.reduceAdd, Int.reduceSub, Int.reduceMul, Int.reduceNeg, Int.reduceLT, Int.reduceLE, Int.reduceEq, Int.reduceNe, posts, pcells]
    refine Two_of (fun d3 => ?_) (fun d3 => ?_)
    rotate_left
    · rw [post_arg (by rw [hr, d1, d2, d3]; rfl)]
      simp only [d1, d2, d3, List.map_nil, go_sem, Int.reduceNegSucc, Nat.reduceAdd, Nat.reduceSub, Nat.reduceMul, Nat.reduceEqDiff, Nat.reduceLeDiff, Nat.reduceLT, Nat.reduceBEq, Nat.reduceBNe, reduceIte, reduceCtorEq, Int.reduceToNat, Int.reduceAdd, Int.reduceSub, Int.reduceMul, Int.reduceNeg, Int.reduceLT, Int.reduceLE, Int.reduceEq, Int.reduceNe, posts, pcells]
    simp only [d1, d2, d3, go_sem, Int.reduceNegSucc, Nat.reduceAdd, Nat.reduceSub, Nat.reduceMul, Nat.reduceEqDiff, Nat.reduceLeDiff, Nat.reduceLT, Nat.reduceBEq, Nat.reduceBNe, reduceIte, reduceCtorEq, Int.reduceToNat, Int.reduceAdd, Int.reduceSub, Int.reduceMul, Int.reduceNeg, Int.reduceLT, Int.reduceLE, Int.reduceEq, Int.reduceNe, posts, pcells]
    have hg : ¬ (rightA a && (inF h 0 99 && (inF p 0 100000 && inF v 0 100000))) = false := by rw [hr, d1, d2, d3]; decide
    refine CallP_eq c4 (by decide) ?_
    simp only [d1, d2, d3, go_sem, Int.reduceNegSucc, Nat.reduceAdd, Nat.reduceSub, Nat.reduceMul, Nat.reduceEqDiff, Nat.reduceLeDiff, Nat.reduceLT, Nat.reduceBEq, Nat.reduceBNe, reduceIte, reduceCtorEq, Int.reduceToNat, Int.reduceAdd, Int.reduceSub, Int.reduceMul, Int.reduceNeg, Int.reduceLT, Int.reduceLE, Int.reduceEq, Int.reduceNe, posts, pcells]
    refine Two_of (fun d4 => ?_) (fun d4 => ?_)
    rotate_left
    · rw [post_range hg d4]
      simp only [d1, d2, d3, d4, List.map_nil, go_sem, Int.reduceNegSucc, Nat.reduceAdd, Nat.reduceSub, Nat.reduceMul, Nat.reduceEqDiff, Nat.reduceLeDiff, Nat.reduceLT, Nat.reduceBEq, Nat.reduceBNe, reduceIte, reduceCtorEq, Int.reduceToNat, Int.reduceAdd, Int.reduceSub, Int.reduceMul, Int.reduceNeg, Int.reduceLT, Int.reduceLE, Int.reduceEq, Int.reduceNe, posts, pcells]
    rw [post_ok hg (by rw [d4]; decide)]
    have hcc := inF_iff.1 d4
    have hvv := inF_iff.1 d3
    rw [he]
    have hws := i64_ok (n := c - 0) (by omega)
    simp only [d1, d2, d3, d4, hk, go_sem, Int.reduceNegSucc, Nat.reduceAdd, Nat.reduceSub, Nat.reduceMul, Nat.reduceEqDiff, Nat.reduceLeDiff, Nat.reduceLT, Nat.reduceBEq, Nat.reduceBNe, reduceIte, reduceCtorEq, Int.reduceToNat, Int.reduceAdd, Int.reduceSub, Int.reduceMul, Int.reduceNeg, Int.reduceLT, Int.reduceLE, Int.reduceEq, Int.reduceNe, posts, pcells]
    refine Two_dec (fun d5 d5' => ?_) (fun d5 d5' => ?_)
    · rw [if_pos d5']
      simp only [d5, go_sem, Int.reduceNegSucc, Nat.reduceAdd, Nat.reduceSub, Nat.reduceMul, Nat.reduceEqDiff, Nat.reduceLeDiff, Nat.reduceLT, Nat.reduceBEq, Nat.reduceBNe, reduceIte, reduceCtorEq, Int.reduceToNat, Int.reduceAdd, Int.reduceSub, Int.reduceMul, Int.reduceNeg, Int.reduceLT, Int.reduceLE, Int.reduceEq, Int.reduceNe, posts, pcells]
      refine CallP_eq hq (by decide) ?_
      simp only [go_sem, Int.reduceNegSucc, Nat.reduceAdd, Nat.reduceSub, Nat.reduceMul, Nat.reduceEqDiff, Nat.reduceLeDiff, Nat.reduceLT, Nat.reduceBEq, Nat.reduceBNe, reduceIte, reduceCtorEq, Int.reduceToNat, Int.reduceAdd, Int.reduceSub, Int.reduceMul, Int.reduceNeg, Int.reduceLT, Int.reduceLE, Int.reduceEq, Int.reduceNe, posts, pcells]
    rw [if_neg d5', if_neg (by show ¬ v ≤ -1; omega)]
    simp only [d5, go_sem, Int.reduceNegSucc, Nat.reduceAdd, Nat.reduceSub, Nat.reduceMul, Nat.reduceEqDiff, Nat.reduceLeDiff, Nat.reduceLT, Nat.reduceBEq, Nat.reduceBNe, reduceIte, reduceCtorEq, Int.reduceToNat, Int.reduceAdd, Int.reduceSub, Int.reduceMul, Int.reduceNeg, Int.reduceLT, Int.reduceLE, Int.reduceEq, Int.reduceNe, posts, pcells]
    refine Two_dec (fun d7 d7' => ?_) (fun d7 d7' => ?_)
    · rw [if_pos (by omega)]
      simp only [d7, List.map_nil, go_sem, Int.reduceNegSucc, Nat.reduceAdd, Nat.reduceSub, Nat.reduceMul, Nat.reduceEqDiff, Nat.reduceLeDiff, Nat.reduceLT, Nat.reduceBEq, Nat.reduceBNe, reduceIte, reduceCtorEq, Int.reduceToNat, Int.reduceAdd, Int.reduceSub, Int.reduceMul, Int.reduceNeg, Int.reduceLT, Int.reduceLE, Int.reduceEq, Int.reduceNe, posts, pcells]
    rw [if_neg (by omega)]
    simp only [d7, hws, go_sem, Int.reduceNegSucc, Nat.reduceAdd, Nat.reduceSub, Nat.reduceMul, Nat.reduceEqDiff, Nat.reduceLeDiff, Nat.reduceLT, Nat.reduceBEq, Nat.reduceBNe, reduceIte, reduceCtorEq, Int.reduceToNat, Int.reduceAdd, Int.reduceSub, Int.reduceMul, Int.reduceNeg, Int.reduceLT, Int.reduceLE, Int.reduceEq, Int.reduceNe, posts, pcells]
    refine DrawV_of 4 1 80 4 (a.map pcells).length (by decide +kernel) ?_
    simp only [d7, hws, go_sem, Int.reduceNegSucc, Nat.reduceAdd, Nat.reduceSub, Nat.reduceMul, Nat.reduceEqDiff, Nat.reduceLeDiff, Nat.reduceLT, Nat.reduceBEq, Nat.reduceBNe, reduceIte, reduceCtorEq, Int.reduceToNat, Int.reduceAdd, Int.reduceSub, Int.reduceMul, Int.reduceNeg, Int.reduceLT, Int.reduceLE, Int.reduceEq, Int.reduceNe, posts, pcells]
    refine CallQ_eq hv (by decide) (pcells_len a) (by simp) ?_
    simp only [d7, hws, List.map_append, List.map_cons, List.map_nil, go_sem, Int.reduceNegSucc, Nat.reduceAdd, Nat.reduceSub, Nat.reduceMul, Nat.reduceEqDiff, Nat.reduceLeDiff, Nat.reduceLT, Nat.reduceBEq, Nat.reduceBNe, reduceIte, reduceCtorEq, Int.reduceToNat, Int.reduceAdd, Int.reduceSub, Int.reduceMul, Int.reduceNeg, Int.reduceLT, Int.reduceLE, Int.reduceEq, Int.reduceNe, posts, pcells]
    exact ⟨pcells_len a, by simp, by omega⟩
end Go.Proofs.Ytpnlfkaijdjhlab

/-
  Numbers as lists of digits to the base 2^20, the least first. Program-independent. The generic layer under all claims of this repo: numbers, 1.
-/
namespace Go.Abs
set_option linter.all false

def val : List Int → Int
  | [] => 0
  | d :: l => d + 1048576 * val l
def OkD (l : List Int) : Prop := ∀ d ∈ l, 0 ≤ d ∧ d < 1048576
/-- Digit i of a list, or 0. -/
def dgt (l : List Int) (i : Nat) : Int := (l[i]?).getD 0
def dig (n : Nat) : List Int := if h : n = 0 then [] else ((n % 1048576 : Nat) : Int) :: dig (n / 1048576)
  termination_by n
  decreasing_by omega

theorem OkD.nil : OkD [] := fun _ h => by cases h
theorem OkD.cons {d : Int} {l : List Int} (h : 0 ≤ d ∧ d < 1048576) (hl : OkD l) : OkD (d :: l) := fun x hx => by
  rcases List.mem_cons.1 hx with rfl | hx
  · exact h
  · exact hl x hx
theorem OkD.tail {d : Int} {l : List Int} (h : OkD (d :: l)) : OkD l := fun x hx => h x (List.mem_cons_of_mem _ hx)
theorem OkD.head {d : Int} {l : List Int} (h : OkD (d :: l)) : 0 ≤ d ∧ d < 1048576 := h d (List.mem_cons_self ..)
theorem OkD.take {l : List Int} (h : OkD l) (n : Nat) : OkD (l.take n) := fun x hx => h x (List.mem_of_mem_take hx)
theorem OkD.drop {l : List Int} (h : OkD l) (n : Nat) : OkD (l.drop n) := fun x hx => h x (List.mem_of_mem_drop hx)
theorem OkD.append {a b : List Int} (ha : OkD a) (hb : OkD b) : OkD (a ++ b) := fun x hx => (List.mem_append.1 hx).elim (ha x) (hb x)
theorem OkD.dgt {l : List Int} (h : OkD l) (i : Nat) : 0 ≤ dgt l i ∧ dgt l i < 1048576 := by
  unfold Go.Abs.dgt
  cases hi : l[i]? with
  | none => simp
  | some d => exact h d (List.mem_of_getElem? hi)
theorem val_nonneg : ∀ {l : List Int}, OkD l → 0 ≤ val l
  | [], _ => Int.le_refl _
  | d :: l, h => by
    have := val_nonneg h.tail
    have := h.head
    simp only [val]; omega
theorem val_lt : ∀ {l : List Int}, OkD l → val l < 1048576 ^ l.length
  | [], _ => by simp [val]
  | d :: l, h => by
    have h1 := val_lt h.tail
    have h2 := h.head
    simp only [val, List.length_cons, Int.pow_succ]
    omega
theorem dig_zero : dig 0 = [] := by rw [dig]; simp
theorem dig_step {n : Nat} (h : n ≠ 0) : dig n = ((n % 1048576 : Nat) : Int) :: dig (n / 1048576) := by
  conv => lhs; rw [dig]
  rw [dif_neg h]
theorem dig_ok (n : Nat) : OkD (dig n) := by
  induction n using Nat.strongRecOn with
  | _ n ih =>
    by_cases h : n = 0
    · subst h; rw [dig_zero]; exact OkD.nil
    · rw [dig_step h]
      exact OkD.cons (by omega) (ih _ (by omega))
theorem val_dig (n : Nat) : val (dig n) = n := by
  induction n using Nat.strongRecOn with
  | _ n ih =>
    by_cases h : n = 0
    · subst h; rw [dig_zero]; rfl
    · rw [dig_step h, val, ih _ (by omega)]
      omega
theorem dig_nil {n : Nat} : dig n = [] ↔ n = 0 := by
  constructor
  · intro h
    have := val_dig n
    rw [h] at this
    simp only [val] at this
    omega
  · intro h; subst h; exact dig_zero
/-- The digits of a number are those that do not end in 0. -/
theorem eq_dig : ∀ {l : List Int}, OkD l → l.getLast? ≠ some 0 → l = dig (val l).toNat
  | [], _, _ => by simp [val, dig_zero]
  | d :: l, h, hl => by
    have hd := h.head
    have hv := val_nonneg h.tail
    cases l with
    | nil =>
      have : d ≠ 0 := fun e => hl (by simp [e])
      simp only [val, Int.mul_zero, Int.add_zero]
      rw [dig_step (by omega), show d.toNat / 1048576 = 0 by omega, dig_zero]
      congr 1; omega
    | cons e l =>
      have hl' : (e :: l).getLast? ≠ some 0 := by rw [List.getLast?_cons_cons] at hl; exact hl
      have ih := eq_dig h.tail hl'
      have hne : (val (e :: l)).toNat ≠ 0 := fun h0 => by rw [h0, dig_zero] at ih; cases ih
      generalize hw : e :: l = w at *
      have hval : val (d :: w) = d + 1048576 * val w := rfl
      rw [dig_step (by omega), show (val (d :: w)).toNat / 1048576 = (val w).toNat by omega, ← ih]
      congr 1; omega
theorem last_dig (n : Nat) : (dig n).getLast? ≠ some 0 := by
  induction n using Nat.strongRecOn with
  | _ n ih =>
    by_cases h : n = 0
    · subst h; rw [dig_zero]; simp
    · rw [dig_step h]
      by_cases h2 : n / 1048576 = 0
      · rw [h2, dig_zero]
        simp; omega
      · have := ih (n / 1048576) (by omega)
        cases hd : dig (n / 1048576) with
        | nil => rw [dig_nil] at hd; exact absurd hd h2
        | cons e l => rw [List.getLast?_cons_cons, ← hd]; exact this
theorem val_append : ∀ (a b : List Int), val (a ++ b) = val a + 1048576 ^ a.length * val b
  | [], b => by simp [val]
  | d :: a, b => by
    simp only [List.cons_append, val, val_append a b, List.length_cons, Int.pow_succ, Int.mul_add, Int.mul_assoc]
    rw [Int.mul_left_comm (1048576 : Int)]
    omega
theorem val_take_succ (l : List Int) (i : Nat) : val (l.take (i + 1)) = val (l.take i) + 1048576 ^ i * dgt l i := by
  rcases Nat.lt_or_ge i l.length with h | h
  · rw [List.take_succ_eq_append_getElem h, val_append]
    have : (l.take i).length = i := by rw [List.length_take]; omega
    have hd : dgt l i = l[i] := by unfold dgt; rw [List.getElem?_eq_getElem h]; rfl
    rw [this, hd]
    have hs : val [l[i]] = l[i] := by
      show l[i] + 1048576 * 0 = l[i]
      omega
    rw [hs]
  · rw [List.take_of_length_le (by omega), List.take_of_length_le h, show dgt l i = 0 by unfold dgt; rw [List.getElem?_eq_none h]; rfl, Int.mul_zero, Int.add_zero]
theorem val_split (l : List Int) (i : Nat) : val l = val (l.take i) + 1048576 ^ i * val (l.drop i) := by
  rcases Nat.lt_or_ge i l.length with h | h
  · conv => lhs; rw [← List.take_append_drop i l]
    rw [val_append]
    have : (l.take i).length = i := by rw [List.length_take]; omega
    rw [this]
  · rw [List.take_of_length_le h, List.drop_of_length_le h]
    simp [val]
theorem val_drop (l : List Int) (i : Nat) : val (l.drop i) = dgt l i + 1048576 * val (l.drop (i + 1)) := by
  rcases Nat.lt_or_ge i l.length with h | h
  · rw [List.drop_eq_getElem_cons h, val]
    simp [dgt, h]
  · rw [List.drop_of_length_le h, List.drop_of_length_le (by omega)]
    simp [val, dgt, List.getElem?_eq_none h]
theorem val_drop_congr (a b : List Int) : ∀ (n k : Nat), a.length + b.length ≤ k + n → (∀ j, k ≤ j → dgt a j = dgt b j) → val (a.drop k) = val (b.drop k)
  | 0, k, h, _ => by rw [List.drop_of_length_le (by omega), List.drop_of_length_le (by omega)]
  | n + 1, k, h, hj => by
    rw [val_drop a, val_drop b, hj k (Nat.le_refl _), val_drop_congr a b n (k + 1) (by omega) fun j h => hj j (by omega)]
theorem pow_pos' (i : Nat) : (0 : Int) < 1048576 ^ i := Int.pow_pos (by omega)
theorem val_take_lt {l : List Int} (h : OkD l) (i : Nat) : val (l.take i) < 1048576 ^ i := by
  have h1 := val_lt (h.take i)
  have h2 : (1048576 : Int) ^ (l.take i).length ≤ 1048576 ^ i := by
    have hl : (l.take i).length ≤ i := by rw [List.length_take]; omega
    have h3 : (1048576 : Nat) ^ (l.take i).length ≤ 1048576 ^ i := Nat.pow_le_pow_right (by omega) hl
    have h4 := Int.ofNat_le.2 h3
    rw [Int.natCast_pow, Int.natCast_pow] at h4
    exact h4
  omega
/-- Where the digits differ first from above, there the numbers differ. -/
theorem lt_at {a b : List Int} (ha : OkD a) (hb : OkD b) (i : Nat) (h : ∀ j, i < j → dgt a j = dgt b j) (hlt : dgt a i < dgt b i) : val a < val b := by
  have e : val (a.drop (i + 1)) = val (b.drop (i + 1)) := val_drop_congr a b (a.length + b.length) (i + 1) (by omega) fun j hj => h j (by omega)
  have h1 := val_take_lt ha i
  have h2 := val_nonneg (hb.take i)
  have hp := pow_pos' i
  rw [val_split a i, val_split b i, val_drop a i, val_drop b i, e]
  generalize val (b.drop (i + 1)) = v
  generalize (1048576 : Int) ^ i = p at *
  have h3 : p * (dgt a i + 1048576 * v) + p ≤ p * (dgt b i + 1048576 * v) := by
    have : p * (dgt a i + 1048576 * v) + p = p * (dgt a i + 1 + 1048576 * v) := by rw [Int.mul_add, Int.mul_add, Int.mul_add]; omega
    rw [this]
    exact Int.mul_le_mul_of_nonneg_left (by omega) (by omega)
  omega
theorem same_val {a b : List Int} (h : ∀ j, dgt a j = dgt b j) : val a = val b := by
  have := val_drop_congr a b (a.length + b.length) 0 (by omega) fun j _ => h j
  simpa using this
theorem dgt_take {l : List Int} {n j : Nat} (h : ∀ i, n ≤ i → dgt l i = 0) : dgt (l.take n) j = dgt l j := by
  unfold dgt at *
  rw [List.getElem?_take]
  split
  · rfl
  · rename_i hj
    exact (h j (by omega)).symm
/-- Zeros at the end cut off. -/
theorem take_dig {l : List Int} (hl : OkD l) {n : Nat} (hn : n ≤ l.length) (hz : ∀ i, n ≤ i → dgt l i = 0) (hlast : n = 0 ∨ dgt l (n - 1) ≠ 0) : l.take n = dig (val l).toNat := by
  have hv : val (l.take n) = val l := same_val fun j => dgt_take hz
  rw [← hv]
  refine eq_dig (hl.take n) fun h => ?_
  rcases hlast with h0 | h0
  · subst h0; simp at h
  · have hlen : (l.take n).length = n := by rw [List.length_take]; omega
    rw [List.getLast?_eq_getElem?, hlen] at h
    have hn0 : 0 < n := by
      rcases Nat.eq_zero_or_pos n with e | e
      · subst e; simp at h
      · exact e
    rw [List.getElem?_take, if_pos (by omega)] at h
    exact h0 (by simp [dgt, h])
end Go.Abs

namespace Go.Abs
set_option linter.all false

theorem val_one (d : Int) : val [d] = d := by
  show d + 1048576 * 0 = d
  omega
theorem val_snoc (l : List Int) (d : Int) : val (l ++ [d]) = val l + 1048576 ^ l.length * d := by rw [val_append, val_one]
theorem pow_step (i : Nat) : (1048576 : Int) ^ (i + 1) = 1048576 ^ i * 1048576 := Int.pow_succ ..
theorem plus_step {out a b : List Int} {i : Nat} {c n : Int} (hlen : out.length = i) (h : val out + 1048576 ^ i * c = val (a.take i) + val (b.take i)) (hn : n = dgt a i + dgt b i + c) :
    val (out ++ [n % 1048576]) + 1048576 ^ (i + 1) * (n / 1048576) = val (a.take (i + 1)) + val (b.take (i + 1)) := by
  rw [val_snoc, hlen, val_take_succ, val_take_succ, pow_step]
  generalize (1048576 : Int) ^ i = p at *
  have e : p * (n % 1048576) + p * 1048576 * (n / 1048576) = p * n := by
    rw [Int.mul_assoc, ← Int.mul_add, Int.emod_add_mul_ediv]
  have e2 : p * n = p * dgt a i + p * dgt b i + p * c := by rw [hn, Int.mul_add, Int.mul_add]
  omega
theorem minus_step {out a b : List Int} {i : Nat} {c n d c' : Int} (hlen : out.length = i) (h : val out - 1048576 ^ i * c = val (a.take i) - val (b.take i)) (hn : n = dgt a i - dgt b i - c) (hd : d - 1048576 * c' = n) :
    val (out ++ [d]) - 1048576 ^ (i + 1) * c' = val (a.take (i + 1)) - val (b.take (i + 1)) := by
  rw [val_snoc, hlen, val_take_succ, val_take_succ, pow_step]
  generalize (1048576 : Int) ^ i = p at *
  have e : p * d - p * 1048576 * c' = p * n := by rw [Int.mul_assoc, ← Int.mul_sub, hd]
  have e2 : p * n = p * dgt a i - p * dgt b i - p * c := by rw [hn, Int.mul_sub, Int.mul_sub]
  omega
theorem val_take_all {l : List Int} {i : Nat} (h : l.length ≤ i) : val (l.take i) = val l := by rw [List.take_of_length_le h]
/-- The digits above are 0 where the number is small. -/
theorem drop_zero_of_lt {l : List Int} (hl : OkD l) {i : Nat} (h : val l < 1048576 ^ i) : val (l.drop i) = 0 := by
  have h1 := val_split l i
  have h2 := val_nonneg (hl.take i)
  have h3 := val_nonneg (hl.drop i)
  have hp := pow_pos' i
  rcases Int.lt_or_le 0 (val (l.drop i)) with h4 | h4
  · have : 1048576 ^ i * 1 ≤ 1048576 ^ i * val (l.drop i) := Int.mul_le_mul_of_nonneg_left (by omega) (by omega)
    omega
  · omega
theorem take_of_lt {l : List Int} (hl : OkD l) {i : Nat} (h : val l < 1048576 ^ i) : val (l.take i) = val l := by
  have h1 := val_split l i
  rw [drop_zero_of_lt hl h, Int.mul_zero] at h1
  omega
theorem dig_len_le {n k : Nat} (h : (n : Int) < 1048576 ^ k) : (dig n).length ≤ k := by
  induction k generalizing n with
  | zero =>
    have : n = 0 := by simp at h; omega
    subst this; rw [dig_zero]; exact Nat.le_refl _
  | succ k ih =>
    by_cases hn : n = 0
    · subst hn; rw [dig_zero]; exact Nat.zero_le _
    · rw [dig_step hn, List.length_cons]
      rw [pow_step] at h
      have := ih (n := n / 1048576) (by omega)
      omega
end Go.Abs

namespace Go.Proofs.Ytpnlfkaijdjhlab
set_option linter.all false
open Go.Abs

theorem ic_len (l : List Int) : ∀ c ∈ l.map ic, c.length = 1 := fun c hc => by
  obtain ⟨z, _, rfl⟩ := List.mem_map.1 hc; rfl
theorem ic_all (l : List Int) : ((l.map ic).all fun c => c.length == 1) = true := by
  rw [List.all_eq_true]; intro c hc; rw [beq_iff_eq]; exact ic_len l c hc
theorem get_nat {l : List Int} {i : Nat} (h : (i : Int) < l.length) : l[i]? = some (dgt l i) := by
  have h : i < l.length := by omega
  unfold dgt; rw [List.getElem?_eq_getElem h]; rfl
theorem dgt_at {l : List Int} {i : Nat} {d : Int} (h : l[i]? = some d) : dgt l i = d := by simp [dgt, h]
theorem dgt_none {l : List Int} {i : Nat} (h : l.length ≤ i) : dgt l i = 0 := by simp [dgt, List.getElem?_eq_none h]
theorem t_digit (l : List Int) (i : Nat) : Ctr G.P 97 [ints l, .int i] (· = .int (dgt l i)) := by
  by_cases hp : (i : Int) < l.length
  · have hd : decide ((i : Int) < l.length) = true := decide_eq_true hp
    have hx : l[i]? = some (dgt l i) := by
      have h : i < l.length := by omega
      unfold dgt; rw [List.getElem?_eq_getElem h]; rfl
    generalize dgt l i = d at *
    refine ctr_go good _ _ [.tmp 4] Try.func97 rfl rfl (by decide +kernel) rfl ?_
    simp only [hd, List.getElem?_map, hx, go_sem, Int.reduceNegSucc, Nat.reduceAdd, Nat.reduceSub, Nat.reduceMul, Nat.reduceEqDiff, Nat.reduceLeDiff, Nat.reduceLT, Nat.reduceBEq, Nat.reduceBNe, reduceIte, reduceCtorEq, Int.reduceToNat, Int.reduceAdd, Int.reduceSub, Int.reduceMul, Int.reduceNeg, Int.reduceLT, Int.reduceLE, Int.reduceEq, Int.reduceNe, ints, ic]
  · have hd : decide ((i : Int) < l.length) = false := decide_eq_false hp
    rw [dgt_none (by omega)]
    refine ctr_go good _ _ [.tmp 4] Try.func97 rfl rfl (by decide +kernel) rfl ?_
    simp only [hd, go_sem, Int.reduceNegSucc, Nat.reduceAdd, Nat.reduceSub, Nat.reduceMul, Nat.reduceEqDiff, Nat.reduceLeDiff, Nat.reduceLT, Nat.reduceBEq, Nat.reduceBNe, reduceIte, reduceCtorEq, Int.reduceToNat, Int.reduceAdd, Int.reduceSub, Int.reduceMul, Int.reduceNeg, Int.reduceLT, Int.reduceLE, Int.reduceEq, Int.reduceNe, ints, ic]
set_option maxRecDepth 100000 in
set_option maxHeartbeats 1000000 in
theorem t_trim (l : List Int) (hl : OkD l) (hlen : l.length ≤ 1000000) : Ctr G.P 95 [ints l] (· = ints (dig (val l).toNat)) := by
  refine ctr_go good _ _ [.tmp 2] Try.func95 rfl rfl (by decide +kernel) rfl ?_
  simp only [go_sem, Int.reduceNegSucc, Nat.reduceAdd, Nat.reduceSub, Nat.reduceMul, Nat.reduceEqDiff, Nat.reduceLeDiff, Nat.reduceLT, Nat.reduceBEq, Nat.reduceBNe, reduceIte, reduceCtorEq, Int.reduceToNat, Int.reduceAdd, Int.reduceSub, Int.reduceMul, Int.reduceNeg, Int.reduceLT, Int.reduceLE, Int.reduceEq, Int.reduceNe, ints, ic]
  refine LoopP_of [0, 3] [] (fun n : Nat => ⟨[(0, .im (.sl (l.map ic))), (3, .im (.int n))], [], []⟩) (fun n => n ≤ l.length ∧ ∀ i, n ≤ i → dgt l i = 0) (fun n => n) l.length ?_ ⟨Nat.le_refl _, fun i hi => dgt_none hi⟩ ?_
  · simp only [go_sem, Int.reduceNegSucc, Nat.reduceAdd, Nat.reduceSub, Nat.reduceMul, Nat.reduceEqDiff, Nat.reduceLeDiff, Nat.reduceLT, Nat.reduceBEq, Nat.reduceBNe, reduceIte, reduceCtorEq, Int.reduceToNat, Int.reduceAdd, Int.reduceSub, Int.reduceMul, Int.reduceNeg, Int.reduceLT, Int.reduceLE, Int.reduceEq, Int.reduceNe, ints, ic]
  · intro n ⟨hn, hz⟩
    have fin : n = 0 ∨ dgt l (n - 1) ≠ 0 → (l.map ic).take n = (dig (val l).toNat).map ic := fun h => by
      rw [← List.map_take, take_dig hl hn hz h]
    have hnn : (n : Int) ≤ l.length := by omega
    rcases n with _ | m
    · have hd : decide ((0 : Int) < ((0 : Nat) : Int)) = false := by decide
      have hf := fin (.inl rfl)
      rw [List.take_zero] at hf
      have hg : dig (val l).toNat = [] := List.map_eq_nil_iff.1 hf.symm
      rw [hg]
      simp only [hd, Int.natCast_zero, Int.lt_irrefl, ic_all, go_sem, Int.reduceNegSucc, Nat.reduceAdd, Nat.reduceSub, Nat.reduceMul, Nat.reduceEqDiff, Nat.reduceLeDiff, Nat.reduceLT, Nat.reduceBEq, Nat.reduceBNe, reduceIte, reduceCtorEq, Int.reduceToNat, Int.reduceAdd, Int.reduceSub, Int.reduceMul, Int.reduceNeg, Int.reduceLT, Int.reduceLE, Int.reduceEq, Int.reduceNe, ints, ic]
      exact ⟨by simp, by simp⟩
    · have hd : decide ((0 : Int) < ((m + 1 : Nat) : Int)) = true := decide_eq_true (by omega)
      have h1 := i64_ok (n := (m : Int)) (by omega)
      have h2 : ((m + 1 : Nat) : Int) - 1 = m := by omega
      have h3 : ((m + 1 : Nat) : Int).toNat = m + 1 := by omega
      have h4 : (0 : Int) ≤ ((m + 1 : Nat) : Int) := by omega
      obtain ⟨d, hx⟩ : ∃ d, l[m]? = some d := ⟨_, List.getElem?_eq_getElem (by omega)⟩
      have hdm := dgt_at hx
      simp only [hd, h1, h2, List.getElem?_map, hx, go_sem, Int.reduceNegSucc, Nat.reduceAdd, Nat.reduceSub, Nat.reduceMul, Nat.reduceEqDiff, Nat.reduceLeDiff, Nat.reduceLT, Nat.reduceBEq, Nat.reduceBNe, reduceIte, reduceCtorEq, Int.reduceToNat, Int.reduceAdd, Int.reduceSub, Int.reduceMul, Int.reduceNeg, Int.reduceLT, Int.reduceLE, Int.reduceEq, Int.reduceNe, ints, ic]
      refine Two_dec (fun hb hb' => ?_) (fun hb hb' => ?_)
      · simp only [hd, h1, h2, go_sem, Int.reduceNegSucc, Nat.reduceAdd, Nat.reduceSub, Nat.reduceMul, Nat.reduceEqDiff, Nat.reduceLeDiff, Nat.reduceLT, Nat.reduceBEq, Nat.reduceBNe, reduceIte, reduceCtorEq, Int.reduceToNat, Int.reduceAdd, Int.reduceSub, Int.reduceMul, Int.reduceNeg, Int.reduceLT, Int.reduceLE, Int.reduceEq, Int.reduceNe, ints, ic]
        refine RoundP_of m ?_ (by omega) ⟨by omega, fun i hi => ?_⟩
        · simp only [h1, h2, go_sem, Int.reduceNegSucc, Nat.reduceAdd, Nat.reduceSub, Nat.reduceMul, Nat.reduceEqDiff, Nat.reduceLeDiff, Nat.reduceLT, Nat.reduceBEq, Nat.reduceBNe, reduceIte, reduceCtorEq, Int.reduceToNat, Int.reduceAdd, Int.reduceSub, Int.reduceMul, Int.reduceNeg, Int.reduceLT, Int.reduceLE, Int.reduceEq, Int.reduceNe, ints, ic]
        · rcases Nat.lt_or_ge m i with h | h
          · exact hz i h
          · rw [show i = m by omega, hdm]; exact hb'
      · have hf := fin (.inr (by rw [Nat.add_sub_cancel, hdm]; exact hb'))
        simp only [ic_all, hnn, h3, h4, go_sem, Int.reduceNegSucc, Nat.reduceAdd, Nat.reduceSub, Nat.reduceMul, Nat.reduceEqDiff, Nat.reduceLeDiff, Nat.reduceLT, Nat.reduceBEq, Nat.reduceBNe, reduceIte, reduceCtorEq, Int.reduceToNat, Int.reduceAdd, Int.reduceSub, Int.reduceMul, Int.reduceNeg, Int.reduceLT, Int.reduceLE, Int.reduceEq, Int.reduceNe, ints, ic]
        refine ⟨by simp, ?_, ?_, ?_⟩
        · rw [Nat.sub_zero, hf]; exact ic_len _
        · rw [List.length_take, List.length_map]; omega
        · rw [Nat.sub_zero, hf]
set_option maxRecDepth 100000 in
set_option maxHeartbeats 1000000 in
theorem t_plus (a b : List Int) (ha : OkD a) (hb : OkD b) (la : a.length ≤ 100000) (lb : b.length ≤ 100000) : Ctr G.P 85 [ints a, ints b] (· = ints (dig (val a + val b).toNat)) := by
  refine ctr_go good _ _ [.tmp 4] Try.func85 rfl rfl (by decide +kernel) rfl ?_
  simp only [go_sem, Int.reduceNegSucc, Nat.reduceAdd, Nat.reduceSub, Nat.reduceMul, Nat.reduceEqDiff, Nat.reduceLeDiff, Nat.reduceLT, Nat.reduceBEq, Nat.reduceBNe, reduceIte, reduceCtorEq, Int.reduceToNat, Int.reduceAdd, Int.reduceSub, Int.reduceMul, Int.reduceNeg, Int.reduceLT, Int.reduceLE, Int.reduceEq, Int.reduceNe, ints, ic]
  refine LoopP_ofP [0, 1, 5, 6, 7] [38] [(5, 38, 3, 1)] (fun g : Nat × List Int × Int => ⟨[(0, .im (.sl (a.map ic))), (1, .im (.sl (b.map ic))), (5, .vec 38 3 1 (g.2.1.map ic)), (6, .im (.int g.2.2)), (7, .im (.int g.1))], [], [(38, 1, g.2.1.length)]⟩)
    (fun g => g.2.1.length = g.1 ∧ OkD g.2.1 ∧ 0 ≤ g.2.2 ∧ g.2.2 ≤ 1 ∧ val g.2.1 + 1048576 ^ g.1 * g.2.2 = val (a.take g.1) + val (b.take g.1) ∧ g.1 ≤ max a.length b.length + 1 ∧ (max a.length b.length < g.1 → g.2.2 = 0))
    (fun g => max a.length b.length + 1 - g.1) (0, [], 0) ?_ ?_ ⟨rfl, OkD.nil, Int.le_refl _, by decide, rfl, Nat.zero_le _, fun _ => rfl⟩ ?_
  · simp only [go_sem, Int.reduceNegSucc, Nat.reduceAdd, Nat.reduceSub, Nat.reduceMul, Nat.reduceEqDiff, Nat.reduceLeDiff, Nat.reduceLT, Nat.reduceBEq, Nat.reduceBNe, reduceIte, reduceCtorEq, Int.reduceToNat, Int.reduceAdd, Int.reduceSub, Int.reduceMul, Int.reduceNeg, Int.reduceLT, Int.reduceLE, Int.reduceEq, Int.reduceNe, ints, ic]
    simp
  · simp only [Int.natCast_zero, List.map_nil, go_sem, Int.reduceNegSucc, Nat.reduceAdd, Nat.reduceSub, Nat.reduceMul, Nat.reduceEqDiff, Nat.reduceLeDiff, Nat.reduceLT, Nat.reduceBEq, Nat.reduceBNe, reduceIte, reduceCtorEq, Int.reduceToNat, Int.reduceAdd, Int.reduceSub, Int.reduceMul, Int.reduceNeg, Int.reduceLT, Int.reduceLE, Int.reduceEq, Int.reduceNe, ints, ic]
  · intro ⟨i, out, c⟩ ⟨h1, h2, h3, h4, h5, h6, h7⟩
    dsimp only at h1 h2 h3 h4 h5 h6 h7
    obtain ⟨a0, a1⟩ := ha.dgt i
    obtain ⟨b0, b1⟩ := hb.dgt i
    have w1 := i64_ok (n := dgt a i + dgt b i) (by omega)
    have w2 := i64_ok (n := dgt a i + dgt b i + c) (by omega)
    have w3 := i64_ok (n := (i : Int) + 1) (by omega)
    have hm : (dgt a i + dgt b i + c).tmod 1048576 = (dgt a i + dgt b i + c) % 1048576 := Int.tmod_eq_emod_of_nonneg (by omega)
    have hq : IntKind.i64.wrap ((dgt a i + dgt b i + c).tdiv 1048576) = (dgt a i + dgt b i + c) / 1048576 := by
      rw [Int.tdiv_eq_ediv_of_nonneg (by omega)]; exact i64_ok (by omega)
    have nxt : (i < a.length ∨ i < b.length ∨ 0 < c) → (out ++ [(dgt a i + dgt b i + c) % 1048576]).length = i + 1 ∧ OkD (out ++ [(dgt a i + dgt b i + c) % 1048576]) ∧ 0 ≤ (dgt a i + dgt b i + c) / 1048576 ∧ (dgt a i + dgt b i + c) / 1048576 ≤ 1 ∧
        val (out ++ [(dgt a i + dgt b i + c) % 1048576]) + 1048576 ^ (i + 1) * ((dgt a i + dgt b i + c) / 1048576) = val (a.take (i + 1)) + val (b.take (i + 1)) ∧ i + 1 ≤ max a.length b.length + 1 ∧ (max a.length b.length < i + 1 → (dgt a i + dgt b i + c) / 1048576 = 0) := by
      intro hc
      have hi : i ≤ max a.length b.length := by
        rcases Nat.lt_or_ge (max a.length b.length) i with h | h
        · have := h7 h; omega
        · exact h
      refine ⟨by rw [List.length_append, h1]; rfl, h2.append (OkD.cons (by omega) OkD.nil), by omega, by omega, plus_step h1 h5 rfl, by omega, fun h => ?_⟩
      have ea : dgt a i = 0 := dgt_none (by omega)
      have eb : dgt b i = 0 := dgt_none (by omega)
      rw [ea, eb]; omega
    have fin : ¬ i < a.length → ¬ i < b.length → ¬ 0 < c → val out = val a + val b := by
      intro n1 n2 n3
      have hc : c = 0 := by omega
      rw [hc, Int.mul_zero, Int.add_zero, val_take_all (by omega), val_take_all (by omega)] at h5
      exact h5
    simp only [go_sem, Int.reduceNegSucc, Nat.reduceAdd, Nat.reduceSub, Nat.reduceMul, Nat.reduceEqDiff, Nat.reduceLeDiff, Nat.reduceLT, Nat.reduceBEq, Nat.reduceBNe, reduceIte, reduceCtorEq, Int.reduceToNat, Int.reduceAdd, Int.reduceSub, Int.reduceMul, Int.reduceNeg, Int.reduceLT, Int.reduceLE, Int.reduceEq, Int.reduceNe, ints, ic]
    refine Two_of (fun d1 => ?_) (fun d1 => ?_)
    · have hn := nxt (.inl (by have := of_decide_eq_true d1; omega))
      simp only [d1, go_sem, Int.reduceNegSucc, Nat.reduceAdd, Nat.reduceSub, Nat.reduceMul, Nat.reduceEqDiff, Nat.reduceLeDiff, Nat.reduceLT, Nat.reduceBEq, Nat.reduceBNe, reduceIte, reduceCtorEq, Int.reduceToNat, Int.reduceAdd, Int.reduceSub, Int.reduceMul, Int.reduceNeg, Int.reduceLT, Int.reduceLE, Int.reduceEq, Int.reduceNe, ints, ic]
      refine CallP_eq (t_digit a i) (by decide) ?_
      simp only [go_sem, Int.reduceNegSucc, Nat.reduceAdd, Nat.reduceSub, Nat.reduceMul, Nat.reduceEqDiff, Nat.reduceLeDiff, Nat.reduceLT, Nat.reduceBEq, Nat.reduceBNe, reduceIte, reduceCtorEq, Int.reduceToNat, Int.reduceAdd, Int.reduceSub, Int.reduceMul, Int.reduceNeg, Int.reduceLT, Int.reduceLE, Int.reduceEq, Int.reduceNe, ints, ic]
      refine CallP_eq (t_digit b i) (by decide) ?_
      simp only [w1, w2, hm, hq, go_sem, Int.reduceNegSucc, Nat.reduceAdd, Nat.reduceSub, Nat.reduceMul, Nat.reduceEqDiff, Nat.reduceLeDiff, Nat.reduceLT, Nat.reduceBEq, Nat.reduceBNe, reduceIte, reduceCtorEq, Int.reduceToNat, Int.reduceAdd, Int.reduceSub, Int.reduceMul, Int.reduceNeg, Int.reduceLT, Int.reduceLE, Int.reduceEq, Int.reduceNe, ints, ic]
      refine ⟨ic_len _, by simp, by omega, ?_⟩
      refine RoundP_of (i + 1, out ++ [(dgt a i + dgt b i + c) % 1048576], (dgt a i + dgt b i + c) / 1048576) ?_ ?_ hn
      · simp only [w3, hq, Int.natCast_add, List.map_append, List.length_append, go_sem, Int.reduceNegSucc, Nat.reduceAdd, Nat.reduceSub, Nat.reduceMul, Nat.reduceEqDiff, Nat.reduceLeDiff, Nat.reduceLT, Nat.reduceBEq, Nat.reduceBNe, reduceIte, reduceCtorEq, Int.reduceToNat, Int.reduceAdd, Int.reduceSub, Int.reduceMul, Int.reduceNeg, Int.reduceLT, Int.reduceLE, Int.reduceEq, Int.reduceNe, ints, ic]
      · show max a.length b.length + 1 - (i + 1) < max a.length b.length + 1 - i; omega
    · simp only [d1, go_sem, Int.reduceNegSucc, Nat.reduceAdd, Nat.reduceSub, Nat.reduceMul, Nat.reduceEqDiff, Nat.reduceLeDiff, Nat.reduceLT, Nat.reduceBEq, Nat.reduceBNe, reduceIte, reduceCtorEq, Int.reduceToNat, Int.reduceAdd, Int.reduceSub, Int.reduceMul, Int.reduceNeg, Int.reduceLT, Int.reduceLE, Int.reduceEq, Int.reduceNe, ints, ic]
      refine Two_of (fun d2 => ?_) (fun d2 => ?_)
      · have hn := nxt (.inr (.inl (by have := of_decide_eq_true d2; omega)))
        simp only [d1, d2, go_sem, Int.reduceNegSucc, Nat.reduceAdd, Nat.reduceSub, Nat.reduceMul, Nat.reduceEqDiff, Nat.reduceLeDiff, Nat.reduceLT, Nat.reduceBEq, Nat.reduceBNe, reduceIte, reduceCtorEq, Int.reduceToNat, Int.reduceAdd, Int.reduceSub, Int.reduceMul, Int.reduceNeg, Int.reduceLT, Int.reduceLE, Int.reduceEq, Int.reduceNe, ints, ic]
        refine CallP_eq (t_digit a i) (by decide) ?_
        simp only [go_sem, Int.reduceNegSucc, Nat.reduceAdd, Nat.reduceSub, Nat.reduceMul, Nat.reduceEqDiff, Nat.reduceLeDiff, Nat.reduceLT, Nat.reduceBEq, Nat.reduceBNe, reduceIte, reduceCtorEq, Int.reduceToNat, Int.reduceAdd, Int.reduceSub, Int.reduceMul, Int.reduceNeg, Int.reduceLT, Int.reduceLE, Int.reduceEq, Int.reduceNe, ints, ic]
        refine CallP_eq (t_digit b i) (by decide) ?_
        simp only [w1, w2, hm, hq, go_sem, Int.reduceNegSucc, Nat.reduceAdd, Nat.reduceSub, Nat.reduceMul, Nat.reduceEqDiff, Nat.reduceLeDiff, Nat.reduceLT, Nat.reduceBEq, Nat.reduceBNe, reduceIte, reduceCtorEq, Int.reduceToNat, Int.reduceAdd, Int.reduceSub, Int.reduceMul, Int.reduceNeg, Int.reduceLT, Int.reduceLE, Int.reduceEq, Int.reduceNe, ints, ic]
        refine ⟨ic_len _, by simp, by omega, ?_⟩
        refine RoundP_of (i + 1, out ++ [(dgt a i + dgt b i + c) % 1048576], (dgt a i + dgt b i + c) / 1048576) ?_ ?_ hn
        · simp only [w3, hq, Int.natCast_add, List.map_append, List.length_append, go_sem, Int.reduceNegSucc, Nat.reduceAdd, Nat.reduceSub, Nat.reduceMul, Nat.reduceEqDiff, Nat.reduceLeDiff, Nat.reduceLT, Nat.reduceBEq, Nat.reduceBNe, reduceIte, reduceCtorEq, Int.reduceToNat, Int.reduceAdd, Int.reduceSub, Int.reduceMul, Int.reduceNeg, Int.reduceLT, Int.reduceLE, Int.reduceEq, Int.reduceNe, ints, ic]
        · show max a.length b.length + 1 - (i + 1) < max a.length b.length + 1 - i; omega
      · simp only [d1, d2, go_sem, Int.reduceNegSucc, Nat.reduceAdd, Nat.reduceSub, Nat.reduceMul, Nat.reduceEqDiff, Nat.reduceLeDiff, Nat.reduceLT, Nat.reduceBEq, Nat.reduceBNe, reduceIte, reduceCtorEq, Int.reduceToNat, Int.reduceAdd, Int.reduceSub, Int.reduceMul, Int.reduceNeg, Int.reduceLT, Int.reduceLE, Int.reduceEq, Int.reduceNe, ints, ic]
        refine Two_of (fun d3 => ?_) (fun d3 => ?_)
        · have hn := nxt (.inr (.inr (of_decide_eq_true d3)))
          simp only [d1, d2, d3, go_sem, Int.reduceNegSucc, Nat.reduceAdd, Nat.reduceSub, Nat.reduceMul, Nat.reduceEqDiff, Nat.reduceLeDiff, Nat.reduceLT, Nat.reduceBEq, Nat.reduceBNe, reduceIte, reduceCtorEq, Int.reduceToNat, Int.reduceAdd, Int.reduceSub, Int.reduceMul, Int.reduceNeg, Int.reduceLT, Int.reduceLE, Int.reduceEq, Int.reduceNe, ints, ic]
          refine CallP_eq (t_digit a i) (by decide) ?_
          simp only [go_sem, Int.reduceNegSucc, Nat.reduceAdd, Nat.reduceSub, Nat.reduceMul, Nat.reduceEqDiff, Nat.reduceLeDiff, Nat.reduceLT, Nat.reduceBEq, Nat.reduceBNe, reduceIte, reduceCtorEq, Int.reduceToNat, Int.reduceAdd, Int.reduceSub, Int.reduceMul, Int.reduceNeg, Int.reduceLT, Int.reduceLE, Int.reduceEq, Int.reduceNe, ints, ic]
          refine CallP_eq (t_digit b i) (by decide) ?_
          simp only [w1, w2, hm, hq, go_sem, Int.reduceNegSucc, Nat.reduceAdd, Nat.reduceSub, Nat.reduceMul, Nat.reduceEqDiff, Nat.reduceLeDiff, Nat.reduceLT, Nat.reduceBEq, Nat.reduceBNe, reduceIte, reduceCtorEq, Int.reduceToNat, Int.reduceAdd, Int.reduceSub, Int.reduceMul, Int.reduceNeg, Int.reduceLT, Int.reduceLE, Int.reduceEq, Int.reduceNe, ints, ic]
          refine ⟨ic_len _, by simp, by omega, ?_⟩
          refine RoundP_of (i + 1, out ++ [(dgt a i + dgt b i + c) % 1048576], (dgt a i + dgt b i + c) / 1048576) ?_ ?_ hn
          · simp only [w3, hq, Int.natCast_add, List.map_append, List.length_append, go_sem, Int.reduceNegSucc, Nat.reduceAdd, Nat.reduceSub, Nat.reduceMul, Nat.reduceEqDiff, Nat.reduceLeDiff, Nat.reduceLT, Nat.reduceBEq, Nat.reduceBNe, reduceIte, reduceCtorEq, Int.reduceToNat, Int.reduceAdd, Int.reduceSub, Int.reduceMul, Int.reduceNeg, Int.reduceLT, Int.reduceLE, Int.reduceEq, Int.reduceNe, ints, ic]
          · show max a.length b.length + 1 - (i + 1) < max a.length b.length + 1 - i; omega
        · have hv := fin (by have := of_decide_eq_false d1; omega) (by have := of_decide_eq_false d2; omega) (of_decide_eq_false d3)
          have ht := t_trim out h2 (by omega)
          rw [hv] at ht
          simp only [d1, d2, d3, go_sem, Int.reduceNegSucc, Nat.reduceAdd, Nat.reduceSub, Nat.reduceMul, Nat.reduceEqDiff, Nat.reduceLeDiff, Nat.reduceLT, Nat.reduceBEq, Nat.reduceBNe, reduceIte, reduceCtorEq, Int.reduceToNat, Int.reduceAdd, Int.reduceSub, Int.reduceMul, Int.reduceNeg, Int.reduceLT, Int.reduceLE, Int.reduceEq, Int.reduceNe, ints, ic]
          refine CallP_eq ht (by decide) ?_
          simp only [go_sem, Int.reduceNegSucc, Nat.reduceAdd, Nat.reduceSub, Nat.reduceMul, Nat.reduceEqDiff, Nat.reduceLeDiff, Nat.reduceLT, Nat.reduceBEq, Nat.reduceBNe, reduceIte, reduceCtorEq, Int.reduceToNat, Int.reduceAdd, Int.reduceSub, Int.reduceMul, Int.reduceNeg, Int.reduceLT, Int.reduceLE, Int.reduceEq, Int.reduceNe, ints, ic]
end Go.Proofs.Ytpnlfkaijdjhlab

namespace Go.Abs
set_option linter.all false

theorem val_set : ∀ (l : List Int) (j : Nat) (v : Int), j < l.length → val (l.set j v) = val l + 1048576 ^ j * (v - dgt l j)
  | [], j, v, h => by simp at h
  | d :: l, 0, v, _ => by
    have : dgt (d :: l) 0 = d := rfl
    rw [List.set_cons_zero, this, Int.pow_zero, Int.one_mul]
    show v + 1048576 * val l = d + 1048576 * val l + (v - d)
    omega
  | d :: l, j + 1, v, h => by
    have ih := val_set l j v (by simpa using h)
    have hd : dgt (d :: l) (j + 1) = dgt l j := by simp [dgt]
    rw [List.set_cons_succ, hd, pow_step]
    show d + 1048576 * val (l.set j v) = d + 1048576 * val l + _
    rw [ih, Int.mul_add, Int.mul_comm (1048576 ^ j) 1048576, Int.mul_assoc]
    omega
theorem OkD.set {l : List Int} (h : OkD l) {j : Nat} {v : Int} (hv : 0 ≤ v ∧ v < 1048576) : OkD (l.set j v) := fun x hx => by
  rcases List.mem_or_eq_of_mem_set hx with h1 | h1
  · exact h x h1
  · rw [h1]; exact hv
theorem mul_lt_sq {x y : Int} (hx : 0 ≤ x ∧ x < 1048576) (hy : 0 ≤ y ∧ y < 1048576) : 0 ≤ x * y ∧ x * y ≤ 1048575 * 1048575 :=
  ⟨Int.mul_nonneg hx.1 hy.1, Int.mul_le_mul (by omega) (by omega) hy.1 (by omega)⟩
theorem times_step {out b : List Int} {j i k : Nat} {c n x V : Int} (hj : j = i + k) (hjl : j < out.length) (h : val out + 1048576 ^ j * c = V + 1048576 ^ i * (x * val (b.take k))) (hn : n = dgt out j + x * dgt b k + c) :
    val (out.set j (n % 1048576)) + 1048576 ^ (j + 1) * (n / 1048576) = V + 1048576 ^ i * (x * val (b.take (k + 1))) := by
  rw [val_set out j _ hjl, val_take_succ, pow_step, Int.mul_add x, Int.mul_add]
  have e1 : 1048576 ^ j * (n % 1048576 - dgt out j) + 1048576 ^ j * 1048576 * (n / 1048576) = 1048576 ^ j * (n - dgt out j) := by
    rw [Int.mul_assoc, ← Int.mul_add]
    congr 1
    have := Int.emod_add_mul_ediv n 1048576
    omega
  have e2 : 1048576 ^ j * (n - dgt out j) = 1048576 ^ j * c + 1048576 ^ j * (x * dgt b k) := by
    rw [← Int.mul_add]; congr 1; omega
  have e3 : (1048576 : Int) ^ i * (x * (1048576 ^ k * dgt b k)) = 1048576 ^ j * (x * dgt b k) := by
    rw [hj, Int.pow_add, Int.mul_left_comm x, Int.mul_assoc]
  rw [e3]
  omega
/-- The last carry of a row of a product is 0. -/
theorem times_last {a b : List Int} {i : Nat} {x W c' : Int} (ha : OkD a) (hb : OkD b) (hx : 0 ≤ x ∧ x < 1048576) (hW : 0 ≤ W) (hc : 0 ≤ c')
    (h : W + 1048576 ^ (i + b.length + 1) * c' = val (a.take i) * val b + 1048576 ^ i * (x * val b)) : c' = 0 := by
  have h1 := val_take_lt ha i
  have h0 := val_nonneg (ha.take i)
  have h2 := val_lt hb
  have h3 := val_nonneg hb
  have hp := pow_pos' i
  have e1 : val (a.take i) * val b ≤ (1048576 ^ i - 1) * val b := Int.mul_le_mul_of_nonneg_right (by omega) h3
  have e2 : x * val b ≤ 1048575 * val b := Int.mul_le_mul_of_nonneg_right (by omega) h3
  have e3 : 1048576 ^ i * (x * val b) ≤ 1048576 ^ i * (1048575 * val b) := Int.mul_le_mul_of_nonneg_left e2 (by omega)
  have e4 : (1048576 : Int) ^ i * val b ≤ 1048576 ^ i * (1048576 ^ b.length - 1) := Int.mul_le_mul_of_nonneg_left (by omega) (by omega)
  have e5 : (1048576 : Int) ^ (i + b.length + 1) = 1048576 ^ i * 1048576 ^ b.length * 1048576 := by rw [pow_step, Int.pow_add]
  rw [e5] at h
  have e6 : (1048576 : Int) ^ i * (1048575 * val b) = 1048575 * (1048576 ^ i * val b) := by rw [Int.mul_left_comm]
  have e7 : (1048576 ^ i - 1) * val b = 1048576 ^ i * val b - val b := by rw [Int.sub_mul]; omega
  have e8 : (1048576 : Int) ^ i * (1048576 ^ b.length - 1) = 1048576 ^ i * 1048576 ^ b.length - 1048576 ^ i := by rw [Int.mul_sub]; omega
  rcases Int.lt_or_le 0 c' with h4 | h4
  · have hq : 0 < (1048576 : Int) ^ i * 1048576 ^ b.length * 1048576 := Int.mul_pos (Int.mul_pos hp (pow_pos' _)) (by omega)
    have : (1048576 : Int) ^ i * 1048576 ^ b.length * 1048576 * 1 ≤ 1048576 ^ i * 1048576 ^ b.length * 1048576 * c' := Int.mul_le_mul_of_nonneg_left (by omega) (by omega)
    generalize (1048576 : Int) ^ i * 1048576 ^ b.length * 1048576 * c' = Z at *
    generalize (1048576 : Int) ^ i * 1048576 ^ b.length = q at *
    generalize (1048576 : Int) ^ i * val b = r at *
    omega
  · omega
theorem val_replicate (n : Nat) : val (List.replicate n 0) = 0 := by
  induction n with
  | zero => rfl
  | succ n ih => rw [List.replicate_succ]; show 0 + 1048576 * val (List.replicate n 0) = 0; rw [ih]; rfl
theorem OkD.replicate (n : Nat) : OkD (List.replicate n 0) := fun x hx => by rw [List.eq_of_mem_replicate hx]; omega
end Go.Abs

namespace Go.Proofs.Ytpnlfkaijdjhlab
set_option linter.all false
open Go.Abs

/-- How many digits stay. -/
theorem trim_len {l : List Int} (hl : OkD l) : (dig (val l).toNat).length ≤ l.length := by
  have h := val_lt hl
  have h0 := val_nonneg hl
  exact dig_len_le (by rw [Int.toNat_of_nonneg h0]; exact h)
set_option maxRecDepth 100000 in
set_option maxHeartbeats 1000000 in
theorem t_ptrim (l : List Int) (hl : OkD l) (hlen : l.length ≤ 1000000) : Ctr G.P 88 [ints l] (· = ints (dig (val l).toNat)) := by
  refine ctr_go good _ _ [.tmp 2] Try.func88 rfl rfl (by decide +kernel) rfl ?_
  simp only [go_sem, Int.reduceNegSucc, Nat.reduceAdd, Nat.reduceSub, Nat.reduceMul, Nat.reduceEqDiff, Nat.reduceLeDiff, Nat.reduceLT, Nat.reduceBEq, Nat.reduceBNe, reduceIte, reduceCtorEq, Int.reduceToNat, Int.reduceAdd, Int.reduceSub, Int.reduceMul, Int.reduceNeg, Int.reduceLT, Int.reduceLE, Int.reduceEq, Int.reduceNe, ints, ic]
  refine LoopP_of [0, 3] [] (fun n : Nat => ⟨[(0, .im (.sl (l.map ic))), (3, .im (.int n))], [], []⟩) (fun n => n ≤ l.length ∧ ∀ i, n ≤ i → dgt l i = 0) (fun n => n) l.length ?_ ⟨Nat.le_refl _, fun i hi => dgt_none hi⟩ ?_
  · simp only [go_sem, Int.reduceNegSucc, Nat.reduceAdd, Nat.reduceSub, Nat.reduceMul, Nat.reduceEqDiff, Nat.reduceLeDiff, Nat.reduceLT, Nat.reduceBEq, Nat.reduceBNe, reduceIte, reduceCtorEq, Int.reduceToNat, Int.reduceAdd, Int.reduceSub, Int.reduceMul, Int.reduceNeg, Int.reduceLT, Int.reduceLE, Int.reduceEq, Int.reduceNe, ints, ic]
  · intro n ⟨hn, hz⟩
    have fin : n = 0 ∨ dgt l (n - 1) ≠ 0 → (l.map ic).take n = (dig (val l).toNat).map ic := fun h => by
      rw [← List.map_take, take_dig hl hn hz h]
    have hnn : (n : Int) ≤ l.length := by omega
    rcases n with _ | m
    · have hd : decide ((0 : Int) < ((0 : Nat) : Int)) = false := by decide
      have hf := fin (.inl rfl)
      rw [List.take_zero] at hf
      have hg : dig (val l).toNat = [] := List.map_eq_nil_iff.1 hf.symm
      rw [hg]
      simp only [hd, Int.natCast_zero, Int.lt_irrefl, ic_all, go_sem, Int.reduceNegSucc, Nat.reduceAdd, Nat.reduceSub, Nat.reduceMul, Nat.reduceEqDiff, Nat.reduceLeDiff, Nat.reduceLT, Nat.reduceBEq, Nat.reduceBNe, reduceIte, reduceCtorEq, Int.reduceToNat, Int.reduceAdd, Int.reduceSub, Int.reduceMul, Int.reduceNeg, Int.reduceLT, Int.reduceLE, Int.reduceEq, Int.reduceNe, ints, ic]
    · have hd : decide ((0 : Int) < ((m + 1 : Nat) : Int)) = true := decide_eq_true (by omega)
      have h1 := i64_ok (n := (m : Int)) (by omega)
      have h2 : ((m + 1 : Nat) : Int) - 1 = m := by omega
      have h3 : ((m + 1 : Nat) : Int).toNat = m + 1 := by omega
      have h4 : (0 : Int) ≤ ((m + 1 : Nat) : Int) := by omega
      obtain ⟨d, hx⟩ : ∃ d, l[m]? = some d := ⟨_, List.getElem?_eq_getElem (by omega)⟩
      have hdm := dgt_at hx
      simp only [hd, h1, h2, List.getElem?_map, hx, go_sem, Int.reduceNegSucc, Nat.reduceAdd, Nat.reduceSub, Nat.reduceMul, Nat.reduceEqDiff, Nat.reduceLeDiff, Nat.reduceLT, Nat.reduceBEq, Nat.reduceBNe, reduceIte, reduceCtorEq, Int.reduceToNat, Int.reduceAdd, Int.reduceSub, Int.reduceMul, Int.reduceNeg, Int.reduceLT, Int.reduceLE, Int.reduceEq, Int.reduceNe, ints, ic]
      refine Two_dec (fun hb hb' => ?_) (fun hb hb' => ?_)
      · simp only [hd, h1, h2, hb, go_sem, Int.reduceNegSucc, Nat.reduceAdd, Nat.reduceSub, Nat.reduceMul, Nat.reduceEqDiff, Nat.reduceLeDiff, Nat.reduceLT, Nat.reduceBEq, Nat.reduceBNe, reduceIte, reduceCtorEq, Int.reduceToNat, Int.reduceAdd, Int.reduceSub, Int.reduceMul, Int.reduceNeg, Int.reduceLT, Int.reduceLE, Int.reduceEq, Int.reduceNe, ints, ic]
        refine RoundP_of m ?_ (by omega) ⟨by omega, fun i hi => ?_⟩
        · simp only [h1, h2, go_sem, Int.reduceNegSucc, Nat.reduceAdd, Nat.reduceSub, Nat.reduceMul, Nat.reduceEqDiff, Nat.reduceLeDiff, Nat.reduceLT, Nat.reduceBEq, Nat.reduceBNe, reduceIte, reduceCtorEq, Int.reduceToNat, Int.reduceAdd, Int.reduceSub, Int.reduceMul, Int.reduceNeg, Int.reduceLT, Int.reduceLE, Int.reduceEq, Int.reduceNe, ints, ic]
        · rcases Nat.lt_or_ge m i with h | h
          · exact hz i h
          · rw [show i = m by omega, hdm]; exact hb'
      · have hf := fin (.inr (by rw [Nat.add_sub_cancel, hdm]; exact hb'))
        simp only [ic_all, hnn, h3, h4, hb, hf, Nat.sub_zero, go_sem, Int.reduceNegSucc, Nat.reduceAdd, Nat.reduceSub, Nat.reduceMul, Nat.reduceEqDiff, Nat.reduceLeDiff, Nat.reduceLT, Nat.reduceBEq, Nat.reduceBNe, reduceIte, reduceCtorEq, Int.reduceToNat, Int.reduceAdd, Int.reduceSub, Int.reduceMul, Int.reduceNeg, Int.reduceLT, Int.reduceLE, Int.reduceEq, Int.reduceNe, ints, ic]
set_option maxRecDepth 100000 in
set_option maxHeartbeats 1000000 in
/-- The same on a slice that its caller writes to. -/
theorem t_ptrimO (l : List Int) (hl : OkD l) (hlen : l.length ≤ 1000000) : CtrM G.P 88 [.gsl 900 3 1 l.length] [(900, 1, l.map ic)] (fun r Es new => r = .gsl 900 3 1 (dig (val l).toNat).length ∧ Es = [l.map ic] ∧ new = none) := by
  refine ctrm_go good _ _ [.tmp 2] Try.func88 rfl rfl (by decide +kernel) rfl rfl (by simp) ?_
  simp only [go_sem, Int.reduceNegSucc, Nat.reduceAdd, Nat.reduceSub, Nat.reduceMul, Nat.reduceEqDiff, Nat.reduceLeDiff, Nat.reduceLT, Nat.reduceBEq, Nat.reduceBNe, reduceIte, reduceCtorEq, Int.reduceToNat, Int.reduceAdd, Int.reduceSub, Int.reduceMul, Int.reduceNeg, Int.reduceLT, Int.reduceLE, Int.reduceEq, Int.reduceNe, ints, ic]
  refine LoopP_of [0, 3] [900] (fun n : Nat => ⟨[(0, .gsl 900 3 1 l.length), (3, .im (.int n))], [(900, 1, l.map ic)], []⟩) (fun n => n ≤ l.length ∧ ∀ i, n ≤ i → dgt l i = 0) (fun n => n) l.length ?_ ⟨Nat.le_refl _, fun i hi => dgt_none hi⟩ ?_
  · simp only [go_sem, Int.reduceNegSucc, Nat.reduceAdd, Nat.reduceSub, Nat.reduceMul, Nat.reduceEqDiff, Nat.reduceLeDiff, Nat.reduceLT, Nat.reduceBEq, Nat.reduceBNe, reduceIte, reduceCtorEq, Int.reduceToNat, Int.reduceAdd, Int.reduceSub, Int.reduceMul, Int.reduceNeg, Int.reduceLT, Int.reduceLE, Int.reduceEq, Int.reduceNe, ints, ic]
  · intro n ⟨hn, hz⟩
    have fin : n = 0 ∨ dgt l (n - 1) ≠ 0 → (dig (val l).toNat).length = n := fun h => by
      rw [← take_dig hl hn hz h, List.length_take]; omega
    have hnn : (n : Int) ≤ l.length := by omega
    rcases n with _ | m
    · have hd : decide ((0 : Int) < ((0 : Nat) : Int)) = false := by decide
      have hf := fin (.inl rfl)
      rw [hf]
      simp only [hd, Int.natCast_zero, Int.lt_irrefl, ic_all, Int.le_refl, Int.toNat_zero, eq_self, go_sem, Int.reduceNegSucc, Nat.reduceAdd, Nat.reduceSub, Nat.reduceMul, Nat.reduceEqDiff, Nat.reduceLeDiff, Nat.reduceLT, Nat.reduceBEq, Nat.reduceBNe, reduceIte, reduceCtorEq, Int.reduceToNat, Int.reduceAdd, Int.reduceSub, Int.reduceMul, Int.reduceNeg, Int.reduceLT, Int.reduceLE, Int.reduceEq, Int.reduceNe, ints, ic]
    · have hd : decide ((0 : Int) < ((m + 1 : Nat) : Int)) = true := decide_eq_true (by omega)
      have h1 := i64_ok (n := (m : Int)) (by omega)
      have h2 : ((m + 1 : Nat) : Int) - 1 = m := by omega
      have h3 : ((m + 1 : Nat) : Int).toNat = m + 1 := by omega
      have h4 : (0 : Int) ≤ ((m + 1 : Nat) : Int) := by omega
      have h5 : (m : Int) < l.length := by omega
      obtain ⟨d, hx⟩ : ∃ d, l[m]? = some d := ⟨_, List.getElem?_eq_getElem (by omega)⟩
      have hdm := dgt_at hx
      simp only [hd, h1, h2, h5, List.getElem?_map, hx, go_sem, Int.reduceNegSucc, Nat.reduceAdd, Nat.reduceSub, Nat.reduceMul, Nat.reduceEqDiff, Nat.reduceLeDiff, Nat.reduceLT, Nat.reduceBEq, Nat.reduceBNe, reduceIte, reduceCtorEq, Int.reduceToNat, Int.reduceAdd, Int.reduceSub, Int.reduceMul, Int.reduceNeg, Int.reduceLT, Int.reduceLE, Int.reduceEq, Int.reduceNe, ints, ic]
      refine Two_dec (fun hb hb' => ?_) (fun hb hb' => ?_)
      · simp only [hd, h1, h2, hb, go_sem, Int.reduceNegSucc, Nat.reduceAdd, Nat.reduceSub, Nat.reduceMul, Nat.reduceEqDiff, Nat.reduceLeDiff, Nat.reduceLT, Nat.reduceBEq, Nat.reduceBNe, reduceIte, reduceCtorEq, Int.reduceToNat, Int.reduceAdd, Int.reduceSub, Int.reduceMul, Int.reduceNeg, Int.reduceLT, Int.reduceLE, Int.reduceEq, Int.reduceNe, ints, ic]
        refine RoundP_of m ?_ (by omega) ⟨by omega, fun i hi => ?_⟩
        · simp only [h1, h2, go_sem, Int.reduceNegSucc, Nat.reduceAdd, Nat.reduceSub, Nat.reduceMul, Nat.reduceEqDiff, Nat.reduceLeDiff, Nat.reduceLT, Nat.reduceBEq, Nat.reduceBNe, reduceIte, reduceCtorEq, Int.reduceToNat, Int.reduceAdd, Int.reduceSub, Int.reduceMul, Int.reduceNeg, Int.reduceLT, Int.reduceLE, Int.reduceEq, Int.reduceNe, ints, ic]
        · rcases Nat.lt_or_ge m i with h | h
          · exact hz i h
          · rw [show i = m by omega, hdm]; exact hb'
      · have hf := fin (.inr (by rw [Nat.add_sub_cancel, hdm]; exact hb'))
        rw [hf]
        simp only [ic_all, hnn, h3, h4, hb, Nat.sub_zero, eq_self, go_sem, Int.reduceNegSucc, Nat.reduceAdd, Nat.reduceSub, Nat.reduceMul, Nat.reduceEqDiff, Nat.reduceLeDiff, Nat.reduceLT, Nat.reduceBEq, Nat.reduceBNe, reduceIte, reduceCtorEq, Int.reduceToNat, Int.reduceAdd, Int.reduceSub, Int.reduceMul, Int.reduceNeg, Int.reduceLT, Int.reduceLE, Int.reduceEq, Int.reduceNe, ints, ic]
set_option maxRecDepth 100000 in
theorem t_clone (l : List Int) (hlen : l.length ≤ 1000000) : Ctr G.P 66 [ints l] (· = ints l) := by
  refine ctr_go good _ _ [.tmp 2] Try.func66 rfl rfl (by decide +kernel) rfl ?_
  simp only [go_sem, Int.reduceNegSucc, Nat.reduceAdd, Nat.reduceSub, Nat.reduceMul, Nat.reduceEqDiff, Nat.reduceLeDiff, Nat.reduceLT, Nat.reduceBEq, Nat.reduceBNe, reduceIte, reduceCtorEq, Int.reduceToNat, Int.reduceAdd, Int.reduceSub, Int.reduceMul, Int.reduceNeg, Int.reduceLT, Int.reduceLE, Int.reduceEq, Int.reduceNe, ints, ic]
  refine NilP_of (fun h => ?_) ?_
  · have : l = [] := List.map_eq_nil_iff.1 h
    subst this
    simp only [List.map_nil, go_sem, Int.reduceNegSucc, Nat.reduceAdd, Nat.reduceSub, Nat.reduceMul, Nat.reduceEqDiff, Nat.reduceLeDiff, Nat.reduceLT, Nat.reduceBEq, Nat.reduceBNe, reduceIte, reduceCtorEq, Int.reduceToNat, Int.reduceAdd, Int.reduceSub, Int.reduceMul, Int.reduceNeg, Int.reduceLT, Int.reduceLE, Int.reduceEq, Int.reduceNe, ints, ic]
  · simp only [go_sem, Int.reduceNegSucc, Nat.reduceAdd, Nat.reduceSub, Nat.reduceMul, Nat.reduceEqDiff, Nat.reduceLeDiff, Nat.reduceLT, Nat.reduceBEq, Nat.reduceBNe, reduceIte, reduceCtorEq, Int.reduceToNat, Int.reduceAdd, Int.reduceSub, Int.reduceMul, Int.reduceNeg, Int.reduceLT, Int.reduceLE, Int.reduceEq, Int.reduceNe, ints, ic]
    exact ⟨by simp, ic_len l, by omega⟩
set_option maxRecDepth 100000 in
/-- A copy that is written to. -/
theorem t_cloneO (l : List Int) (hne : l ≠ []) (hlen : l.length ≤ 1000000) : CtrM G.P 66 [.im (ints l)] [] (fun r Es new => r = .gsl 901 3 1 l.length ∧ Es = [] ∧ new = some (1, l.map ic)) := by
  have hne' : l.map ic ≠ [] := fun h => hne (List.map_eq_nil_iff.1 h)
  refine ctrm_go goodO _ _ [.tmp 2] Try.func66 rfl rfl (by decide +kernel) rfl rfl (by simp) ?_
  simp only [go_sem, Int.reduceNegSucc, Nat.reduceAdd, Nat.reduceSub, Nat.reduceMul, Nat.reduceEqDiff, Nat.reduceLeDiff, Nat.reduceLT, Nat.reduceBEq, Nat.reduceBNe, reduceIte, reduceCtorEq, Int.reduceToNat, Int.reduceAdd, Int.reduceSub, Int.reduceMul, Int.reduceNeg, Int.reduceLT, Int.reduceLE, Int.reduceEq, Int.reduceNe, ints, ic]
  refine NilP_of (fun h => absurd h hne') ?_
  simp only [hne', go_sem, Int.reduceNegSucc, Nat.reduceAdd, Nat.reduceSub, Nat.reduceMul, Nat.reduceEqDiff, Nat.reduceLeDiff, Nat.reduceLT, Nat.reduceBEq, Nat.reduceBNe, reduceIte, reduceCtorEq, Int.reduceToNat, Int.reduceAdd, Int.reduceSub, Int.reduceMul, Int.reduceNeg, Int.reduceLT, Int.reduceLE, Int.reduceEq, Int.reduceNe, ints, ic]
  exact ⟨ic_len l, by omega⟩
end Go.Proofs.Ytpnlfkaijdjhlab

namespace Go.Abs
set_option linter.all false

/-- One more digit of the quotient: from above, n digits are still to come, m + 1 = n. -/
theorem over_step {a q : List Int} {m : Nat} {b R lo : Int} (hm : m < q.length) (h : val (a.drop (m + 1)) = val (q.drop (m + 1)) * b + R) :
    val (a.drop m) = val ((q.set m lo).drop m) * b + (dgt a m + 1048576 * R - lo * b) := by
  rw [val_drop a m, val_drop (q.set m lo) m, h]
  have h1 : dgt (q.set m lo) m = lo := by simp [dgt, hm]
  have h2 : (q.set m lo).drop (m + 1) = q.drop (m + 1) := by
    rw [List.drop_set_of_lt (by omega)]
  rw [h1, h2, Int.add_mul, Int.mul_assoc, Int.mul_add]
  omega
theorem val_set_drop {q : List Int} {m : Nat} {lo : Int} (j : Nat) (h : m < j) : (q.set m lo).drop j = q.drop j := List.drop_set_of_lt h
/-- The quotient and the remainder. -/
theorem over_end {x q b R : Int} (h : x = q * b + R) (h0 : 0 ≤ R) (h1 : R < b) : q = x / b ∧ R = x % b := by
  have hb : 0 < b := by omega
  have h2 : x / b = q := by
    rw [h, Int.add_comm, Int.add_mul_ediv_right _ _ (by omega), Int.ediv_eq_zero_of_lt h0 h1, Int.zero_add]
  refine ⟨h2.symm, ?_⟩
  have := Int.emod_add_mul_ediv x b
  rw [h2] at this
  rw [Int.mul_comm] at this
  omega
end Go.Abs
