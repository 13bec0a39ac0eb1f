/- A part of the proof: what functions of the program do, and the layer under it. No further condition. -/
import Derived.Test.YtpnlfkaijdjhlaaKS4
import Derived.Test.YtpnlfkaijdjhlaaKC28
import Derived.Test.YtpnlfkaijdjhlaaKC29
namespace Go.Proofs.Ytpnlfkaijdjhlaa
set_option linter.all false
open Go.Abs

def keepN (load : List Int) (l : List Purity) (i : Nat) : Bool := (List.range i).all (keepI load l)
theorem keepN_succ (load : List Int) (l : List Purity) (i : Nat) : keepN load l (i + 1) = (keepN load l i && keepI load l i) := by
  simp only [keepN, List.range_succ, List.all_append, List.all_cons, List.all_nil, Bool.and_true]
theorem total_grams {l : List Int} (h : totalF l ≠ 0) : Grams l := by
  unfold totalF at h
  split at h
  · rename_i hc
    have := isum_le hc.1
    exact ⟨hc.1, by have := hc.2; omega, by omega⟩
  · exact absurd rfl h
/-- What is shown at the end of a load. -/
theorem share_ends {s : Sample} {l : List Purity} (h : puritiesF s = (l, 0)) {load : List Int} (hl : Grams load) (hlen : load.length = s.grams.length) :
    (nearF load s.grams s.slack false = true → keepN load l s.grams.length = true) ∧ (keepN load l s.grams.length = true → nearF load s.grams (s.slack + 1) true = true) := by
  constructor
  · intro hn
    exact rangeAll_true fun i hi => (share_law h hl hi hlen).1 (List.all_eq_true.1 hn i (List.mem_range.2 hi))
  · intro hn
    exact rangeAll_true fun i hi => (share_law h hl hi hlen).2 (List.all_eq_true.1 hn i (List.mem_range.2 hi))
set_option maxRecDepth 100000 in
set_option maxHeartbeats 4000000 in
theorem w4 (s : Sample) (load : List Int) : Ctr G.P 4 [.agg s.c, ints load] (· = .bool true) := by
  by_cases h10 : 10 < (s.grams.length : Int)
  · have hd : decide (10 < (s.grams.length : Int)) = true := decide_eq_true h10
    refine ctr_go good _ _ [.tmp 4] Try.func4 rfl rfl (by decide +kernel) rfl ?_
    simp only [go_sem, Int.reduceNegSucc, Nat.reduceAdd, Nat.reduceSub, Nat.reduceMul, Nat.reduceEqDiff, Nat.reduceLeDiff, Nat.reduceLT, Nat.reduceBEq, Nat.reduceBNe, reduceIte, reduceCtorEq, Int.reduceToNat, Int.reduceAdd, Int.reduceSub, Int.reduceMul, Int.reduceNeg, Int.reduceLT, Int.reduceLE, Int.reduceEq, Int.reduceNe, Evid.iv, Evid.c, Place.c, Move.c, Cert.c, Recall.c, Purity.c, Sample.c, Recipe.c, ints, ic, frac, Abs.flat1]
    refine CallP_eq c7 (by decide) ?_
    simp only [hd, go_sem, Int.reduceNegSucc, Nat.reduceAdd, Nat.reduceSub, Nat.reduceMul, Nat.reduceEqDiff, Nat.reduceLeDiff, Nat.reduceLT, Nat.reduceBEq, Nat.reduceBNe, reduceIte, reduceCtorEq, Int.reduceToNat, Int.reduceAdd, Int.reduceSub, Int.reduceMul, Int.reduceNeg, Int.reduceLT, Int.reduceLE, Int.reduceEq, Int.reduceNe, Evid.iv, Evid.c, Place.c, Move.c, Cert.c, Recall.c, Purity.c, Sample.c, Recipe.c, ints, ic, frac, Abs.flat1]
  have hd : decide (10 < (s.grams.length : Int)) = false := decide_eq_false h10
  by_cases h11 : 10 < (load.length : Int)
  · have hd1 : decide (10 < (load.length : Int)) = true := decide_eq_true h11
    refine ctr_go good _ _ [.tmp 4] Try.func4 rfl rfl (by decide +kernel) rfl ?_
    simp only [go_sem, Int.reduceNegSucc, Nat.reduceAdd, Nat.reduceSub, Nat.reduceMul, Nat.reduceEqDiff, Nat.reduceLeDiff, Nat.reduceLT, Nat.reduceBEq, Nat.reduceBNe, reduceIte, reduceCtorEq, Int.reduceToNat, Int.reduceAdd, Int.reduceSub, Int.reduceMul, Int.reduceNeg, Int.reduceLT, Int.reduceLE, Int.reduceEq, Int.reduceNe, Evid.iv, Evid.c, Place.c, Move.c, Cert.c, Recall.c, Purity.c, Sample.c, Recipe.c, ints, ic, frac, Abs.flat1]
    refine CallP_eq c7 (by decide) ?_
    simp only [hd, hd1, go_sem, Int.reduceNegSucc, Nat.reduceAdd, Nat.reduceSub, Nat.reduceMul, Nat.reduceEqDiff, Nat.reduceLeDiff, Nat.reduceLT, Nat.reduceBEq, Nat.reduceBNe, reduceIte, reduceCtorEq, Int.reduceToNat, Int.reduceAdd, Int.reduceSub, Int.reduceMul, Int.reduceNeg, Int.reduceLT, Int.reduceLE, Int.reduceEq, Int.reduceNe, Evid.iv, Evid.c, Place.c, Move.c, Cert.c, Recall.c, Purity.c, Sample.c, Recipe.c, ints, ic, frac, Abs.flat1]
  have hd1 : decide (10 < (load.length : Int)) = false := decide_eq_false h11
  have ha := c10 s (by omega)
  obtain ⟨l, k, hp⟩ : ∃ l k, puritiesF s = (l, k) := ⟨_, _, rfl⟩
  rw [hp] at ha
  by_cases hk : k = 0
  case neg =>
    have hl := pur_fail hp hk
    subst hl
    have hkd : decide (k = 0) = false := decide_eq_false hk
    simp only [resP, purs, Sample.c, ints, List.map_nil] at ha
    refine ctr_go good _ _ [.tmp 4] Try.func4 rfl rfl (by decide +kernel) rfl ?_
    simp only [go_sem, Int.reduceNegSucc, Nat.reduceAdd, Nat.reduceSub, Nat.reduceMul, Nat.reduceEqDiff, Nat.reduceLeDiff, Nat.reduceLT, Nat.reduceBEq, Nat.reduceBNe, reduceIte, reduceCtorEq, Int.reduceToNat, Int.reduceAdd, Int.reduceSub, Int.reduceMul, Int.reduceNeg, Int.reduceLT, Int.reduceLE, Int.reduceEq, Int.reduceNe, Evid.iv, Evid.c, Place.c, Move.c, Cert.c, Recall.c, Purity.c, Sample.c, Recipe.c, ints, ic, frac, Abs.flat1]
    refine CallP_eq c7 (by decide) ?_
    simp only [hd, hd1, go_sem, Int.reduceNegSucc, Nat.reduceAdd, Nat.reduceSub, Nat.reduceMul, Nat.reduceEqDiff, Nat.reduceLeDiff, Nat.reduceLT, Nat.reduceBEq, Nat.reduceBNe, reduceIte, reduceCtorEq, Int.reduceToNat, Int.reduceAdd, Int.reduceSub, Int.reduceMul, Int.reduceNeg, Int.reduceLT, Int.reduceLE, Int.reduceEq, Int.reduceNe, Evid.iv, Evid.c, Place.c, Move.c, Cert.c, Recall.c, Purity.c, Sample.c, Recipe.c, ints, ic, frac, Abs.flat1]
    refine CallP_eq ha (by decide) ?_
    simp only [hkd, go_sem, Int.reduceNegSucc, Nat.reduceAdd, Nat.reduceSub, Nat.reduceMul, Nat.reduceEqDiff, Nat.reduceLeDiff, Nat.reduceLT, Nat.reduceBEq, Nat.reduceBNe, reduceIte, reduceCtorEq, Int.reduceToNat, Int.reduceAdd, Int.reduceSub, Int.reduceMul, Int.reduceNeg, Int.reduceLT, Int.reduceLE, Int.reduceEq, Int.reduceNe, Evid.iv, Evid.c, Place.c, Move.c, Cert.c, Recall.c, Purity.c, Sample.c, Recipe.c, ints, ic, frac, Abs.flat1]
  subst hk
  obtain ⟨hok, hS0, hS1, hSt, hpg, hll⟩ := pur_ok hp
  obtain ⟨g1, g2, g3, g4, _⟩ := ok_grams hok
  have hGg : Grams s.grams := ⟨List.all_eq_true.2 fun n hn => by
    have := g2 n hn
    simp [gramB]; omega, by omega, hS0⟩
  have ht := t_total s.grams (by omega)
  have htl := t_total load (by omega)
  rw [hSt] at ht
  have e0 : decide (isum s.grams = 0) = false := decide_eq_false (by omega)
  have llI : (l.length : Int) = s.grams.length := by rw [hll]
  by_cases hlen : load.length = s.grams.length
  case neg =>
    have el : decide ((load.length : Int) = s.grams.length) = false := decide_eq_false (by omega)
    simp only [resP, purs, Sample.c, ints] at ha ht
    refine ctr_go good _ _ [.tmp 4] Try.func4 rfl rfl (by decide +kernel) rfl ?_
    simp only [go_sem, Int.reduceNegSucc, Nat.reduceAdd, Nat.reduceSub, Nat.reduceMul, Nat.reduceEqDiff, Nat.reduceLeDiff, Nat.reduceLT, Nat.reduceBEq, Nat.reduceBNe, reduceIte, reduceCtorEq, Int.reduceToNat, Int.reduceAdd, Int.reduceSub, Int.reduceMul, Int.reduceNeg, Int.reduceLT, Int.reduceLE, Int.reduceEq, Int.reduceNe, Evid.iv, Evid.c, Place.c, Move.c, Cert.c, Recall.c, Purity.c, Sample.c, Recipe.c, ints, ic, frac, Abs.flat1]
    refine CallP_eq c7 (by decide) ?_
    simp only [hd, hd1, go_sem, Int.reduceNegSucc, Nat.reduceAdd, Nat.reduceSub, Nat.reduceMul, Nat.reduceEqDiff, Nat.reduceLeDiff, Nat.reduceLT, Nat.reduceBEq, Nat.reduceBNe, reduceIte, reduceCtorEq, Int.reduceToNat, Int.reduceAdd, Int.reduceSub, Int.reduceMul, Int.reduceNeg, Int.reduceLT, Int.reduceLE, Int.reduceEq, Int.reduceNe, Evid.iv, Evid.c, Place.c, Move.c, Cert.c, Recall.c, Purity.c, Sample.c, Recipe.c, ints, ic, frac, Abs.flat1]
    refine CallP_eq ha (by decide) ?_
    simp only [llI, eq_self, go_sem, Int.reduceNegSucc, Nat.reduceAdd, Nat.reduceSub, Nat.reduceMul, Nat.reduceEqDiff, Nat.reduceLeDiff, Nat.reduceLT, Nat.reduceBEq, Nat.reduceBNe, reduceIte, reduceCtorEq, Int.reduceToNat, Int.reduceAdd, Int.reduceSub, Int.reduceMul, Int.reduceNeg, Int.reduceLT, Int.reduceLE, Int.reduceEq, Int.reduceNe, Evid.iv, Evid.c, Place.c, Move.c, Cert.c, Recall.c, Purity.c, Sample.c, Recipe.c, ints, ic, frac, Abs.flat1]
    refine CallP_eq ht (by decide) ?_
    simp only [e0, el, go_sem, Int.reduceNegSucc, Nat.reduceAdd, Nat.reduceSub, Nat.reduceMul, Nat.reduceEqDiff, Nat.reduceLeDiff, Nat.reduceLT, Nat.reduceBEq, Nat.reduceBNe, reduceIte, reduceCtorEq, Int.reduceToNat, Int.reduceAdd, Int.reduceSub, Int.reduceMul, Int.reduceNeg, Int.reduceLT, Int.reduceLE, Int.reduceEq, Int.reduceNe, Evid.iv, Evid.c, Place.c, Move.c, Cert.c, Recall.c, Purity.c, Sample.c, Recipe.c, ints, ic, frac, Abs.flat1]
  have lenI : (load.length : Int) = s.grams.length := by rw [hlen]
  by_cases htz : totalF load = 0
  case pos =>
    rw [htz] at htl
    simp only [resP, purs, Sample.c, ints] at ha ht htl
    refine ctr_go good _ _ [.tmp 4] Try.func4 rfl rfl (by decide +kernel) rfl ?_
    simp only [go_sem, Int.reduceNegSucc, Nat.reduceAdd, Nat.reduceSub, Nat.reduceMul, Nat.reduceEqDiff, Nat.reduceLeDiff, Nat.reduceLT, Nat.reduceBEq, Nat.reduceBNe, reduceIte, reduceCtorEq, Int.reduceToNat, Int.reduceAdd, Int.reduceSub, Int.reduceMul, Int.reduceNeg, Int.reduceLT, Int.reduceLE, Int.reduceEq, Int.reduceNe, Evid.iv, Evid.c, Place.c, Move.c, Cert.c, Recall.c, Purity.c, Sample.c, Recipe.c, ints, ic, frac, Abs.flat1]
    refine CallP_eq c7 (by decide) ?_
    simp only [hd, hd1, go_sem, Int.reduceNegSucc, Nat.reduceAdd, Nat.reduceSub, Nat.reduceMul, Nat.reduceEqDiff, Nat.reduceLeDiff, Nat.reduceLT, Nat.reduceBEq, Nat.reduceBNe, reduceIte, reduceCtorEq, Int.reduceToNat, Int.reduceAdd, Int.reduceSub, Int.reduceMul, Int.reduceNeg, Int.reduceLT, Int.reduceLE, Int.reduceEq, Int.reduceNe, Evid.iv, Evid.c, Place.c, Move.c, Cert.c, Recall.c, Purity.c, Sample.c, Recipe.c, ints, ic, frac, Abs.flat1]
    refine CallP_eq ha (by decide) ?_
    simp only [llI, eq_self, go_sem, Int.reduceNegSucc, Nat.reduceAdd, Nat.reduceSub, Nat.reduceMul, Nat.reduceEqDiff, Nat.reduceLeDiff, Nat.reduceLT, Nat.reduceBEq, Nat.reduceBNe, reduceIte, reduceCtorEq, Int.reduceToNat, Int.reduceAdd, Int.reduceSub, Int.reduceMul, Int.reduceNeg, Int.reduceLT, Int.reduceLE, Int.reduceEq, Int.reduceNe, Evid.iv, Evid.c, Place.c, Move.c, Cert.c, Recall.c, Purity.c, Sample.c, Recipe.c, ints, ic, frac, Abs.flat1]
    refine CallP_eq ht (by decide) ?_
    simp only [e0, lenI, eq_self, go_sem, Int.reduceNegSucc, Nat.reduceAdd, Nat.reduceSub, Nat.reduceMul, Nat.reduceEqDiff, Nat.reduceLeDiff, Nat.reduceLT, Nat.reduceBEq, Nat.reduceBNe, reduceIte, reduceCtorEq, Int.reduceToNat, Int.reduceAdd, Int.reduceSub, Int.reduceMul, Int.reduceNeg, Int.reduceLT, Int.reduceLE, Int.reduceEq, Int.reduceNe, Evid.iv, Evid.c, Place.c, Move.c, Cert.c, Recall.c, Purity.c, Sample.c, Recipe.c, ints, ic, frac, Abs.flat1]
    refine CallP_eq htl (by decide) ?_
    simp only [go_sem, Int.reduceNegSucc, Nat.reduceAdd, Nat.reduceSub, Nat.reduceMul, Nat.reduceEqDiff, Nat.reduceLeDiff, Nat.reduceLT, Nat.reduceBEq, Nat.reduceBNe, reduceIte, reduceCtorEq, Int.reduceToNat, Int.reduceAdd, Int.reduceSub, Int.reduceMul, Int.reduceNeg, Int.reduceLT, Int.reduceLE, Int.reduceEq, Int.reduceNe, Evid.iv, Evid.c, Place.c, Move.c, Cert.c, Recall.c, Purity.c, Sample.c, Recipe.c, ints, ic, frac, Abs.flat1]
  have hGl := total_grams htz
  obtain ⟨L0, L1, L2⟩ := hGl.sum
  rw [L2] at htl
  have e1 : decide (isum load = 0) = false := decide_eq_false (by omega)
  obtain ⟨n1, n2⟩ := share_ends hp hGl hlen
  have hn1 := t_near load s.grams s.slack false hGl hGg hlen (by omega)
  have hn2 := t_near load s.grams (s.slack + 1) true hGl hGg hlen (by omega)
  have w1 := i64_ok (n := s.slack + 1) (by omega)
  have hat : ∀ i : Nat, (i : Int) < l.length → ∃ x : Purity, l[i]? = some x ∧ x.mat = i ∧ x.move = s.move ∧ (0 ≤ x.least ∧ x.least ≤ 1000) ∧ (0 ≤ x.most ∧ x.most ≤ 1000) := by
    intro i hi
    obtain ⟨x, y, hx, hy, _, x1, x2, _⟩ := slack_law (σ := s.slack) (Int.le_refl _) hp hp (get_nat (l := s.grams) (i := i) (by omega))
    have hpu := purGo_at s (isum s.grams) s.grams 0 i _ (get_nat (l := s.grams) (i := i) (by omega))
    rw [← hpg, hx, Nat.zero_add] at hpu
    have hxx := Option.some.inj hpu
    refine ⟨x, hx, by rw [hxx]; rfl, by rw [hxx]; rfl, x1, x2⟩
  have hpos : ∀ i : Nat, (i : Int) < load.length → load[i]? = some (dgt load i) ∧ 0 ≤ dgt load i ∧ dgt load i ≤ 1099511627776 := fun i hi => hGl.at (by omega)
  clear hpg hp hSt
  simp only [resP, purs, Sample.c, ints] at ha ht htl hn1 hn2
  refine ctr_go good _ _ [.tmp 4] Try.func4 rfl rfl (by decide +kernel) rfl ?_
  simp only [go_sem, Int.reduceNegSucc, Nat.reduceAdd, Nat.reduceSub, Nat.reduceMul, Nat.reduceEqDiff, Nat.reduceLeDiff, Nat.reduceLT, Nat.reduceBEq, Nat.reduceBNe, reduceIte, reduceCtorEq, Int.reduceToNat, Int.reduceAdd, Int.reduceSub, Int.reduceMul, Int.reduceNeg, Int.reduceLT, Int.reduceLE, Int.reduceEq, Int.reduceNe, Evid.iv, Evid.c, Place.c, Move.c, Cert.c, Recall.c, Purity.c, Sample.c, Recipe.c, ints, ic, frac, Abs.flat1]
  refine CallP_eq c7 (by decide) ?_
  simp only [hd, hd1, go_sem, Int.reduceNegSucc, Nat.reduceAdd, Nat.reduceSub, Nat.reduceMul, Nat.reduceEqDiff, Nat.reduceLeDiff, Nat.reduceLT, Nat.reduceBEq, Nat.reduceBNe, reduceIte, reduceCtorEq, Int.reduceToNat, Int.reduceAdd, Int.reduceSub, Int.reduceMul, Int.reduceNeg, Int.reduceLT, Int.reduceLE, Int.reduceEq, Int.reduceNe, Evid.iv, Evid.c, Place.c, Move.c, Cert.c, Recall.c, Purity.c, Sample.c, Recipe.c, ints, ic, frac, Abs.flat1]
  refine CallP_eq ha (by decide) ?_
  simp only [llI, eq_self, go_sem, Int.reduceNegSucc, Nat.reduceAdd, Nat.reduceSub, Nat.reduceMul, Nat.reduceEqDiff, Nat.reduceLeDiff, Nat.reduceLT, Nat.reduceBEq, Nat.reduceBNe, reduceIte, reduceCtorEq, Int.reduceToNat, Int.reduceAdd, Int.reduceSub, Int.reduceMul, Int.reduceNeg, Int.reduceLT, Int.reduceLE, Int.reduceEq, Int.reduceNe, Evid.iv, Evid.c, Place.c, Move.c, Cert.c, Recall.c, Purity.c, Sample.c, Recipe.c, ints, ic, frac, Abs.flat1]
  refine CallP_eq ht (by decide) ?_
  simp only [e0, lenI, eq_self, go_sem, Int.reduceNegSucc, Nat.reduceAdd, Nat.reduceSub, Nat.reduceMul, Nat.reduceEqDiff, Nat.reduceLeDiff, Nat.reduceLT, Nat.reduceBEq, Nat.reduceBNe, reduceIte, reduceCtorEq, Int.reduceToNat, Int.reduceAdd, Int.reduceSub, Int.reduceMul, Int.reduceNeg, Int.reduceLT, Int.reduceLE, Int.reduceEq, Int.reduceNe, Evid.iv, Evid.c, Place.c, Move.c, Cert.c, Recall.c, Purity.c, Sample.c, Recipe.c, ints, ic, frac, Abs.flat1]
  refine CallP_eq htl (by decide) ?_
  simp only [e1, go_sem, Int.reduceNegSucc, Nat.reduceAdd, Nat.reduceSub, Nat.reduceMul, Nat.reduceEqDiff, Nat.reduceLeDiff, Nat.reduceLT, Nat.reduceBEq, Nat.reduceBNe, reduceIte, reduceCtorEq, Int.reduceToNat, Int.reduceAdd, Int.reduceSub, Int.reduceMul, Int.reduceNeg, Int.reduceLT, Int.reduceLE, Int.reduceEq, Int.reduceNe, Evid.iv, Evid.c, Place.c, Move.c, Cert.c, Recall.c, Purity.c, Sample.c, Recipe.c, ints, ic, frac, Abs.flat1]
  refine LoopP_of [1, 2, 5, 6, 8, 9] [2] (fun i : Nat => ⟨[(1, .im (.sl (load.map ic))), (2, .loc 2 3 0 0), (5, .im (.bool true)), (6, .im (.sl (l.map Purity.c))), (8, .im (.bool (keepN load l i))), (9, .im (.int i))], [(2, 3, [s.c])], []⟩)
    (fun i => i ≤ l.length) (fun i => l.length - i) 0 ?_ (Nat.zero_le _) ?_
  · have hk0 : keepN load l 0 = true := rfl
    simp only [Int.natCast_zero, hk0, go_sem, Int.reduceNegSucc, Nat.reduceAdd, Nat.reduceSub, Nat.reduceMul, Nat.reduceEqDiff, Nat.reduceLeDiff, Nat.reduceLT, Nat.reduceBEq, Nat.reduceBNe, reduceIte, reduceCtorEq, Int.reduceToNat, Int.reduceAdd, Int.reduceSub, Int.reduceMul, Int.reduceNeg, Int.reduceLT, Int.reduceLE, Int.reduceEq, Int.reduceNe, Evid.iv, Evid.c, Place.c, Move.c, Cert.c, Recall.c, Purity.c, Sample.c, Recipe.c, ints, ic, frac, Abs.flat1]
  intro i hi
  by_cases hlt : (i : Int) < l.length
  case neg =>
    have hdl : decide ((i : Int) < l.length) = false := decide_eq_false hlt
    have hi' : i = s.grams.length := by omega
    subst hi'
    generalize keepN load l s.grams.length = K at *
    generalize nearF load s.grams s.slack false = N1 at *
    generalize nearF load s.grams (s.slack + 1) true = N2 at *
    simp only [hdl, go_sem, Int.reduceNegSucc, Nat.reduceAdd, Nat.reduceSub, Nat.reduceMul, Nat.reduceEqDiff, Nat.reduceLeDiff, Nat.reduceLT, Nat.reduceBEq, Nat.reduceBNe, reduceIte, reduceCtorEq, Int.reduceToNat, Int.reduceAdd, Int.reduceSub, Int.reduceMul, Int.reduceNeg, Int.reduceLT, Int.reduceLE, Int.reduceEq, Int.reduceNe, Evid.iv, Evid.c, Place.c, Move.c, Cert.c, Recall.c, Purity.c, Sample.c, Recipe.c, ints, ic, frac, Abs.flat1]
    refine CallP_eq hn1 (by decide) ?_
    cases K with
    | true =>
      rw [n2 rfl] at hn2
      cases N1 with
      | true =>
        simp only [w1, go_sem, Int.reduceNegSucc, Nat.reduceAdd, Nat.reduceSub, Nat.reduceMul, Nat.reduceEqDiff, Nat.reduceLeDiff, Nat.reduceLT, Nat.reduceBEq, Nat.reduceBNe, reduceIte, reduceCtorEq, Int.reduceToNat, Int.reduceAdd, Int.reduceSub, Int.reduceMul, Int.reduceNeg, Int.reduceLT, Int.reduceLE, Int.reduceEq, Int.reduceNe, Evid.iv, Evid.c, Place.c, Move.c, Cert.c, Recall.c, Purity.c, Sample.c, Recipe.c, ints, ic, frac, Abs.flat1]
        refine CallP_eq hn2 (by decide) ?_
        simp only [go_sem, Int.reduceNegSucc, Nat.reduceAdd, Nat.reduceSub, Nat.reduceMul, Nat.reduceEqDiff, Nat.reduceLeDiff, Nat.reduceLT, Nat.reduceBEq, Nat.reduceBNe, reduceIte, reduceCtorEq, Int.reduceToNat, Int.reduceAdd, Int.reduceSub, Int.reduceMul, Int.reduceNeg, Int.reduceLT, Int.reduceLE, Int.reduceEq, Int.reduceNe, Evid.iv, Evid.c, Place.c, Move.c, Cert.c, Recall.c, Purity.c, Sample.c, Recipe.c, ints, ic, frac, Abs.flat1]
      | false =>
        simp only [w1, go_sem, Int.reduceNegSucc, Nat.reduceAdd, Nat.reduceSub, Nat.reduceMul, Nat.reduceEqDiff, Nat.reduceLeDiff, Nat.reduceLT, Nat.reduceBEq, Nat.reduceBNe, reduceIte, reduceCtorEq, Int.reduceToNat, Int.reduceAdd, Int.reduceSub, Int.reduceMul, Int.reduceNeg, Int.reduceLT, Int.reduceLE, Int.reduceEq, Int.reduceNe, Evid.iv, Evid.c, Place.c, Move.c, Cert.c, Recall.c, Purity.c, Sample.c, Recipe.c, ints, ic, frac, Abs.flat1]
        refine CallP_eq hn2 (by decide) ?_
        simp only [go_sem, Int.reduceNegSucc, Nat.reduceAdd, Nat.reduceSub, Nat.reduceMul, Nat.reduceEqDiff, Nat.reduceLeDiff, Nat.reduceLT, Nat.reduceBEq, Nat.reduceBNe, reduceIte, reduceCtorEq, Int.reduceToNat, Int.reduceAdd, Int.reduceSub, Int.reduceMul, Int.reduceNeg, Int.reduceLT, Int.reduceLE, Int.reduceEq, Int.reduceNe, Evid.iv, Evid.c, Place.c, Move.c, Cert.c, Recall.c, Purity.c, Sample.c, Recipe.c, ints, ic, frac, Abs.flat1]
    | false =>
      have : N1 = false := by
        cases N1 with
        | false => rfl
        | true => exact absurd (n1 rfl) (by simp)
      subst this
      simp only [go_sem, Int.reduceNegSucc, Nat.reduceAdd, Nat.reduceSub, Nat.reduceMul, Nat.reduceEqDiff, Nat.reduceLeDiff, Nat.reduceLT, Nat.reduceBEq, Nat.reduceBNe, reduceIte, reduceCtorEq, Int.reduceToNat, Int.reduceAdd, Int.reduceSub, Int.reduceMul, Int.reduceNeg, Int.reduceLT, Int.reduceLE, Int.reduceEq, Int.reduceNe, Evid.iv, Evid.c, Place.c, Move.c, Cert.c, Recall.c, Purity.c, Sample.c, Recipe.c, ints, ic, frac, Abs.flat1]
  case pos =>
    have hdl : decide ((i : Int) < l.length) = true := decide_eq_true hlt
    obtain ⟨x, hx, x1, x2, x3, x4⟩ := hat i hlt
    obtain ⟨hm, m0, m1⟩ := hpos i (by omega)
    have h1 := i64_ok (n := (i : Int) + 1) (by omega)
    have hsh := t_share (dgt load i) (isum load) (by omega) (by omega) (by omega)
    change Ctr _ _ _ (· = frac (shareR (dgt load i) (isum load))) at hsh
    have hi1 := t_intf x.least (by omega)
    have hi2 := t_intf x.most (by omega)
    obtain ⟨sl1, sl2⟩ := share_len ⟨m0, m1⟩ (S := isum load) ⟨L0, L1⟩
    obtain ⟨il1, il2⟩ := int_len (k := x.least) (by omega)
    obtain ⟨im1, im2⟩ := int_len (k := x.most) (by omega)
    have hc1 := t_cmpf (shareR (dgt load i) (isum load)) (Rat.divInt x.least 1) (by omega) (by omega) (by omega) (by omega)
    have hc2 := t_cmpf (shareR (dgt load i) (isum load)) (Rat.divInt x.most 1) (by omega) (by omega) (by omega) (by omega)
    have hks := keepN_succ load l i
    have hki : keepI load l i = (decide (0 ≤ cmpR (shareR (dgt load i) (isum load)) (Rat.divInt x.least 1)) && decide (cmpR (shareR (dgt load i) (isum load)) (Rat.divInt x.most 1) ≤ 0)) := by
      unfold keepI; rw [hx]
    rw [hki] at hks
    clear hki n1 n2 hn1 hn2 hat hpos
    generalize shareR (dgt load i) (isum load) = sh at *
    generalize Rat.divInt x.least 1 = r1 at *
    generalize Rat.divInt x.most 1 = r2 at *
    generalize cmpR sh r1 = q1 at *
    generalize cmpR sh r2 = q2 at *
    generalize hK : keepN load l i = K at *
    simp only [frac, ints] at hsh hi1 hi2 hc1 hc2
    simp only [hdl, hK, go_sem, Int.reduceNegSucc, Nat.reduceAdd, Nat.reduceSub, Nat.reduceMul, Nat.reduceEqDiff, Nat.reduceLeDiff, Nat.reduceLT, Nat.reduceBEq, Nat.reduceBNe, reduceIte, reduceCtorEq, Int.reduceToNat, Int.reduceAdd, Int.reduceSub, Int.reduceMul, Int.reduceNeg, Int.reduceLT, Int.reduceLE, Int.reduceEq, Int.reduceNe, Evid.iv, Evid.c, Place.c, Move.c, Cert.c, Recall.c, Purity.c, Sample.c, Recipe.c, ints, ic, frac, Abs.flat1]
    refine DrawS_of (by decide +kernel) ?_
    simp only [List.getElem?_map, hm, go_sem, Int.reduceNegSucc, Nat.reduceAdd, Nat.reduceSub, Nat.reduceMul, Nat.reduceEqDiff, Nat.reduceLeDiff, Nat.reduceLT, Nat.reduceBEq, Nat.reduceBNe, reduceIte, reduceCtorEq, Int.reduceToNat, Int.reduceAdd, Int.reduceSub, Int.reduceMul, Int.reduceNeg, Int.reduceLT, Int.reduceLE, Int.reduceEq, Int.reduceNe, Evid.iv, Evid.c, Place.c, Move.c, Cert.c, Recall.c, Purity.c, Sample.c, Recipe.c, ints, ic, frac, Abs.flat1]
    refine CallD_eq htl (by decide) ?_
    simp only [List.getElem?_map, hm, go_sem, Int.reduceNegSucc, Nat.reduceAdd, Nat.reduceSub, Nat.reduceMul, Nat.reduceEqDiff, Nat.reduceLeDiff, Nat.reduceLT, Nat.reduceBEq, Nat.reduceBNe, reduceIte, reduceCtorEq, Int.reduceToNat, Int.reduceAdd, Int.reduceSub, Int.reduceMul, Int.reduceNeg, Int.reduceLT, Int.reduceLE, Int.reduceEq, Int.reduceNe, Evid.iv, Evid.c, Place.c, Move.c, Cert.c, Recall.c, Purity.c, Sample.c, Recipe.c, ints, ic, frac, Abs.flat1]
    refine CallD_eq hsh (by decide) ?_
    simp only [go_sem, Int.reduceNegSucc, Nat.reduceAdd, Nat.reduceSub, Nat.reduceMul, Nat.reduceEqDiff, Nat.reduceLeDiff, Nat.reduceLT, Nat.reduceBEq, Nat.reduceBNe, reduceIte, reduceCtorEq, Int.reduceToNat, Int.reduceAdd, Int.reduceSub, Int.reduceMul, Int.reduceNeg, Int.reduceLT, Int.reduceLE, Int.reduceEq, Int.reduceNe, Evid.iv, Evid.c, Place.c, Move.c, Cert.c, Recall.c, Purity.c, Sample.c, Recipe.c, ints, ic, frac, Abs.flat1]
    refine DrawP_of 17 (by decide +kernel) ?_
    simp only [List.getElem?_map, hx, x1, x2, eq_self, go_sem, Int.reduceNegSucc, Nat.reduceAdd, Nat.reduceSub, Nat.reduceMul, Nat.reduceEqDiff, Nat.reduceLeDiff, Nat.reduceLT, Nat.reduceBEq, Nat.reduceBNe, reduceIte, reduceCtorEq, Int.reduceToNat, Int.reduceAdd, Int.reduceSub, Int.reduceMul, Int.reduceNeg, Int.reduceLT, Int.reduceLE, Int.reduceEq, Int.reduceNe, Evid.iv, Evid.c, Place.c, Move.c, Cert.c, Recall.c, Purity.c, Sample.c, Recipe.c, ints, ic, frac, Abs.flat1]
    refine DrawP_of 24 (by decide +kernel) ?_
    cases K with
    | false =>
      simp only [List.getElem?_map, hx, go_sem, Int.reduceNegSucc, Nat.reduceAdd, Nat.reduceSub, Nat.reduceMul, Nat.reduceEqDiff, Nat.reduceLeDiff, Nat.reduceLT, Nat.reduceBEq, Nat.reduceBNe, reduceIte, reduceCtorEq, Int.reduceToNat, Int.reduceAdd, Int.reduceSub, Int.reduceMul, Int.reduceNeg, Int.reduceLT, Int.reduceLE, Int.reduceEq, Int.reduceNe, Evid.iv, Evid.c, Place.c, Move.c, Cert.c, Recall.c, Purity.c, Sample.c, Recipe.c, ints, ic, frac, Abs.flat1]
      refine RoundP_of (i + 1) ?_ (by omega) (by omega)
      simp only [h1, Int.natCast_add, hks, go_sem, Int.reduceNegSucc, Nat.reduceAdd, Nat.reduceSub, Nat.reduceMul, Nat.reduceEqDiff, Nat.reduceLeDiff, Nat.reduceLT, Nat.reduceBEq, Nat.reduceBNe, reduceIte, reduceCtorEq, Int.reduceToNat, Int.reduceAdd, Int.reduceSub, Int.reduceMul, Int.reduceNeg, Int.reduceLT, Int.reduceLE, Int.reduceEq, Int.reduceNe, Evid.iv, Evid.c, Place.c, Move.c, Cert.c, Recall.c, Purity.c, Sample.c, Recipe.c, ints, ic, frac, Abs.flat1]
    | true =>
      simp only [List.getElem?_map, hx, go_sem, Int.reduceNegSucc, Nat.reduceAdd, Nat.reduceSub, Nat.reduceMul, Nat.reduceEqDiff, Nat.reduceLeDiff, Nat.reduceLT, Nat.reduceBEq, Nat.reduceBNe, reduceIte, reduceCtorEq, Int.reduceToNat, Int.reduceAdd, Int.reduceSub, Int.reduceMul, Int.reduceNeg, Int.reduceLT, Int.reduceLE, Int.reduceEq, Int.reduceNe, Evid.iv, Evid.c, Place.c, Move.c, Cert.c, Recall.c, Purity.c, Sample.c, Recipe.c, ints, ic, frac, Abs.flat1]
      refine CallD_eq hi1 (by decide) ?_
      simp only [List.getElem?_map, hx, go_sem, Int.reduceNegSucc, Nat.reduceAdd, Nat.reduceSub, Nat.reduceMul, Nat.reduceEqDiff, Nat.reduceLeDiff, Nat.reduceLT, Nat.reduceBEq, Nat.reduceBNe, reduceIte, reduceCtorEq, Int.reduceToNat, Int.reduceAdd, Int.reduceSub, Int.reduceMul, Int.reduceNeg, Int.reduceLT, Int.reduceLE, Int.reduceEq, Int.reduceNe, Evid.iv, Evid.c, Place.c, Move.c, Cert.c, Recall.c, Purity.c, Sample.c, Recipe.c, ints, ic, frac, Abs.flat1]
      refine CallD_eq hc1 (by decide) ?_
      simp only [List.getElem?_map, hx, go_sem, Int.reduceNegSucc, Nat.reduceAdd, Nat.reduceSub, Nat.reduceMul, Nat.reduceEqDiff, Nat.reduceLeDiff, Nat.reduceLT, Nat.reduceBEq, Nat.reduceBNe, reduceIte, reduceCtorEq, Int.reduceToNat, Int.reduceAdd, Int.reduceSub, Int.reduceMul, Int.reduceNeg, Int.reduceLT, Int.reduceLE, Int.reduceEq, Int.reduceNe, Evid.iv, Evid.c, Place.c, Move.c, Cert.c, Recall.c, Purity.c, Sample.c, Recipe.c, ints, ic, frac, Abs.flat1]
      refine Two_of (fun f1 => ?_) (fun f1 => ?_)
      · simp only [List.getElem?_map, hx, f1, go_sem, Int.reduceNegSucc, Nat.reduceAdd, Nat.reduceSub, Nat.reduceMul, Nat.reduceEqDiff, Nat.reduceLeDiff, Nat.reduceLT, Nat.reduceBEq, Nat.reduceBNe, reduceIte, reduceCtorEq, Int.reduceToNat, Int.reduceAdd, Int.reduceSub, Int.reduceMul, Int.reduceNeg, Int.reduceLT, Int.reduceLE, Int.reduceEq, Int.reduceNe, Evid.iv, Evid.c, Place.c, Move.c, Cert.c, Recall.c, Purity.c, Sample.c, Recipe.c, ints, ic, frac, Abs.flat1]
        refine CallD_eq hi2 (by decide) ?_
        simp only [List.getElem?_map, hx, f1, go_sem, Int.reduceNegSucc, Nat.reduceAdd, Nat.reduceSub, Nat.reduceMul, Nat.reduceEqDiff, Nat.reduceLeDiff, Nat.reduceLT, Nat.reduceBEq, Nat.reduceBNe, reduceIte, reduceCtorEq, Int.reduceToNat, Int.reduceAdd, Int.reduceSub, Int.reduceMul, Int.reduceNeg, Int.reduceLT, Int.reduceLE, Int.reduceEq, Int.reduceNe, Evid.iv, Evid.c, Place.c, Move.c, Cert.c, Recall.c, Purity.c, Sample.c, Recipe.c, ints, ic, frac, Abs.flat1]
        refine CallD_eq hc2 (by decide) ?_
        simp only [List.getElem?_map, hx, f1, go_sem, Int.reduceNegSucc, Nat.reduceAdd, Nat.reduceSub, Nat.reduceMul, Nat.reduceEqDiff, Nat.reduceLeDiff, Nat.reduceLT, Nat.reduceBEq, Nat.reduceBNe, reduceIte, reduceCtorEq, Int.reduceToNat, Int.reduceAdd, Int.reduceSub, Int.reduceMul, Int.reduceNeg, Int.reduceLT, Int.reduceLE, Int.reduceEq, Int.reduceNe, Evid.iv, Evid.c, Place.c, Move.c, Cert.c, Recall.c, Purity.c, Sample.c, Recipe.c, ints, ic, frac, Abs.flat1]
        refine RoundP_of (i + 1) ?_ (by omega) (by omega)
        simp only [h1, Int.natCast_add, hks, f1, go_sem, Int.reduceNegSucc, Nat.reduceAdd, Nat.reduceSub, Nat.reduceMul, Nat.reduceEqDiff, Nat.reduceLeDiff, Nat.reduceLT, Nat.reduceBEq, Nat.reduceBNe, reduceIte, reduceCtorEq, Int.reduceToNat, Int.reduceAdd, Int.reduceSub, Int.reduceMul, Int.reduceNeg, Int.reduceLT, Int.reduceLE, Int.reduceEq, Int.reduceNe, Evid.iv, Evid.c, Place.c, Move.c, Cert.c, Recall.c, Purity.c, Sample.c, Recipe.c, ints, ic, frac, Abs.flat1]
      · simp only [List.getElem?_map, hx, f1, go_sem, Int.reduceNegSucc, Nat.reduceAdd, Nat.reduceSub, Nat.reduceMul, Nat.reduceEqDiff, Nat.reduceLeDiff, Nat.reduceLT, Nat.reduceBEq, Nat.reduceBNe, reduceIte, reduceCtorEq, Int.reduceToNat, Int.reduceAdd, Int.reduceSub, Int.reduceMul, Int.reduceNeg, Int.reduceLT, Int.reduceLE, Int.reduceEq, Int.reduceNe, Evid.iv, Evid.c, Place.c, Move.c, Cert.c, Recall.c, Purity.c, Sample.c, Recipe.c, ints, ic, frac, Abs.flat1]
        refine RoundP_of (i + 1) ?_ (by omega) (by omega)
        simp only [h1, Int.natCast_add, hks, f1, go_sem, Int.reduceNegSucc, Nat.reduceAdd, Nat.reduceSub, Nat.reduceMul, Nat.reduceEqDiff, Nat.reduceLeDiff, Nat.reduceLT, Nat.reduceBEq, Nat.reduceBNe, reduceIte, reduceCtorEq, Int.reduceToNat, Int.reduceAdd, Int.reduceSub, Int.reduceMul, Int.reduceNeg, Int.reduceLT, Int.reduceLE, Int.reduceEq, Int.reduceNe, Evid.iv, Evid.c, Place.c, Move.c, Cert.c, Recall.c, Purity.c, Sample.c, Recipe.c, ints, ic, frac, Abs.flat1]
end Go.Proofs.Ytpnlfkaijdjhlaa
