/- A part of the proof: what functions of the program do, and the layer under it. No further condition. -/
import Derived.Test.YtpnlfkaijdjhlaaKS2
import Derived.Test.YtpnlfkaijdjhlaaKC28
import Derived.Test.YtpnlfkaijdjhlaaKC29
namespace Go.Proofs.Ytpnlfkaijdjhlaa
set_option linter.all false
open Go.Abs

set_option maxRecDepth 100000 in
set_option maxHeartbeats 4000000 in
theorem w5 (s : Sample) (more : Int) (hm : 0 ≤ more ∧ more ≤ 65535) : Ctr G.P 5 [.agg s.c, .sc (.int .u16 more)] (· = .bool true) := by
  by_cases h10 : 10 < (s.grams.length : Int)
  · have hd : decide (10 < (s.grams.length : Int)) = true := decide_eq_true h10
    refine ctr_go good _ _ [.tmp 4] Try.func5 rfl rfl (by decide +kernel) rfl ?_
    simp only [go_sem, Int.reduceNegSucc, Nat.reduceAdd, Nat.reduceSub, Nat.reduceMul, Nat.reduceEqDiff, Nat.reduceLeDiff, Nat.reduceLT, Nat.reduceBEq, Nat.reduceBNe, reduceIte, reduceCtorEq, Int.reduceToNat, Int.reduceAdd, Int.reduceSub, Int.reduceMul, Int.reduceNeg, Int.reduceLT, Int.reduceLE, Int.reduceEq, Int.reduceNe, Evid.iv, Evid.c, Place.c, Move.c, Cert.c, Recall.c, Purity.c, Sample.c, Recipe.c, ints, ic, frac, Abs.flat1]
    refine CallP_eq c7 (by decide) ?_
    simp only [hd, go_sem, Int.reduceNegSucc, Nat.reduceAdd, Nat.reduceSub, Nat.reduceMul, Nat.reduceEqDiff, Nat.reduceLeDiff, Nat.reduceLT, Nat.reduceBEq, Nat.reduceBNe, reduceIte, reduceCtorEq, Int.reduceToNat, Int.reduceAdd, Int.reduceSub, Int.reduceMul, Int.reduceNeg, Int.reduceLT, Int.reduceLE, Int.reduceEq, Int.reduceNe, Evid.iv, Evid.c, Place.c, Move.c, Cert.c, Recall.c, Purity.c, Sample.c, Recipe.c, ints, ic, frac, Abs.flat1]
  have hd : decide (10 < (s.grams.length : Int)) = false := decide_eq_false h10
  have ha := c10 s (by omega)
  have ht := t_total s.grams (by omega)
  have hfa := fun l h => pur_ok (s := s) (l := l) h
  have w2 := i64_ok (n := more) (by omega)
  have step : ∀ σ : Int, s.slack ≤ σ → btw σ 0 1000 = btw s.slack 0 1000 → Ctr G.P 10 [.agg ({ s with slack := σ } : Sample).c] (· = resP (puritiesF { s with slack := σ })) ∧ (puritiesF { s with slack := σ }).2 = (puritiesF s).2 ∧
      (∀ a b, puritiesF s = (a, 0) → puritiesF { s with slack := σ } = (b, 0) → ∀ (i : Nat) n, s.grams[i]? = some n → ∃ x y, a[i]? = some x ∧ b[i]? = some y ∧ (0 ≤ n ∧ n ≤ 1099511627776) ∧ (0 ≤ x.least ∧ x.least ≤ 1000) ∧ (0 ≤ x.most ∧ x.most ≤ 1000) ∧ y.least ≤ x.least ∧ x.most ≤ y.most ∧ x.least * isum s.grams ≤ 1000 * n ∧ 1000 * n ≤ x.most * isum s.grams) ∧
      (∀ l, puritiesF { s with slack := σ } = (l, 0) → l.length = s.grams.length) := fun σ h1 h2 =>
    ⟨c10 { s with slack := σ } (show s.grams.length ≤ 100000 by omega), slack_err s σ h2, fun a b ha hb i n hn => slack_law h1 ha hb hn, fun l h => (pur_ok h).2.2.2.2.2⟩
  have main : ∀ σ : Int, s.slack ≤ σ → btw σ 0 1000 = btw s.slack 0 1000 → ∃ a b k, puritiesF s = (a, k) ∧ Ctr G.P 10 [.agg s.c] (· = resP (a, k)) ∧ Ctr G.P 10 [.agg ({ s with slack := σ } : Sample).c] (· = resP (b, k)) ∧
      (∀ h : k = 0, (0 < isum s.grams ∧ isum s.grams ≤ 6597069766656 ∧ totalF s.grams = isum s.grams ∧ a.length = s.grams.length) ∧ b.length = s.grams.length ∧
        ∀ (i : Nat) n, s.grams[i]? = some n → ∃ x y, a[i]? = some x ∧ b[i]? = some y ∧ (0 ≤ n ∧ n ≤ 1099511627776) ∧ (0 ≤ x.least ∧ x.least ≤ 1000) ∧ (0 ≤ x.most ∧ x.most ≤ 1000) ∧ y.least ≤ x.least ∧ x.most ≤ y.most ∧ x.least * isum s.grams ≤ 1000 * n ∧ 1000 * n ≤ x.most * isum s.grams) := by
    intro σ h1 h2
    obtain ⟨g1, g2, g3, g4⟩ := step σ h1 h2
    refine ⟨(puritiesF s).1, (puritiesF { s with slack := σ }).1, (puritiesF s).2, rfl, ha, by rw [← g2]; exact g1, fun h => ?_⟩
    have ea : puritiesF s = ((puritiesF s).1, 0) := by rw [← h]
    have eb : puritiesF { s with slack := σ } = ((puritiesF { s with slack := σ }).1, 0) := by rw [← h, ← g2]
    obtain ⟨_, k1, k2, k3, _, k4⟩ := hfa _ ea
    exact ⟨⟨k1, k2, k3, k4⟩, g4 _ eb, g3 _ _ ea eb⟩
  clear step hfa ha
  by_cases hr : 0 ≤ s.slack ∧ s.slack ≤ 1000
  · obtain ⟨a, b, k, _, ha, hb, hk0⟩ := main (min 1000 (s.slack + more)) (by omega) (by rw [btw_iff.2 hr, btw_iff.2 (by omega)])
    have w1 := i64_ok (n := s.slack + more) (by omega)
    have r1 : decide (0 ≤ s.slack) = true := decide_eq_true hr.1
    have r2 : decide (s.slack ≤ 1000) = true := decide_eq_true hr.2
    clear main
    simp only [resP, purs, Sample.c, ints] at ha hb ht
    refine ctr_go good _ _ [.tmp 4] Try.func5 rfl rfl (by decide +kernel) rfl ?_
    simp only [go_sem, Int.reduceNegSucc, Nat.reduceAdd, Nat.reduceSub, Nat.reduceMul, Nat.reduceEqDiff, Nat.reduceLeDiff, Nat.reduceLT, Nat.reduceBEq, Nat.reduceBNe, reduceIte, reduceCtorEq, Int.reduceToNat, Int.reduceAdd, Int.reduceSub, Int.reduceMul, Int.reduceNeg, Int.reduceLT, Int.reduceLE, Int.reduceEq, Int.reduceNe, Evid.iv, Evid.c, Place.c, Move.c, Cert.c, Recall.c, Purity.c, Sample.c, Recipe.c, ints, ic, frac, Abs.flat1]
    refine CallP_eq c7 (by decide) ?_
    simp only [hd, r1, r2, w2, w1, go_sem, Int.reduceNegSucc, Nat.reduceAdd, Nat.reduceSub, Nat.reduceMul, Nat.reduceEqDiff, Nat.reduceLeDiff, Nat.reduceLT, Nat.reduceBEq, Nat.reduceBNe, reduceIte, reduceCtorEq, Int.reduceToNat, Int.reduceAdd, Int.reduceSub, Int.reduceMul, Int.reduceNeg, Int.reduceLT, Int.reduceLE, Int.reduceEq, Int.reduceNe, Evid.iv, Evid.c, Place.c, Move.c, Cert.c, Recall.c, Purity.c, Sample.c, Recipe.c, ints, ic, frac, Abs.flat1]
    refine CallP_eq ha (by decide) ?_
    simp only [go_sem, Int.reduceNegSucc, Nat.reduceAdd, Nat.reduceSub, Nat.reduceMul, Nat.reduceEqDiff, Nat.reduceLeDiff, Nat.reduceLT, Nat.reduceBEq, Nat.reduceBNe, reduceIte, reduceCtorEq, Int.reduceToNat, Int.reduceAdd, Int.reduceSub, Int.reduceMul, Int.reduceNeg, Int.reduceLT, Int.reduceLE, Int.reduceEq, Int.reduceNe, Evid.iv, Evid.c, Place.c, Move.c, Cert.c, Recall.c, Purity.c, Sample.c, Recipe.c, ints, ic, frac, Abs.flat1]
    refine CallP_eq hb (by decide) ?_
    simp only [go_sem, Int.reduceNegSucc, Nat.reduceAdd, Nat.reduceSub, Nat.reduceMul, Nat.reduceEqDiff, Nat.reduceLeDiff, Nat.reduceLT, Nat.reduceBEq, Nat.reduceBNe, reduceIte, reduceCtorEq, Int.reduceToNat, Int.reduceAdd, Int.reduceSub, Int.reduceMul, Int.reduceNeg, Int.reduceLT, Int.reduceLE, Int.reduceEq, Int.reduceNe, Evid.iv, Evid.c, Place.c, Move.c, Cert.c, Recall.c, Purity.c, Sample.c, Recipe.c, ints, ic, frac, Abs.flat1]
    by_cases hk : k = 0
    case neg =>
      have hkd : decide (k = 0) = false := decide_eq_false hk
      simp only [hkd, eq_self, go_sem, Int.reduceNegSucc, Nat.reduceAdd, Nat.reduceSub, Nat.reduceMul, Nat.reduceEqDiff, Nat.reduceLeDiff, Nat.reduceLT, Nat.reduceBEq, Nat.reduceBNe, reduceIte, reduceCtorEq, Int.reduceToNat, Int.reduceAdd, Int.reduceSub, Int.reduceMul, Int.reduceNeg, Int.reduceLT, Int.reduceLE, Int.reduceEq, Int.reduceNe, Evid.iv, Evid.c, Place.c, Move.c, Cert.c, Recall.c, Purity.c, Sample.c, Recipe.c, ints, ic, frac, Abs.flat1]
    case pos =>
      subst hk
      obtain ⟨⟨hS0, hS1, hSt, la⟩, lb, hlaw⟩ := hk0 rfl
      clear hk0 ha hb
      rw [hSt] at ht
      have e0 : decide (isum s.grams = 0) = false := decide_eq_false (by omega)
      have lbI : (b.length : Int) = s.grams.length := by rw [lb]
      have laI : (a.length : Int) = s.grams.length := by rw [la]
      simp only [lbI, laI, eq_self, go_sem, Int.reduceNegSucc, Nat.reduceAdd, Nat.reduceSub, Nat.reduceMul, Nat.reduceEqDiff, Nat.reduceLeDiff, Nat.reduceLT, Nat.reduceBEq, Nat.reduceBNe, reduceIte, reduceCtorEq, Int.reduceToNat, Int.reduceAdd, Int.reduceSub, Int.reduceMul, Int.reduceNeg, Int.reduceLT, Int.reduceLE, Int.reduceEq, Int.reduceNe, Evid.iv, Evid.c, Place.c, Move.c, Cert.c, Recall.c, Purity.c, Sample.c, Recipe.c, ints, ic, frac, Abs.flat1]
      refine CallP_eq ht (by decide) ?_
      simp only [e0, go_sem, Int.reduceNegSucc, Nat.reduceAdd, Nat.reduceSub, Nat.reduceMul, Nat.reduceEqDiff, Nat.reduceLeDiff, Nat.reduceLT, Nat.reduceBEq, Nat.reduceBNe, reduceIte, reduceCtorEq, Int.reduceToNat, Int.reduceAdd, Int.reduceSub, Int.reduceMul, Int.reduceNeg, Int.reduceLT, Int.reduceLE, Int.reduceEq, Int.reduceNe, Evid.iv, Evid.c, Place.c, Move.c, Cert.c, Recall.c, Purity.c, Sample.c, Recipe.c, ints, ic, frac, Abs.flat1]
      generalize hS : isum s.grams = S at *
      refine LoopP_of [2, 5, 7, 9, 11] [2] (fun i : Nat => ⟨[(2, .loc 2 3 0 0), (5, .im (.bool true)), (7, .im (.sl (a.map Purity.c))), (9, .im (.sl (b.map Purity.c))), (11, .im (.int i))], [(2, 3, [s.c])], []⟩)
        (fun i => i ≤ a.length) (fun i => a.length - i) 0 ?_ (Nat.zero_le _) ?_
      · simp only [Int.natCast_zero, go_sem, Int.reduceNegSucc, Nat.reduceAdd, Nat.reduceSub, Nat.reduceMul, Nat.reduceEqDiff, Nat.reduceLeDiff, Nat.reduceLT, Nat.reduceBEq, Nat.reduceBNe, reduceIte, reduceCtorEq, Int.reduceToNat, Int.reduceAdd, Int.reduceSub, Int.reduceMul, Int.reduceNeg, Int.reduceLT, Int.reduceLE, Int.reduceEq, Int.reduceNe, Evid.iv, Evid.c, Place.c, Move.c, Cert.c, Recall.c, Purity.c, Sample.c, Recipe.c, ints, ic, frac, Abs.flat1]
      intro i hi
      by_cases hlt : (i : Int) < a.length
      case neg =>
        have hdl : decide ((i : Int) < a.length) = false := decide_eq_false hlt
        simp only [hdl, go_sem, Int.reduceNegSucc, Nat.reduceAdd, Nat.reduceSub, Nat.reduceMul, Nat.reduceEqDiff, Nat.reduceLeDiff, Nat.reduceLT, Nat.reduceBEq, Nat.reduceBNe, reduceIte, reduceCtorEq, Int.reduceToNat, Int.reduceAdd, Int.reduceSub, Int.reduceMul, Int.reduceNeg, Int.reduceLT, Int.reduceLE, Int.reduceEq, Int.reduceNe, Evid.iv, Evid.c, Place.c, Move.c, Cert.c, Recall.c, Purity.c, Sample.c, Recipe.c, ints, ic, frac, Abs.flat1]
      case pos =>
        have hdl : decide ((i : Int) < a.length) = true := decide_eq_true hlt
        obtain ⟨n, hn⟩ : ∃ n, s.grams[i]? = some n := ⟨_, List.getElem?_eq_getElem (by omega)⟩
        obtain ⟨x, y, hx, hy, hn0, x1, x2, x3, x4, x5, x6⟩ := hlaw i n hn
        have h1 := i64_ok (n := (i : Int) + 1) (by omega)
        have hsh := t_share n S (by omega) (by omega) (by omega)
        have hi1 := t_intf x.least (by omega)
        have hi2 := t_intf x.most (by omega)
        obtain ⟨sl1, sl2⟩ := share_len hn0 (S := S) ⟨hS0, by omega⟩
        obtain ⟨il1, il2⟩ := int_len (k := x.least) (by omega)
        obtain ⟨im1, im2⟩ := int_len (k := x.most) (by omega)
        have hc1 := t_cmpf (shareR n S) (Rat.divInt x.least 1) (by omega) (by omega) (by omega) (by omega)
        have hc2 := t_cmpf (shareR n S) (Rat.divInt x.most 1) (by omega) (by omega) (by omega) (by omega)
        have q1 : decide (cmpR (shareR n S) (Rat.divInt x.least 1) < 0) = false := decide_eq_false (by rw [le_share hS0]; omega)
        have q2 : decide (0 < cmpR (shareR n S) (Rat.divInt x.most 1)) = false := decide_eq_false (by rw [share_le hS0]; omega)
        have q3 : decide (x.least < y.least) = false := decide_eq_false (by omega)
        have q4 : decide (y.most < x.most) = false := decide_eq_false (by omega)
        have q5 : decide (x.least < 0) = false := decide_eq_false (by omega)
        have q6 : decide (1000 < x.most) = false := decide_eq_false (by omega)
        change Ctr _ _ _ (· = frac (shareR n S)) at hsh
        generalize shareR n S = sh at *
        generalize Rat.divInt x.least 1 = r1 at *
        generalize Rat.divInt x.most 1 = r2 at *
        simp only [frac, ints] at hsh hi1 hi2 hc1 hc2 ht
        simp only [hdl, go_sem, Int.reduceNegSucc, Nat.reduceAdd, Nat.reduceSub, Nat.reduceMul, Nat.reduceEqDiff, Nat.reduceLeDiff, Nat.reduceLT, Nat.reduceBEq, Nat.reduceBNe, reduceIte, reduceCtorEq, Int.reduceToNat, Int.reduceAdd, Int.reduceSub, Int.reduceMul, Int.reduceNeg, Int.reduceLT, Int.reduceLE, Int.reduceEq, Int.reduceNe, Evid.iv, Evid.c, Place.c, Move.c, Cert.c, Recall.c, Purity.c, Sample.c, Recipe.c, ints, ic, frac, Abs.flat1]
        refine DrawS_of (by decide +kernel) ?_
        simp only [List.getElem?_map, hn, go_sem, Int.reduceNegSucc, Nat.reduceAdd, Nat.reduceSub, Nat.reduceMul, Nat.reduceEqDiff, Nat.reduceLeDiff, Nat.reduceLT, Nat.reduceBEq, Nat.reduceBNe, reduceIte, reduceCtorEq, Int.reduceToNat, Int.reduceAdd, Int.reduceSub, Int.reduceMul, Int.reduceNeg, Int.reduceLT, Int.reduceLE, Int.reduceEq, Int.reduceNe, Evid.iv, Evid.c, Place.c, Move.c, Cert.c, Recall.c, Purity.c, Sample.c, Recipe.c, ints, ic, frac, Abs.flat1]
        refine CallD_eq ht (by decide) ?_
        simp only [List.getElem?_map, hn, go_sem, Int.reduceNegSucc, Nat.reduceAdd, Nat.reduceSub, Nat.reduceMul, Nat.reduceEqDiff, Nat.reduceLeDiff, Nat.reduceLT, Nat.reduceBEq, Nat.reduceBNe, reduceIte, reduceCtorEq, Int.reduceToNat, Int.reduceAdd, Int.reduceSub, Int.reduceMul, Int.reduceNeg, Int.reduceLT, Int.reduceLE, Int.reduceEq, Int.reduceNe, Evid.iv, Evid.c, Place.c, Move.c, Cert.c, Recall.c, Purity.c, Sample.c, Recipe.c, ints, ic, frac, Abs.flat1]
        refine CallD_eq hsh (by decide) ?_
        simp only [go_sem, Int.reduceNegSucc, Nat.reduceAdd, Nat.reduceSub, Nat.reduceMul, Nat.reduceEqDiff, Nat.reduceLeDiff, Nat.reduceLT, Nat.reduceBEq, Nat.reduceBNe, reduceIte, reduceCtorEq, Int.reduceToNat, Int.reduceAdd, Int.reduceSub, Int.reduceMul, Int.reduceNeg, Int.reduceLT, Int.reduceLE, Int.reduceEq, Int.reduceNe, Evid.iv, Evid.c, Place.c, Move.c, Cert.c, Recall.c, Purity.c, Sample.c, Recipe.c, ints, ic, frac, Abs.flat1]
        refine DrawP_of 40 (by decide +kernel) ?_
        simp only [List.getElem?_map, hx, hy, q3, q4, q5, q6, go_sem, Int.reduceNegSucc, Nat.reduceAdd, Nat.reduceSub, Nat.reduceMul, Nat.reduceEqDiff, Nat.reduceLeDiff, Nat.reduceLT, Nat.reduceBEq, Nat.reduceBNe, reduceIte, reduceCtorEq, Int.reduceToNat, Int.reduceAdd, Int.reduceSub, Int.reduceMul, Int.reduceNeg, Int.reduceLT, Int.reduceLE, Int.reduceEq, Int.reduceNe, Evid.iv, Evid.c, Place.c, Move.c, Cert.c, Recall.c, Purity.c, Sample.c, Recipe.c, ints, ic, frac, Abs.flat1]
        refine DrawP_of 20 (by decide +kernel) ?_
        simp only [List.getElem?_map, hx, go_sem, Int.reduceNegSucc, Nat.reduceAdd, Nat.reduceSub, Nat.reduceMul, Nat.reduceEqDiff, Nat.reduceLeDiff, Nat.reduceLT, Nat.reduceBEq, Nat.reduceBNe, reduceIte, reduceCtorEq, Int.reduceToNat, Int.reduceAdd, Int.reduceSub, Int.reduceMul, Int.reduceNeg, Int.reduceLT, Int.reduceLE, Int.reduceEq, Int.reduceNe, Evid.iv, Evid.c, Place.c, Move.c, Cert.c, Recall.c, Purity.c, Sample.c, Recipe.c, ints, ic, frac, Abs.flat1]
        refine CallD_eq hi1 (by decide) ?_
        simp only [List.getElem?_map, hx, go_sem, Int.reduceNegSucc, Nat.reduceAdd, Nat.reduceSub, Nat.reduceMul, Nat.reduceEqDiff, Nat.reduceLeDiff, Nat.reduceLT, Nat.reduceBEq, Nat.reduceBNe, reduceIte, reduceCtorEq, Int.reduceToNat, Int.reduceAdd, Int.reduceSub, Int.reduceMul, Int.reduceNeg, Int.reduceLT, Int.reduceLE, Int.reduceEq, Int.reduceNe, Evid.iv, Evid.c, Place.c, Move.c, Cert.c, Recall.c, Purity.c, Sample.c, Recipe.c, ints, ic, frac, Abs.flat1]
        refine CallD_eq hc1 (by decide) ?_
        simp only [List.getElem?_map, hx, q1, go_sem, Int.reduceNegSucc, Nat.reduceAdd, Nat.reduceSub, Nat.reduceMul, Nat.reduceEqDiff, Nat.reduceLeDiff, Nat.reduceLT, Nat.reduceBEq, Nat.reduceBNe, reduceIte, reduceCtorEq, Int.reduceToNat, Int.reduceAdd, Int.reduceSub, Int.reduceMul, Int.reduceNeg, Int.reduceLT, Int.reduceLE, Int.reduceEq, Int.reduceNe, Evid.iv, Evid.c, Place.c, Move.c, Cert.c, Recall.c, Purity.c, Sample.c, Recipe.c, ints, ic, frac, Abs.flat1]
        refine CallD_eq hi2 (by decide) ?_
        simp only [List.getElem?_map, hx, go_sem, Int.reduceNegSucc, Nat.reduceAdd, Nat.reduceSub, Nat.reduceMul, Nat.reduceEqDiff, Nat.reduceLeDiff, Nat.reduceLT, Nat.reduceBEq, Nat.reduceBNe, reduceIte, reduceCtorEq, Int.reduceToNat, Int.reduceAdd, Int.reduceSub, Int.reduceMul, Int.reduceNeg, Int.reduceLT, Int.reduceLE, Int.reduceEq, Int.reduceNe, Evid.iv, Evid.c, Place.c, Move.c, Cert.c, Recall.c, Purity.c, Sample.c, Recipe.c, ints, ic, frac, Abs.flat1]
        refine CallD_eq hc2 (by decide) ?_
        simp only [List.getElem?_map, hx, q2, go_sem, Int.reduceNegSucc, Nat.reduceAdd, Nat.reduceSub, Nat.reduceMul, Nat.reduceEqDiff, Nat.reduceLeDiff, Nat.reduceLT, Nat.reduceBEq, Nat.reduceBNe, reduceIte, reduceCtorEq, Int.reduceToNat, Int.reduceAdd, Int.reduceSub, Int.reduceMul, Int.reduceNeg, Int.reduceLT, Int.reduceLE, Int.reduceEq, Int.reduceNe, Evid.iv, Evid.c, Place.c, Move.c, Cert.c, Recall.c, Purity.c, Sample.c, Recipe.c, ints, ic, frac, Abs.flat1]
        refine RoundP_of (i + 1) ?_ (by omega) (by omega)
        simp only [h1, Int.natCast_add, go_sem, Int.reduceNegSucc, Nat.reduceAdd, Nat.reduceSub, Nat.reduceMul, Nat.reduceEqDiff, Nat.reduceLeDiff, Nat.reduceLT, Nat.reduceBEq, Nat.reduceBNe, reduceIte, reduceCtorEq, Int.reduceToNat, Int.reduceAdd, Int.reduceSub, Int.reduceMul, Int.reduceNeg, Int.reduceLT, Int.reduceLE, Int.reduceEq, Int.reduceNe, Evid.iv, Evid.c, Place.c, Move.c, Cert.c, Recall.c, Purity.c, Sample.c, Recipe.c, ints, ic, frac, Abs.flat1]
  · obtain ⟨a, b, k, _, ha, hb, hk0⟩ := main s.slack (Int.le_refl _) rfl
    clear main
    simp only [resP, purs, Sample.c, ints] at ha hb ht
    by_cases hr1 : 0 ≤ s.slack
    · have r1 : decide (0 ≤ s.slack) = true := decide_eq_true hr1
      have r2 : decide (s.slack ≤ 1000) = false := decide_eq_false (by omega)
      refine ctr_go good _ _ [.tmp 4] Try.func5 rfl rfl (by decide +kernel) rfl ?_
      simp only [go_sem, Int.reduceNegSucc, Nat.reduceAdd, Nat.reduceSub, Nat.reduceMul, Nat.reduceEqDiff, Nat.reduceLeDiff, Nat.reduceLT, Nat.reduceBEq, Nat.reduceBNe, reduceIte, reduceCtorEq, Int.reduceToNat, Int.reduceAdd, Int.reduceSub, Int.reduceMul, Int.reduceNeg, Int.reduceLT, Int.reduceLE, Int.reduceEq, Int.reduceNe, Evid.iv, Evid.c, Place.c, Move.c, Cert.c, Recall.c, Purity.c, Sample.c, Recipe.c, ints, ic, frac, Abs.flat1]
      refine CallP_eq c7 (by decide) ?_
      simp only [hd, r1, r2, go_sem, Int.reduceNegSucc, Nat.reduceAdd, Nat.reduceSub, Nat.reduceMul, Nat.reduceEqDiff, Nat.reduceLeDiff, Nat.reduceLT, Nat.reduceBEq, Nat.reduceBNe, reduceIte, reduceCtorEq, Int.reduceToNat, Int.reduceAdd, Int.reduceSub, Int.reduceMul, Int.reduceNeg, Int.reduceLT, Int.reduceLE, Int.reduceEq, Int.reduceNe, Evid.iv, Evid.c, Place.c, Move.c, Cert.c, Recall.c, Purity.c, Sample.c, Recipe.c, ints, ic, frac, Abs.flat1]
      refine CallP_eq ha (by decide) ?_
      simp only [go_sem, Int.reduceNegSucc, Nat.reduceAdd, Nat.reduceSub, Nat.reduceMul, Nat.reduceEqDiff, Nat.reduceLeDiff, Nat.reduceLT, Nat.reduceBEq, Nat.reduceBNe, reduceIte, reduceCtorEq, Int.reduceToNat, Int.reduceAdd, Int.reduceSub, Int.reduceMul, Int.reduceNeg, Int.reduceLT, Int.reduceLE, Int.reduceEq, Int.reduceNe, Evid.iv, Evid.c, Place.c, Move.c, Cert.c, Recall.c, Purity.c, Sample.c, Recipe.c, ints, ic, frac, Abs.flat1]
      refine CallP_eq hb (by decide) ?_
      simp only [go_sem, Int.reduceNegSucc, Nat.reduceAdd, Nat.reduceSub, Nat.reduceMul, Nat.reduceEqDiff, Nat.reduceLeDiff, Nat.reduceLT, Nat.reduceBEq, Nat.reduceBNe, reduceIte, reduceCtorEq, Int.reduceToNat, Int.reduceAdd, Int.reduceSub, Int.reduceMul, Int.reduceNeg, Int.reduceLT, Int.reduceLE, Int.reduceEq, Int.reduceNe, Evid.iv, Evid.c, Place.c, Move.c, Cert.c, Recall.c, Purity.c, Sample.c, Recipe.c, ints, ic, frac, Abs.flat1]
      by_cases hk : k = 0
      case neg =>
        have hkd : decide (k = 0) = false := decide_eq_false hk
        simp only [hkd, eq_self, go_sem, Int.reduceNegSucc, Nat.reduceAdd, Nat.reduceSub, Nat.reduceMul, Nat.reduceEqDiff, Nat.reduceLeDiff, Nat.reduceLT, Nat.reduceBEq, Nat.reduceBNe, reduceIte, reduceCtorEq, Int.reduceToNat, Int.reduceAdd, Int.reduceSub, Int.reduceMul, Int.reduceNeg, Int.reduceLT, Int.reduceLE, Int.reduceEq, Int.reduceNe, Evid.iv, Evid.c, Place.c, Move.c, Cert.c, Recall.c, Purity.c, Sample.c, Recipe.c, ints, ic, frac, Abs.flat1]
      case pos =>
        subst hk
        obtain ⟨⟨hS0, hS1, hSt, la⟩, lb, hlaw⟩ := hk0 rfl
        clear hk0 ha hb
        rw [hSt] at ht
        have e0 : decide (isum s.grams = 0) = false := decide_eq_false (by omega)
        have lbI : (b.length : Int) = s.grams.length := by rw [lb]
        have laI : (a.length : Int) = s.grams.length := by rw [la]
        simp only [lbI, laI, eq_self, go_sem, Int.reduceNegSucc, Nat.reduceAdd, Nat.reduceSub, Nat.reduceMul, Nat.reduceEqDiff, Nat.reduceLeDiff, Nat.reduceLT, Nat.reduceBEq, Nat.reduceBNe, reduceIte, reduceCtorEq, Int.reduceToNat, Int.reduceAdd, Int.reduceSub, Int.reduceMul, Int.reduceNeg, Int.reduceLT, Int.reduceLE, Int.reduceEq, Int.reduceNe, Evid.iv, Evid.c, Place.c, Move.c, Cert.c, Recall.c, Purity.c, Sample.c, Recipe.c, ints, ic, frac, Abs.flat1]
        refine CallP_eq ht (by decide) ?_
        simp only [e0, go_sem, Int.reduceNegSucc, Nat.reduceAdd, Nat.reduceSub, Nat.reduceMul, Nat.reduceEqDiff, Nat.reduceLeDiff, Nat.reduceLT, Nat.reduceBEq, Nat.reduceBNe, reduceIte, reduceCtorEq, Int.reduceToNat, Int.reduceAdd, Int.reduceSub, Int.reduceMul, Int.reduceNeg, Int.reduceLT, Int.reduceLE, Int.reduceEq, Int.reduceNe, Evid.iv, Evid.c, Place.c, Move.c, Cert.c, Recall.c, Purity.c, Sample.c, Recipe.c, ints, ic, frac, Abs.flat1]
        generalize hS : isum s.grams = S at *
        refine LoopP_of [2, 5, 7, 9, 11] [2] (fun i : Nat => ⟨[(2, .loc 2 3 0 0), (5, .im (.bool true)), (7, .im (.sl (a.map Purity.c))), (9, .im (.sl (b.map Purity.c))), (11, .im (.int i))], [(2, 3, [s.c])], []⟩)
          (fun i => i ≤ a.length) (fun i => a.length - i) 0 ?_ (Nat.zero_le _) ?_
        · simp only [Int.natCast_zero, go_sem, Int.reduceNegSucc, Nat.reduceAdd, Nat.reduceSub, Nat.reduceMul, Nat.reduceEqDiff, Nat.reduceLeDiff, Nat.reduceLT, Nat.reduceBEq, Nat.reduceBNe, reduceIte, reduceCtorEq, Int.reduceToNat, Int.reduceAdd, Int.reduceSub, Int.reduceMul, Int.reduceNeg, Int.reduceLT, Int.reduceLE, Int.reduceEq, Int.reduceNe, Evid.iv, Evid.c, Place.c, Move.c, Cert.c, Recall.c, Purity.c, Sample.c, Recipe.c, ints, ic, frac, Abs.flat1]
        intro i hi
        by_cases hlt : (i : Int) < a.length
        case neg =>
          have hdl : decide ((i : Int) < a.length) = false := decide_eq_false hlt
          simp only [hdl, go_sem, Int.reduceNegSucc, Nat.reduceAdd, Nat.reduceSub, Nat.reduceMul, Nat.reduceEqDiff, Nat.reduceLeDiff, Nat.reduceLT, Nat.reduceBEq, Nat.reduceBNe, reduceIte, reduceCtorEq, Int.reduceToNat, Int.reduceAdd, Int.reduceSub, Int.reduceMul, Int.reduceNeg, Int.reduceLT, Int.reduceLE, Int.reduceEq, Int.reduceNe, Evid.iv, Evid.c, Place.c, Move.c, Cert.c, Recall.c, Purity.c, Sample.c, Recipe.c, ints, ic, frac, Abs.flat1]
        case pos =>
          have hdl : decide ((i : Int) < a.length) = true := decide_eq_true hlt
          obtain ⟨n, hn⟩ : ∃ n, s.grams[i]? = some n := ⟨_, List.getElem?_eq_getElem (by omega)⟩
          obtain ⟨x, y, hx, hy, hn0, x1, x2, x3, x4, x5, x6⟩ := hlaw i n hn
          have h1 := i64_ok (n := (i : Int) + 1) (by omega)
          have hsh := t_share n S (by omega) (by omega) (by omega)
          have hi1 := t_intf x.least (by omega)
          have hi2 := t_intf x.most (by omega)
          obtain ⟨sl1, sl2⟩ := share_len hn0 (S := S) ⟨hS0, by omega⟩
          obtain ⟨il1, il2⟩ := int_len (k := x.least) (by omega)
          obtain ⟨im1, im2⟩ := int_len (k := x.most) (by omega)
          have hc1 := t_cmpf (shareR n S) (Rat.divInt x.least 1) (by omega) (by omega) (by omega) (by omega)
          have hc2 := t_cmpf (shareR n S) (Rat.divInt x.most 1) (by omega) (by omega) (by omega) (by omega)
          have q1 : decide (cmpR (shareR n S) (Rat.divInt x.least 1) < 0) = false := decide_eq_false (by rw [le_share hS0]; omega)
          have q2 : decide (0 < cmpR (shareR n S) (Rat.divInt x.most 1)) = false := decide_eq_false (by rw [share_le hS0]; omega)
          have q3 : decide (x.least < y.least) = false := decide_eq_false (by omega)
          have q4 : decide (y.most < x.most) = false := decide_eq_false (by omega)
          have q5 : decide (x.least < 0) = false := decide_eq_false (by omega)
          have q6 : decide (1000 < x.most) = false := decide_eq_false (by omega)
          change Ctr _ _ _ (· = frac (shareR n S)) at hsh
          generalize shareR n S = sh at *
          generalize Rat.divInt x.least 1 = r1 at *
          generalize Rat.divInt x.most 1 = r2 at *
          simp only [frac, ints] at hsh hi1 hi2 hc1 hc2 ht
          simp only [hdl, go_sem, Int.reduceNegSucc, Nat.reduceAdd, Nat.reduceSub, Nat.reduceMul, Nat.reduceEqDiff, Nat.reduceLeDiff, Nat.reduceLT, Nat.reduceBEq, Nat.reduceBNe, reduceIte, reduceCtorEq, Int.reduceToNat, Int.reduceAdd, Int.reduceSub, Int.reduceMul, Int.reduceNeg, Int.reduceLT, Int.reduceLE, Int.reduceEq, Int.reduceNe, Evid.iv, Evid.c, Place.c, Move.c, Cert.c, Recall.c, Purity.c, Sample.c, Recipe.c, ints, ic, frac, Abs.flat1]
          refine DrawS_of (by decide +kernel) ?_
          simp only [List.getElem?_map, hn, go_sem, Int.reduceNegSucc, Nat.reduceAdd, Nat.reduceSub, Nat.reduceMul, Nat.reduceEqDiff, Nat.reduceLeDiff, Nat.reduceLT, Nat.reduceBEq, Nat.reduceBNe, reduceIte, reduceCtorEq, Int.reduceToNat, Int.reduceAdd, Int.reduceSub, Int.reduceMul, Int.reduceNeg, Int.reduceLT, Int.reduceLE, Int.reduceEq, Int.reduceNe, Evid.iv, Evid.c, Place.c, Move.c, Cert.c, Recall.c, Purity.c, Sample.c, Recipe.c, ints, ic, frac, Abs.flat1]
          refine CallD_eq ht (by decide) ?_
          simp only [List.getElem?_map, hn, go_sem, Int.reduceNegSucc, Nat.reduceAdd, Nat.reduceSub, Nat.reduceMul, Nat.reduceEqDiff, Nat.reduceLeDiff, Nat.reduceLT, Nat.reduceBEq, Nat.reduceBNe, reduceIte, reduceCtorEq, Int.reduceToNat, Int.reduceAdd, Int.reduceSub, Int.reduceMul, Int.reduceNeg, Int.reduceLT, Int.reduceLE, Int.reduceEq, Int.reduceNe, Evid.iv, Evid.c, Place.c, Move.c, Cert.c, Recall.c, Purity.c, Sample.c, Recipe.c, ints, ic, frac, Abs.flat1]
          refine CallD_eq hsh (by decide) ?_
          simp only [go_sem, Int.reduceNegSucc, Nat.reduceAdd, Nat.reduceSub, Nat.reduceMul, Nat.reduceEqDiff, Nat.reduceLeDiff, Nat.reduceLT, Nat.reduceBEq, Nat.reduceBNe, reduceIte, reduceCtorEq, Int.reduceToNat, Int.reduceAdd, Int.reduceSub, Int.reduceMul, Int.reduceNeg, Int.reduceLT, Int.reduceLE, Int.reduceEq, Int.reduceNe, Evid.iv, Evid.c, Place.c, Move.c, Cert.c, Recall.c, Purity.c, Sample.c, Recipe.c, ints, ic, frac, Abs.flat1]
          refine DrawP_of 40 (by decide +kernel) ?_
          simp only [List.getElem?_map, hx, hy, q3, q4, q5, q6, go_sem, Int.reduceNegSucc, Nat.reduceAdd, Nat.reduceSub, Nat.reduceMul, Nat.reduceEqDiff, Nat.reduceLeDiff, Nat.reduceLT, Nat.reduceBEq, Nat.reduceBNe, reduceIte, reduceCtorEq, Int.reduceToNat, Int.reduceAdd, Int.reduceSub, Int.reduceMul, Int.reduceNeg, Int.reduceLT, Int.reduceLE, Int.reduceEq, Int.reduceNe, Evid.iv, Evid.c, Place.c, Move.c, Cert.c, Recall.c, Purity.c, Sample.c, Recipe.c, ints, ic, frac, Abs.flat1]
          refine DrawP_of 20 (by decide +kernel) ?_
          simp only [List.getElem?_map, hx, go_sem, Int.reduceNegSucc, Nat.reduceAdd, Nat.reduceSub, Nat.reduceMul, Nat.reduceEqDiff, Nat.reduceLeDiff, Nat.reduceLT, Nat.reduceBEq, Nat.reduceBNe, reduceIte, reduceCtorEq, Int.reduceToNat, Int.reduceAdd, Int.reduceSub, Int.reduceMul, Int.reduceNeg, Int.reduceLT, Int.reduceLE, Int.reduceEq, Int.reduceNe, Evid.iv, Evid.c, Place.c, Move.c, Cert.c, Recall.c, Purity.c, Sample.c, Recipe.c, ints, ic, frac, Abs.flat1]
          refine CallD_eq hi1 (by decide) ?_
          simp only [List.getElem?_map, hx, go_sem, Int.reduceNegSucc, Nat.reduceAdd, Nat.reduceSub, Nat.reduceMul, Nat.reduceEqDiff, Nat.reduceLeDiff, Nat.reduceLT, Nat.reduceBEq, Nat.reduceBNe, reduceIte, reduceCtorEq, Int.reduceToNat, Int.reduceAdd, Int.reduceSub, Int.reduceMul, Int.reduceNeg, Int.reduceLT, Int.reduceLE, Int.reduceEq, Int.reduceNe, Evid.iv, Evid.c, Place.c, Move.c, Cert.c, Recall.c, Purity.c, Sample.c, Recipe.c, ints, ic, frac, Abs.flat1]
          refine CallD_eq hc1 (by decide) ?_
          simp only [List.getElem?_map, hx, q1, go_sem, Int.reduceNegSucc, Nat.reduceAdd, Nat.reduceSub, Nat.reduceMul, Nat.reduceEqDiff, Nat.reduceLeDiff, Nat.reduceLT, Nat.reduceBEq, Nat.reduceBNe, reduceIte, reduceCtorEq, Int.reduceToNat, Int.reduceAdd, Int.reduceSub, Int.reduceMul, Int.reduceNeg, Int.reduceLT, Int.reduceLE, Int.reduceEq, Int.reduceNe, Evid.iv, Evid.c, Place.c, Move.c, Cert.c, Recall.c, Purity.c, Sample.c, Recipe.c, ints, ic, frac, Abs.flat1]
          refine CallD_eq hi2 (by decide) ?_
          simp only [List.getElem?_map, hx, go_sem, Int.reduceNegSucc, Nat.reduceAdd, Nat.reduceSub, Nat.reduceMul, Nat.reduceEqDiff, Nat.reduceLeDiff, Nat.reduceLT, Nat.reduceBEq, Nat.reduceBNe, reduceIte, reduceCtorEq, Int.reduceToNat, Int.reduceAdd, Int.reduceSub, Int.reduceMul, Int.reduceNeg, Int.reduceLT, Int.reduceLE, Int.reduceEq, Int.reduceNe, Evid.iv, Evid.c, Place.c, Move.c, Cert.c, Recall.c, Purity.c, Sample.c, Recipe.c, ints, ic, frac, Abs.flat1]
          refine CallD_eq hc2 (by decide) ?_
          simp only [List.getElem?_map, hx, q2, go_sem, Int.reduceNegSucc, Nat.reduceAdd, Nat.reduceSub, Nat.reduceMul, Nat.reduceEqDiff, Nat.reduceLeDiff, Nat.reduceLT, Nat.reduceBEq, Nat.reduceBNe, reduceIte, reduceCtorEq, Int.reduceToNat, Int.reduceAdd, Int.reduceSub, Int.reduceMul, Int.reduceNeg, Int.reduceLT, Int.reduceLE, Int.reduceEq, Int.reduceNe, Evid.iv, Evid.c, Place.c, Move.c, Cert.c, Recall.c, Purity.c, Sample.c, Recipe.c, ints, ic, frac, Abs.flat1]
          refine RoundP_of (i + 1) ?_ (by omega) (by omega)
          simp only [h1, Int.natCast_add, go_sem, Int.reduceNegSucc, Nat.reduceAdd, Nat.reduceSub, Nat.reduceMul, Nat.reduceEqDiff, Nat.reduceLeDiff, Nat.reduceLT, Nat.reduceBEq, Nat.reduceBNe, reduceIte, reduceCtorEq, Int.reduceToNat, Int.reduceAdd, Int.reduceSub, Int.reduceMul, Int.reduceNeg, Int.reduceLT, Int.reduceLE, Int.reduceEq, Int.reduceNe, Evid.iv, Evid.c, Place.c, Move.c, Cert.c, Recall.c, Purity.c, Sample.c, Recipe.c, ints, ic, frac, Abs.flat1]
    · have r1 : decide (0 ≤ s.slack) = false := decide_eq_false hr1
      refine ctr_go good _ _ [.tmp 4] Try.func5 rfl rfl (by decide +kernel) rfl ?_
      simp only [go_sem, Int.reduceNegSucc, Nat.reduceAdd, Nat.reduceSub, Nat.reduceMul, Nat.reduceEqDiff, Nat.reduceLeDiff, Nat.reduceLT, Nat.reduceBEq, Nat.reduceBNe, reduceIte, reduceCtorEq, Int.reduceToNat, Int.reduceAdd, Int.reduceSub, Int.reduceMul, Int.reduceNeg, Int.reduceLT, Int.reduceLE, Int.reduceEq, Int.reduceNe, Evid.iv, Evid.c, Place.c, Move.c, Cert.c, Recall.c, Purity.c, Sample.c, Recipe.c, ints, ic, frac, Abs.flat1]
      refine CallP_eq c7 (by decide) ?_
      simp only [hd, r1, go_sem, Int.reduceNegSucc, Nat.reduceAdd, Nat.reduceSub, Nat.reduceMul, Nat.reduceEqDiff, Nat.reduceLeDiff, Nat.reduceLT, Nat.reduceBEq, Nat.reduceBNe, reduceIte, reduceCtorEq, Int.reduceToNat, Int.reduceAdd, Int.reduceSub, Int.reduceMul, Int.reduceNeg, Int.reduceLT, Int.reduceLE, Int.reduceEq, Int.reduceNe, Evid.iv, Evid.c, Place.c, Move.c, Cert.c, Recall.c, Purity.c, Sample.c, Recipe.c, ints, ic, frac, Abs.flat1]
      refine CallP_eq ha (by decide) ?_
      simp only [go_sem, Int.reduceNegSucc, Nat.reduceAdd, Nat.reduceSub, Nat.reduceMul, Nat.reduceEqDiff, Nat.reduceLeDiff, Nat.reduceLT, Nat.reduceBEq, Nat.reduceBNe, reduceIte, reduceCtorEq, Int.reduceToNat, Int.reduceAdd, Int.reduceSub, Int.reduceMul, Int.reduceNeg, Int.reduceLT, Int.reduceLE, Int.reduceEq, Int.reduceNe, Evid.iv, Evid.c, Place.c, Move.c, Cert.c, Recall.c, Purity.c, Sample.c, Recipe.c, ints, ic, frac, Abs.flat1]
      refine CallP_eq hb (by decide) ?_
      simp only [go_sem, Int.reduceNegSucc, Nat.reduceAdd, Nat.reduceSub, Nat.reduceMul, Nat.reduceEqDiff, Nat.reduceLeDiff, Nat.reduceLT, Nat.reduceBEq, Nat.reduceBNe, reduceIte, reduceCtorEq, Int.reduceToNat, Int.reduceAdd, Int.reduceSub, Int.reduceMul, Int.reduceNeg, Int.reduceLT, Int.reduceLE, Int.reduceEq, Int.reduceNe, Evid.iv, Evid.c, Place.c, Move.c, Cert.c, Recall.c, Purity.c, Sample.c, Recipe.c, ints, ic, frac, Abs.flat1]
      by_cases hk : k = 0
      case neg =>
        have hkd : decide (k = 0) = false := decide_eq_false hk
        simp only [hkd, eq_self, go_sem, Int.reduceNegSucc, Nat.reduceAdd, Nat.reduceSub, Nat.reduceMul, Nat.reduceEqDiff, Nat.reduceLeDiff, Nat.reduceLT, Nat.reduceBEq, Nat.reduceBNe, reduceIte, reduceCtorEq, Int.reduceToNat, Int.reduceAdd, Int.reduceSub, Int.reduceMul, Int.reduceNeg, Int.reduceLT, Int.reduceLE, Int.reduceEq, Int.reduceNe, Evid.iv, Evid.c, Place.c, Move.c, Cert.c, Recall.c, Purity.c, Sample.c, Recipe.c, ints, ic, frac, Abs.flat1]
      case pos =>
        subst hk
        obtain ⟨⟨hS0, hS1, hSt, la⟩, lb, hlaw⟩ := hk0 rfl
        clear hk0 ha hb
        rw [hSt] at ht
        have e0 : decide (isum s.grams = 0) = false := decide_eq_false (by omega)
        have lbI : (b.length : Int) = s.grams.length := by rw [lb]
        have laI : (a.length : Int) = s.grams.length := by rw [la]
        simp only [lbI, laI, eq_self, go_sem, Int.reduceNegSucc, Nat.reduceAdd, Nat.reduceSub, Nat.reduceMul, Nat.reduceEqDiff, Nat.reduceLeDiff, Nat.reduceLT, Nat.reduceBEq, Nat.reduceBNe, reduceIte, reduceCtorEq, Int.reduceToNat, Int.reduceAdd, Int.reduceSub, Int.reduceMul, Int.reduceNeg, Int.reduceLT, Int.reduceLE, Int.reduceEq, Int.reduceNe, Evid.iv, Evid.c, Place.c, Move.c, Cert.c, Recall.c, Purity.c, Sample.c, Recipe.c, ints, ic, frac, Abs.flat1]
        refine CallP_eq ht (by decide) ?_
        simp only [e0, go_sem, Int.reduceNegSucc, Nat.reduceAdd, Nat.reduceSub, Nat.reduceMul, Nat.reduceEqDiff, Nat.reduceLeDiff, Nat.reduceLT, Nat.reduceBEq, Nat.reduceBNe, reduceIte, reduceCtorEq, Int.reduceToNat, Int.reduceAdd, Int.reduceSub, Int.reduceMul, Int.reduceNeg, Int.reduceLT, Int.reduceLE, Int.reduceEq, Int.reduceNe, Evid.iv, Evid.c, Place.c, Move.c, Cert.c, Recall.c, Purity.c, Sample.c, Recipe.c, ints, ic, frac, Abs.flat1]
        generalize hS : isum s.grams = S at *
        refine LoopP_of [2, 5, 7, 9, 11] [2] (fun i : Nat => ⟨[(2, .loc 2 3 0 0), (5, .im (.bool true)), (7, .im (.sl (a.map Purity.c))), (9, .im (.sl (b.map Purity.c))), (11, .im (.int i))], [(2, 3, [s.c])], []⟩)
          (fun i => i ≤ a.length) (fun i => a.length - i) 0 ?_ (Nat.zero_le _) ?_
        · simp only [Int.natCast_zero, go_sem, Int.reduceNegSucc, Nat.reduceAdd, Nat.reduceSub, Nat.reduceMul, Nat.reduceEqDiff, Nat.reduceLeDiff, Nat.reduceLT, Nat.reduceBEq, Nat.reduceBNe, reduceIte, reduceCtorEq, Int.reduceToNat, Int.reduceAdd, Int.reduceSub, Int.reduceMul, Int.reduceNeg, Int.reduceLT, Int.reduceLE, Int.reduceEq, Int.reduceNe, Evid.iv, Evid.c, Place.c, Move.c, Cert.c, Recall.c, Purity.c, Sample.c, Recipe.c, ints, ic, frac, Abs.flat1]
        intro i hi
        by_cases hlt : (i : Int) < a.length
        case neg =>
          have hdl : decide ((i : Int) < a.length) = false := decide_eq_false hlt
          simp only [hdl, go_sem, Int.reduceNegSucc, Nat.reduceAdd, Nat.reduceSub, Nat.reduceMul, Nat.reduceEqDiff, Nat.reduceLeDiff, Nat.reduceLT, Nat.reduceBEq, Nat.reduceBNe, reduceIte, reduceCtorEq, Int.reduceToNat, Int.reduceAdd, Int.reduceSub, Int.reduceMul, Int.reduceNeg, Int.reduceLT, Int.reduceLE, Int.reduceEq, Int.reduceNe, Evid.iv, Evid.c, Place.c, Move.c, Cert.c, Recall.c, Purity.c, Sample.c, Recipe.c, ints, ic, frac, Abs.flat1]
        case pos =>
          have hdl : decide ((i : Int) < a.length) = true := decide_eq_true hlt
          obtain ⟨n, hn⟩ : ∃ n, s.grams[i]? = some n := ⟨_, List.getElem?_eq_getElem (by omega)⟩
          obtain ⟨x, y, hx, hy, hn0, x1, x2, x3, x4, x5, x6⟩ := hlaw i n hn
          have h1 := i64_ok (n := (i : Int) + 1) (by omega)
          have hsh := t_share n S (by omega) (by omega) (by omega)
          have hi1 := t_intf x.least (by omega)
          have hi2 := t_intf x.most (by omega)
          obtain ⟨sl1, sl2⟩ := share_len hn0 (S := S) ⟨hS0, by omega⟩
          obtain ⟨il1, il2⟩ := int_len (k := x.least) (by omega)
          obtain ⟨im1, im2⟩ := int_len (k := x.most) (by omega)
          have hc1 := t_cmpf (shareR n S) (Rat.divInt x.least 1) (by omega) (by omega) (by omega) (by omega)
          have hc2 := t_cmpf (shareR n S) (Rat.divInt x.most 1) (by omega) (by omega) (by omega) (by omega)
          have q1 : decide (cmpR (shareR n S) (Rat.divInt x.least 1) < 0) = false := decide_eq_false (by rw [le_share hS0]; omega)
          have q2 : decide (0 < cmpR (shareR n S) (Rat.divInt x.most 1)) = false := decide_eq_false (by rw [share_le hS0]; omega)
          have q3 : decide (x.least < y.least) = false := decide_eq_false (by omega)
          have q4 : decide (y.most < x.most) = false := decide_eq_false (by omega)
          have q5 : decide (x.least < 0) = false := decide_eq_false (by omega)
          have q6 : decide (1000 < x.most) = false := decide_eq_false (by omega)
          change Ctr _ _ _ (· = frac (shareR n S)) at hsh
          generalize shareR n S = sh at *
          generalize Rat.divInt x.least 1 = r1 at *
          generalize Rat.divInt x.most 1 = r2 at *
          simp only [frac, ints] at hsh hi1 hi2 hc1 hc2 ht
          simp only [hdl, go_sem, Int.reduceNegSucc, Nat.reduceAdd, Nat.reduceSub, Nat.reduceMul, Nat.reduceEqDiff, Nat.reduceLeDiff, Nat.reduceLT, Nat.reduceBEq, Nat.reduceBNe, reduceIte, reduceCtorEq, Int.reduceToNat, Int.reduceAdd, Int.reduceSub, Int.reduceMul, Int.reduceNeg, Int.reduceLT, Int.reduceLE, Int.reduceEq, Int.reduceNe, Evid.iv, Evid.c, Place.c, Move.c, Cert.c, Recall.c, Purity.c, Sample.c, Recipe.c, ints, ic, frac, Abs.flat1]
          refine DrawS_of (by decide +kernel) ?_
          simp only [List.getElem?_map, hn, go_sem, Int.reduceNegSucc, Nat.reduceAdd, Nat.reduceSub, Nat.reduceMul, Nat.reduceEqDiff, Nat.reduceLeDiff, Nat.reduceLT, Nat.reduceBEq, Nat.reduceBNe, reduceIte, reduceCtorEq, Int.reduceToNat, Int.reduceAdd, Int.reduceSub, Int.reduceMul, Int.reduceNeg, Int.reduceLT, Int.reduceLE, Int.reduceEq, Int.reduceNe, Evid.iv, Evid.c, Place.c, Move.c, Cert.c, Recall.c, Purity.c, Sample.c, Recipe.c, ints, ic, frac, Abs.flat1]
          refine CallD_eq ht (by decide) ?_
          simp only [List.getElem?_map, hn, go_sem, Int.reduceNegSucc, Nat.reduceAdd, Nat.reduceSub, Nat.reduceMul, Nat.reduceEqDiff, Nat.reduceLeDiff, Nat.reduceLT, Nat.reduceBEq, Nat.reduceBNe, reduceIte, reduceCtorEq, Int.reduceToNat, Int.reduceAdd, Int.reduceSub, Int.reduceMul, Int.reduceNeg, Int.reduceLT, Int.reduceLE, Int.reduceEq, Int.reduceNe, Evid.iv, Evid.c, Place.c, Move.c, Cert.c, Recall.c, Purity.c, Sample.c, Recipe.c, ints, ic, frac, Abs.flat1]
          refine CallD_eq hsh (by decide) ?_
          simp only [go_sem, Int.reduceNegSucc, Nat.reduceAdd, Nat.reduceSub, Nat.reduceMul, Nat.reduceEqDiff, Nat.reduceLeDiff, Nat.reduceLT, Nat.reduceBEq, Nat.reduceBNe, reduceIte, reduceCtorEq, Int.reduceToNat, Int.reduceAdd, Int.reduceSub, Int.reduceMul, Int.reduceNeg, Int.reduceLT, Int.reduceLE, Int.reduceEq, Int.reduceNe, Evid.iv, Evid.c, Place.c, Move.c, Cert.c, Recall.c, Purity.c, Sample.c, Recipe.c, ints, ic, frac, Abs.flat1]
          refine DrawP_of 40 (by decide +kernel) ?_
          simp only [List.getElem?_map, hx, hy, q3, q4, q5, q6, go_sem, Int.reduceNegSucc, Nat.reduceAdd, Nat.reduceSub, Nat.reduceMul, Nat.reduceEqDiff, Nat.reduceLeDiff, Nat.reduceLT, Nat.reduceBEq, Nat.reduceBNe, reduceIte, reduceCtorEq, Int.reduceToNat, Int.reduceAdd, Int.reduceSub, Int.reduceMul, Int.reduceNeg, Int.reduceLT, Int.reduceLE, Int.reduceEq, Int.reduceNe, Evid.iv, Evid.c, Place.c, Move.c, Cert.c, Recall.c, Purity.c, Sample.c, Recipe.c, ints, ic, frac, Abs.flat1]
          refine DrawP_of 20 (by decide +kernel) ?_
          simp only [List.getElem?_map, hx, go_sem, Int.reduceNegSucc, Nat.reduceAdd, Nat.reduceSub, Nat.reduceMul, Nat.reduceEqDiff, Nat.reduceLeDiff, Nat.reduceLT, Nat.reduceBEq, Nat.reduceBNe, reduceIte, reduceCtorEq, Int.reduceToNat, Int.reduceAdd, Int.reduceSub, Int.reduceMul, Int.reduceNeg, Int.reduceLT, Int.reduceLE, Int.reduceEq, Int.reduceNe, Evid.iv, Evid.c, Place.c, Move.c, Cert.c, Recall.c, Purity.c, Sample.c, Recipe.c, ints, ic, frac, Abs.flat1]
          refine CallD_eq hi1 (by decide) ?_
          simp only [List.getElem?_map, hx, go_sem, Int.reduceNegSucc, Nat.reduceAdd, Nat.reduceSub, Nat.reduceMul, Nat.reduceEqDiff, Nat.reduceLeDiff, Nat.reduceLT, Nat.reduceBEq, Nat.reduceBNe, reduceIte, reduceCtorEq, Int.reduceToNat, Int.reduceAdd, Int.reduceSub, Int.reduceMul, Int.reduceNeg, Int.reduceLT, Int.reduceLE, Int.reduceEq, Int.reduceNe, Evid.iv, Evid.c, Place.c, Move.c, Cert.c, Recall.c, Purity.c, Sample.c, Recipe.c, ints, ic, frac, Abs.flat1]
          refine CallD_eq hc1 (by decide) ?_
          simp only [List.getElem?_map, hx, q1, go_sem, Int.reduceNegSucc, Nat.reduceAdd, Nat.reduceSub, Nat.reduceMul, Nat.reduceEqDiff, Nat.reduceLeDiff, Nat.reduceLT, Nat.reduceBEq, Nat.reduceBNe, reduceIte, reduceCtorEq, Int.reduceToNat, Int.reduceAdd, Int.reduceSub, Int.reduceMul, Int.reduceNeg, Int.reduceLT, Int.reduceLE, Int.reduceEq, Int.reduceNe, Evid.iv, Evid.c, Place.c, Move.c, Cert.c, Recall.c, Purity.c, Sample.c, Recipe.c, ints, ic, frac, Abs.flat1]
          refine CallD_eq hi2 (by decide) ?_
          simp only [List.getElem?_map, hx, go_sem, Int.reduceNegSucc, Nat.reduceAdd, Nat.reduceSub, Nat.reduceMul, Nat.reduceEqDiff, Nat.reduceLeDiff, Nat.reduceLT, Nat.reduceBEq, Nat.reduceBNe, reduceIte, reduceCtorEq, Int.reduceToNat, Int.reduceAdd, Int.reduceSub, Int.reduceMul, Int.reduceNeg, Int.reduceLT, Int.reduceLE, Int.reduceEq, Int.reduceNe, Evid.iv, Evid.c, Place.c, Move.c, Cert.c, Recall.c, Purity.c, Sample.c, Recipe.c, ints, ic, frac, Abs.flat1]
          refine CallD_eq hc2 (by decide) ?_
          simp only [List.getElem?_map, hx, q2, go_sem, Int.reduceNegSucc, Nat.reduceAdd, Nat.reduceSub, Nat.reduceMul, Nat.reduceEqDiff, Nat.reduceLeDiff, Nat.reduceLT, Nat.reduceBEq, Nat.reduceBNe, reduceIte, reduceCtorEq, Int.reduceToNat, Int.reduceAdd, Int.reduceSub, Int.reduceMul, Int.reduceNeg, Int.reduceLT, Int.reduceLE, Int.reduceEq, Int.reduceNe, Evid.iv, Evid.c, Place.c, Move.c, Cert.c, Recall.c, Purity.c, Sample.c, Recipe.c, ints, ic, frac, Abs.flat1]
          refine RoundP_of (i + 1) ?_ (by omega) (by omega)
          simp only [h1, Int.natCast_add, go_sem, Int.reduceNegSucc, Nat.reduceAdd, Nat.reduceSub, Nat.reduceMul, Nat.reduceEqDiff, Nat.reduceLeDiff, Nat.reduceLT, Nat.reduceBEq, Nat.reduceBNe, reduceIte, reduceCtorEq, Int.reduceToNat, Int.reduceAdd, Int.reduceSub, Int.reduceMul, Int.reduceNeg, Int.reduceLT, Int.reduceLE, Int.reduceEq, Int.reduceNe, Evid.iv, Evid.c, Place.c, Move.c, Cert.c, Recall.c, Purity.c, Sample.c, Recipe.c, ints, ic, frac, Abs.flat1]
end Go.Proofs.Ytpnlfkaijdjhlaa
