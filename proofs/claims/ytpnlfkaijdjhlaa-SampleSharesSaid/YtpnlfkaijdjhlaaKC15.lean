/- A part of the proof: what functions of the program do, and the layer under it. No further condition. -/
import Derived.Test.YtpnlfkaijdjhlaaKC13
namespace Go.Proofs.Ytpnlfkaijdjhlaa
set_option linter.all false
open Go.Abs

theorem ceilF {n S : Int} (hn : 0 ≤ n) (hS : 0 < S) : (1000 * n + S - 1).tdiv S = highF n S := by
  unfold highF lowF
  rw [Int.tdiv_eq_ediv_of_nonneg (by omega), Int.tdiv_eq_ediv_of_nonneg (by omega), Int.tmod_eq_emod_of_nonneg (by omega)]
  have h1 := Int.emod_add_mul_ediv (1000 * n) S
  have h2 := Int.emod_nonneg (1000 * n) (by omega : S ≠ 0)
  have h3 := Int.emod_lt_of_pos (1000 * n) hS
  generalize hq : 1000 * n / S = q at *
  generalize hr : 1000 * n % S = r at *
  split
  · rename_i h
    have h := of_decide_eq_true h
    have e : 1000 * n + S - 1 = (r - 1) + S * (q + 1) := by rw [Int.mul_add]; omega
    rw [e, Int.add_mul_ediv_left _ _ (by omega), Int.ediv_eq_zero_of_lt (by omega) (by omega)]
    omega
  · rename_i h
    have h : ¬ 0 < r := by simpa using h
    have e : 1000 * n + S - 1 = (S - 1) + S * q := by omega
    rw [e, Int.add_mul_ediv_left _ _ (by omega), Int.ediv_eq_zero_of_lt (by omega) (by omega)]
    omega
def headOk (s : Sample) : Bool := btw s.move 0 199 && btw s.grams.length 1 6 && btw s.slack 0 1000
theorem ok_of {s : Sample} (h : headOk s = true) (hb : s.grams.all (fun n => btw n 0 1099511627776) = true) : sampleOk s = true := by
  simp only [headOk, Bool.and_eq_true, btw_iff] at h
  have hb' : s.grams.any (fun n => !btw n 0 1099511627776) = false := by
    rw [List.any_eq_false]; intro x hx; have := List.all_eq_true.1 hb x hx; simp [this]
  simp only [sampleOk, hb', Bool.not_false, Bool.and_true, Bool.and_eq_true, Bool.not_eq_true', decide_eq_false_iff_not, btw_iff]
  omega
theorem not_ok_head {s : Sample} (h : headOk s = false) : sampleOk s = false := by
  rcases ho : sampleOk s with _ | _
  · rfl
  · simp only [sampleOk, Bool.and_eq_true, Bool.not_eq_true', decide_eq_false_iff_not, btw_iff] at ho
    have : headOk s = true := by simp only [headOk, Bool.and_eq_true, btw_iff]; omega
    rw [this] at h; cases h
theorem not_ok_gram {s : Sample} {i : Nat} {x : Int} (hx : s.grams[i]? = some x) (h : btw x 0 1099511627776 = false) : sampleOk s = false := by
  have : s.grams.any (fun n => !btw n 0 1099511627776) = true := any_at hx (by simp [h])
  simp [sampleOk, this]
set_option maxRecDepth 100000 in
set_option maxHeartbeats 4000000 in
theorem c11 (s : Sample) : Ctr G.P 11 [.agg s.c] (· = resP (puritiesF s)) := by
  rcases hh : headOk s with _ | _
  · have hr : resP (puritiesF s) = .tup [.sl [], .int 1] := by simp [puritiesF, not_ok_head hh, resP, purs]
    rw [hr]
    simp only [headOk] at hh
    refine ctr_go good _ _ [.tmp 2, .tmp 3] Try.func11 rfl rfl (by decide +kernel) rfl ?_
    unfold Sample.c ints
    simp only [go_sem, Int.reduceNegSucc, Nat.reduceAdd, Nat.reduceSub, Nat.reduceMul, Nat.reduceEqDiff, Nat.reduceLeDiff, Nat.reduceLT, Nat.reduceBEq, Nat.reduceBNe, reduceIte, reduceCtorEq, Int.reduceToNat, Int.reduceAdd, Int.reduceSub, Int.reduceMul, Int.reduceNeg, Int.reduceLT, Int.reduceLE, Int.reduceEq, Int.reduceNe, Evid.iv, Evid.c, Place.c, Move.c, Cert.c, Recall.c, Purity.c, Sample.c, Recipe.c, ints, ic]
    repeat' (first | (refine Two_of (fun hd => ?_) (fun hd => ?_) <;> simp only [*, go_sem, Int.reduceNegSucc, Nat.reduceAdd, Nat.reduceSub, Nat.reduceMul, Nat.reduceEqDiff, Nat.reduceLeDiff, Nat.reduceLT, Nat.reduceBEq, Nat.reduceBNe, reduceIte, reduceCtorEq, Int.reduceToNat, Int.reduceAdd, Int.reduceSub, Int.reduceMul, Int.reduceNeg, Int.reduceLT, Int.reduceLE, Int.reduceEq, Int.reduceNe, Evid.iv, Evid.c, Place.c, Move.c, Cert.c, Recall.c, Purity.c, Sample.c, Recipe.c, ints, ic]) | (refine CallP_eq (c27 _ _ _) (by first | decide | assumption) ?_; simp only [*, go_sem, Int.reduceNegSucc, Nat.reduceAdd, Nat.reduceSub, Nat.reduceMul, Nat.reduceEqDiff, Nat.reduceLeDiff, Nat.reduceLT, Nat.reduceBEq, Nat.reduceBNe, reduceIte, reduceCtorEq, Int.reduceToNat, Int.reduceAdd, Int.reduceSub, Int.reduceMul, Int.reduceNeg, Int.reduceLT, Int.reduceLE, Int.reduceEq, Int.reduceNe, Evid.iv, Evid.c, Place.c, Move.c, Cert.c, Recall.c, Purity.c, Sample.c, Recipe.c, ints, ic]) | (refine CallD_eq (c27 _ _ _) (by decide) ?_; simp only [*, go_sem, Int.reduceNegSucc, Nat.reduceAdd, Nat.reduceSub, Nat.reduceMul, Nat.reduceEqDiff, Nat.reduceLeDiff, Nat.reduceLT, Nat.reduceBEq, Nat.reduceBNe, reduceIte, reduceCtorEq, Int.reduceToNat, Int.reduceAdd, Int.reduceSub, Int.reduceMul, Int.reduceNeg, Int.reduceLT, Int.reduceLE, Int.reduceEq, Int.reduceNe, Evid.iv, Evid.c, Place.c, Move.c, Cert.c, Recall.c, Purity.c, Sample.c, Recipe.c, ints, ic]))
    all_goals simp_all
  · have hh' := hh
    simp only [headOk, Bool.and_eq_true] at hh'
    obtain ⟨⟨b1, b2⟩, b5⟩ := hh'
    have hs : 0 ≤ s.slack ∧ s.slack ≤ 1000 := btw_iff.1 b5
    have b3 := btw_iff.1 b2
    refine ctr_go good _ _ [.tmp 2, .tmp 3] Try.func11 rfl rfl (by decide +kernel) rfl ?_
    unfold Sample.c ints
    simp only [go_sem, Int.reduceNegSucc, Nat.reduceAdd, Nat.reduceSub, Nat.reduceMul, Nat.reduceEqDiff, Nat.reduceLeDiff, Nat.reduceLT, Nat.reduceBEq, Nat.reduceBNe, reduceIte, reduceCtorEq, Int.reduceToNat, Int.reduceAdd, Int.reduceSub, Int.reduceMul, Int.reduceNeg, Int.reduceLT, Int.reduceLE, Int.reduceEq, Int.reduceNe, Evid.iv, Evid.c, Place.c, Move.c, Cert.c, Recall.c, Purity.c, Sample.c, Recipe.c, ints, ic]
    repeat' (first | (refine Two_of (fun hd => ?_) (fun hd => ?_) <;> simp only [*, go_sem, Int.reduceNegSucc, Nat.reduceAdd, Nat.reduceSub, Nat.reduceMul, Nat.reduceEqDiff, Nat.reduceLeDiff, Nat.reduceLT, Nat.reduceBEq, Nat.reduceBNe, reduceIte, reduceCtorEq, Int.reduceToNat, Int.reduceAdd, Int.reduceSub, Int.reduceMul, Int.reduceNeg, Int.reduceLT, Int.reduceLE, Int.reduceEq, Int.reduceNe, Evid.iv, Evid.c, Place.c, Move.c, Cert.c, Recall.c, Purity.c, Sample.c, Recipe.c, ints, ic]) | (refine CallP_eq (c27 _ _ _) (by first | decide | assumption) ?_; simp only [*, go_sem, Int.reduceNegSucc, Nat.reduceAdd, Nat.reduceSub, Nat.reduceMul, Nat.reduceEqDiff, Nat.reduceLeDiff, Nat.reduceLT, Nat.reduceBEq, Nat.reduceBNe, reduceIte, reduceCtorEq, Int.reduceToNat, Int.reduceAdd, Int.reduceSub, Int.reduceMul, Int.reduceNeg, Int.reduceLT, Int.reduceLE, Int.reduceEq, Int.reduceNe, Evid.iv, Evid.c, Place.c, Move.c, Cert.c, Recall.c, Purity.c, Sample.c, Recipe.c, ints, ic]) | (refine CallD_eq (c27 _ _ _) (by decide) ?_; simp only [*, go_sem, Int.reduceNegSucc, Nat.reduceAdd, Nat.reduceSub, Nat.reduceMul, Nat.reduceEqDiff, Nat.reduceLeDiff, Nat.reduceLT, Nat.reduceBEq, Nat.reduceBNe, reduceIte, reduceCtorEq, Int.reduceToNat, Int.reduceAdd, Int.reduceSub, Int.reduceMul, Int.reduceNeg, Int.reduceLT, Int.reduceLE, Int.reduceEq, Int.reduceNe, Evid.iv, Evid.c, Place.c, Move.c, Cert.c, Recall.c, Purity.c, Sample.c, Recipe.c, ints, ic]))
    refine LoopP_of [1, 4] [1] (fun i : Nat => ⟨[(1, .loc 1 3 0 0), (4, .im (.int i))], [(1, 3, [s.c])], []⟩)
      (fun i => i ≤ s.grams.length ∧ (s.grams.take i).all (fun n => btw n 0 1099511627776) = true) (fun i => s.grams.length - i) 0 ?_ ⟨Nat.zero_le _, rfl⟩ ?_
    · simp only [Sample.c, ints, Int.natCast_zero, go_sem, Int.reduceNegSucc, Nat.reduceAdd, Nat.reduceSub, Nat.reduceMul, Nat.reduceEqDiff, Nat.reduceLeDiff, Nat.reduceLT, Nat.reduceBEq, Nat.reduceBNe, reduceIte, reduceCtorEq, Int.reduceToNat, Int.reduceAdd, Int.reduceSub, Int.reduceMul, Int.reduceNeg, Int.reduceLT, Int.reduceLE, Int.reduceEq, Int.reduceNe, Evid.iv, Evid.c, Place.c, Move.c, Cert.c, Recall.c, Purity.c, Sample.c, Recipe.c, ints, ic]
    · intro i ⟨hi, hall⟩
      by_cases hp : (i : Int) < s.grams.length
      · have hd : decide ((i : Int) < s.grams.length) = true := decide_eq_true hp
        obtain ⟨x, hx⟩ := at_nat hp
        have h1 := i64_ok (n := (i : Int) + 1) (by omega)
        simp only [hd, List.getElem?_map, hx, ic, Sample.c, ints, go_sem, Int.reduceNegSucc, Nat.reduceAdd, Nat.reduceSub, Nat.reduceMul, Nat.reduceEqDiff, Nat.reduceLeDiff, Nat.reduceLT, Nat.reduceBEq, Nat.reduceBNe, reduceIte, reduceCtorEq, Int.reduceToNat, Int.reduceAdd, Int.reduceSub, Int.reduceMul, Int.reduceNeg, Int.reduceLT, Int.reduceLE, Int.reduceEq, Int.reduceNe, Evid.iv, Evid.c, Place.c, Move.c, Cert.c, Recall.c, Purity.c, Sample.c, Recipe.c, ints, ic]
        refine CallP_eq (c27 _ _ _) (by decide) ?_
        simp only [go_sem, Int.reduceNegSucc, Nat.reduceAdd, Nat.reduceSub, Nat.reduceMul, Nat.reduceEqDiff, Nat.reduceLeDiff, Nat.reduceLT, Nat.reduceBEq, Nat.reduceBNe, reduceIte, reduceCtorEq, Int.reduceToNat, Int.reduceAdd, Int.reduceSub, Int.reduceMul, Int.reduceNeg, Int.reduceLT, Int.reduceLE, Int.reduceEq, Int.reduceNe, Evid.iv, Evid.c, Place.c, Move.c, Cert.c, Recall.c, Purity.c, Sample.c, Recipe.c, ints, ic]
        refine Two_of (fun he => ?_) (fun he => ?_)
        · simp only [he, go_sem, Int.reduceNegSucc, Nat.reduceAdd, Nat.reduceSub, Nat.reduceMul, Nat.reduceEqDiff, Nat.reduceLeDiff, Nat.reduceLT, Nat.reduceBEq, Nat.reduceBNe, reduceIte, reduceCtorEq, Int.reduceToNat, Int.reduceAdd, Int.reduceSub, Int.reduceMul, Int.reduceNeg, Int.reduceLT, Int.reduceLE, Int.reduceEq, Int.reduceNe, Evid.iv, Evid.c, Place.c, Move.c, Cert.c, Recall.c, Purity.c, Sample.c, Recipe.c, ints, ic]
          refine RoundP_of (i + 1) ?_ (by omega) ⟨by omega, by rw [all_take_succ hx, hall, he]; rfl⟩
          simp only [h1, Int.natCast_add, Sample.c, ints, go_sem, Int.reduceNegSucc, Nat.reduceAdd, Nat.reduceSub, Nat.reduceMul, Nat.reduceEqDiff, Nat.reduceLeDiff, Nat.reduceLT, Nat.reduceBEq, Nat.reduceBNe, reduceIte, reduceCtorEq, Int.reduceToNat, Int.reduceAdd, Int.reduceSub, Int.reduceMul, Int.reduceNeg, Int.reduceLT, Int.reduceLE, Int.reduceEq, Int.reduceNe, Evid.iv, Evid.c, Place.c, Move.c, Cert.c, Recall.c, Purity.c, Sample.c, Recipe.c, ints, ic]
        · have hr : resP (puritiesF s) = .tup [.sl [], .int 1] := by simp [puritiesF, not_ok_gram hx he, resP, purs]
          simp only [he, hr, go_sem, Int.reduceNegSucc, Nat.reduceAdd, Nat.reduceSub, Nat.reduceMul, Nat.reduceEqDiff, Nat.reduceLeDiff, Nat.reduceLT, Nat.reduceBEq, Nat.reduceBNe, reduceIte, reduceCtorEq, Int.reduceToNat, Int.reduceAdd, Int.reduceSub, Int.reduceMul, Int.reduceNeg, Int.reduceLT, Int.reduceLE, Int.reduceEq, Int.reduceNe, Evid.iv, Evid.c, Place.c, Move.c, Cert.c, Recall.c, Purity.c, Sample.c, Recipe.c, ints, ic]
      · have hd : decide ((i : Int) < s.grams.length) = false := decide_eq_false hp
        rw [List.take_of_length_le (by omega)] at hall
        have hok := ok_of hh hall
        have hb : ∀ x ∈ s.grams, 0 ≤ x ∧ x ≤ 1099511627776 := fun x hx => btw_iff.1 (List.all_eq_true.1 hall x hx)
        have hbi := isum_bound hb s.grams.length
        rw [List.take_of_length_le (Nat.le_refl _)] at hbi
        have hsb : isum s.grams ≤ 1099511627776 * 6 := by omega
        have h28 := c28 s.grams (by omega) hb
        simp only [hd, Sample.c, ints, go_sem, Int.reduceNegSucc, Nat.reduceAdd, Nat.reduceSub, Nat.reduceMul, Nat.reduceEqDiff, Nat.reduceLeDiff, Nat.reduceLT, Nat.reduceBEq, Nat.reduceBNe, reduceIte, reduceCtorEq, Int.reduceToNat, Int.reduceAdd, Int.reduceSub, Int.reduceMul, Int.reduceNeg, Int.reduceLT, Int.reduceLE, Int.reduceEq, Int.reduceNe, Evid.iv, Evid.c, Place.c, Move.c, Cert.c, Recall.c, Purity.c, Sample.c, Recipe.c, ints, ic]
        clear hd hp hi
        refine CallP_eq h28 (by decide) ?_
        simp only [go_sem, Int.reduceNegSucc, Nat.reduceAdd, Nat.reduceSub, Nat.reduceMul, Nat.reduceEqDiff, Nat.reduceLeDiff, Nat.reduceLT, Nat.reduceBEq, Nat.reduceBNe, reduceIte, reduceCtorEq, Int.reduceToNat, Int.reduceAdd, Int.reduceSub, Int.reduceMul, Int.reduceNeg, Int.reduceLT, Int.reduceLE, Int.reduceEq, Int.reduceNe, Evid.iv, Evid.c, Place.c, Move.c, Cert.c, Recall.c, Purity.c, Sample.c, Recipe.c, ints, ic]
        refine Two_dec (fun h0 h0' => ?_) (fun h0 h0' => ?_)
        · have hr : resP (puritiesF s) = .tup [.sl [], .int 14] := by simp [puritiesF, hok, h0', resP, purs]
          simp only [h0, hr, go_sem, Int.reduceNegSucc, Nat.reduceAdd, Nat.reduceSub, Nat.reduceMul, Nat.reduceEqDiff, Nat.reduceLeDiff, Nat.reduceLT, Nat.reduceBEq, Nat.reduceBNe, reduceIte, reduceCtorEq, Int.reduceToNat, Int.reduceAdd, Int.reduceSub, Int.reduceMul, Int.reduceNeg, Int.reduceLT, Int.reduceLE, Int.reduceEq, Int.reduceNe, Evid.iv, Evid.c, Place.c, Move.c, Cert.c, Recall.c, Purity.c, Sample.c, Recipe.c, ints, ic]
        · have hr : resP (puritiesF s) = .tup [purs (purGo s (isum s.grams) 0 s.grams), .int 0] := by simp [puritiesF, hok, h0', resP]
          simp only [h0, go_sem, Int.reduceNegSucc, Nat.reduceAdd, Nat.reduceSub, Nat.reduceMul, Nat.reduceEqDiff, Nat.reduceLeDiff, Nat.reduceLT, Nat.reduceBEq, Nat.reduceBNe, reduceIte, reduceCtorEq, Int.reduceToNat, Int.reduceAdd, Int.reduceSub, Int.reduceMul, Int.reduceNeg, Int.reduceLT, Int.reduceLE, Int.reduceEq, Int.reduceNe, Evid.iv, Evid.c, Place.c, Move.c, Cert.c, Recall.c, Purity.c, Sample.c, Recipe.c, ints, ic]
          refine LoopP_of [1, 5, 7, 6] [1, 88] (fun g : Nat × List Purity => ⟨[(1, .loc 1 3 0 0), (5, .im (.int (isum s.grams))), (7, .im (.int g.1)),
              (6, if g.2 = [] then .sx [] else .vec 88 52 4 (g.2.map Purity.c))], [(1, 3, [s.c])], if g.2 = [] then [] else [(88, 4, g.2.length)]⟩)
            (fun g => g.1 ≤ s.grams.length ∧ g.2 ++ purGo s (isum s.grams) g.1 (s.grams.drop g.1) = purGo s (isum s.grams) 0 s.grams ∧ g.2.length ≤ g.1) (fun g => s.grams.length - g.1) (0, []) ?_ ⟨Nat.zero_le _, rfl, Nat.zero_le _⟩ ?_
          · simp only [Int.natCast_zero, Sample.c, ints, eq_self, go_sem, Int.reduceNegSucc, Nat.reduceAdd, Nat.reduceSub, Nat.reduceMul, Nat.reduceEqDiff, Nat.reduceLeDiff, Nat.reduceLT, Nat.reduceBEq, Nat.reduceBNe, reduceIte, reduceCtorEq, Int.reduceToNat, Int.reduceAdd, Int.reduceSub, Int.reduceMul, Int.reduceNeg, Int.reduceLT, Int.reduceLE, Int.reduceEq, Int.reduceNe, Evid.iv, Evid.c, Place.c, Move.c, Cert.c, Recall.c, Purity.c, Sample.c, Recipe.c, ints, ic]
          · intro ⟨i, l⟩ ⟨hi, ha, hl'⟩
            dsimp only at hi ha hl'
            by_cases hp : (i : Int) < s.grams.length
            · have hd : decide ((i : Int) < s.grams.length) = true := decide_eq_true hp
              obtain ⟨x, hx⟩ := at_nat hp
              have hxb := hb x (List.mem_of_getElem? hx)
              have hS : ¬ isum s.grams = 0 := h0'
              have hq0 : 0 ≤ (1000 * x).tdiv (isum s.grams) := Int.tdiv_nonneg (by omega) (by omega)
              have hq1 : (1000 * x).tdiv (isum s.grams) ≤ 1000 * x := by
                rw [Int.tdiv_eq_ediv_of_nonneg (by omega)]
                exact Int.ediv_le_self _ (by omega)
              have hc0 : 0 ≤ (1000 * x + isum s.grams - 1).tdiv (isum s.grams) := Int.tdiv_nonneg (by omega) (by omega)
              have hc1 : (1000 * x + isum s.grams - 1).tdiv (isum s.grams) ≤ 1000 * x + isum s.grams - 1 := by
                rw [Int.tdiv_eq_ediv_of_nonneg (by omega)]
                exact Int.ediv_le_self _ (by omega)
              have hcl := ceilF (n := x) (S := isum s.grams) hxb.1 (by omega)
              have h1 := i64_ok (n := (i : Int) + 1) (by omega)
              have h3 := i64_ok (n := 1000 * x) (by omega)
              have h4 := i64_ok (n := (1000 * x).tdiv (isum s.grams)) (by omega)
              have h5 := i64_ok (n := 1000 * x + isum s.grams) (by omega)
              have h6 := i64_ok (n := 1000 * x + isum s.grams - 1) (by omega)
              have h7 := i64_ok (n := (1000 * x + isum s.grams - 1).tdiv (isum s.grams)) (by omega)
              have h8 := i64_ok (n := (1000 * x).tdiv (isum s.grams) - s.slack) (by omega)
              have h9 := i64_ok (n := (1000 * x + isum s.grams - 1).tdiv (isum s.grams) + s.slack) (by omega)
              have hpu : purOf s (isum s.grams) i x = ⟨s.move, i, max 0 ((1000 * x).tdiv (isum s.grams) - s.slack), min 1000 ((1000 * x + isum s.grams - 1).tdiv (isum s.grams) + s.slack)⟩ := by rw [hcl]; rfl
              rw [drop_cons hx, purGo] at ha
              rcases l with _ | ⟨y, l⟩
              · skip
                have hlen : ∀ (c : List IV), c ∈ List.map Purity.c ([]) → c.length = 4 := fun c hc => by
                  obtain ⟨z, _, rfl⟩ := List.mem_map.1 hc; rfl
                simp only [List.map_cons, List.map_nil] at hlen
                simp only [List.length_cons, List.length_nil] at hl'
                simp only [hd, List.getElem?_map, hx, ic, eq_self, h3, h4, h5, h6, h7, h8, h9, hS, Sample.c, ints, go_sem, Int.reduceNegSucc, Nat.reduceAdd, Nat.reduceSub, Nat.reduceMul, Nat.reduceEqDiff, Nat.reduceLeDiff, Nat.reduceLT, Nat.reduceBEq, Nat.reduceBNe, reduceIte, reduceCtorEq, Int.reduceToNat, Int.reduceAdd, Int.reduceSub, Int.reduceMul, Int.reduceNeg, Int.reduceLT, Int.reduceLE, Int.reduceEq, Int.reduceNe, Evid.iv, Evid.c, Place.c, Move.c, Cert.c, Recall.c, Purity.c, Sample.c, Recipe.c, ints, ic]
                refine ⟨hlen, by simp, ?_⟩
                try refine ⟨by omega, ?_⟩
                refine RoundP_of (i + 1, [] ++ [purOf s (isum s.grams) i x]) ?_ ?_ ⟨?_, ?_, ?_⟩
                · simp only [h1, hpu, Sample.c, ints, Int.natCast_add, eq_self, List.map_append, List.length_append, Purity.c, go_sem, Int.reduceNegSucc, Nat.reduceAdd, Nat.reduceSub, Nat.reduceMul, Nat.reduceEqDiff, Nat.reduceLeDiff, Nat.reduceLT, Nat.reduceBEq, Nat.reduceBNe, reduceIte, reduceCtorEq, Int.reduceToNat, Int.reduceAdd, Int.reduceSub, Int.reduceMul, Int.reduceNeg, Int.reduceLT, Int.reduceLE, Int.reduceEq, Int.reduceNe, Evid.iv, Evid.c, Place.c, Move.c, Cert.c, Recall.c, Purity.c, Sample.c, Recipe.c, ints, ic]
                · show s.grams.length - (i + 1) < s.grams.length - i; omega
                · show i + 1 ≤ s.grams.length; omega
                · dsimp only; rw [← ha]; simp only [List.append_assoc, List.cons_append, List.nil_append]
                · dsimp only; simp only [List.length_append, List.length_cons, List.length_nil]; omega
              · skip
                have hlen : ∀ (c : List IV), c ∈ List.map Purity.c ((y :: l)) → c.length = 4 := fun c hc => by
                  obtain ⟨z, _, rfl⟩ := List.mem_map.1 hc; rfl
                simp only [List.map_cons, List.map_nil] at hlen
                simp only [List.length_cons, List.length_nil] at hl'
                simp only [hd, List.getElem?_map, hx, ic, eq_self, h3, h4, h5, h6, h7, h8, h9, hS, Sample.c, ints, go_sem, Int.reduceNegSucc, Nat.reduceAdd, Nat.reduceSub, Nat.reduceMul, Nat.reduceEqDiff, Nat.reduceLeDiff, Nat.reduceLT, Nat.reduceBEq, Nat.reduceBNe, reduceIte, reduceCtorEq, Int.reduceToNat, Int.reduceAdd, Int.reduceSub, Int.reduceMul, Int.reduceNeg, Int.reduceLT, Int.reduceLE, Int.reduceEq, Int.reduceNe, Evid.iv, Evid.c, Place.c, Move.c, Cert.c, Recall.c, Purity.c, Sample.c, Recipe.c, ints, ic]
                refine ⟨hlen, by simp, ?_⟩
                try refine ⟨by omega, ?_⟩
                refine RoundP_of (i + 1, (y :: l) ++ [purOf s (isum s.grams) i x]) ?_ ?_ ⟨?_, ?_, ?_⟩
                · simp only [h1, hpu, Sample.c, ints, Int.natCast_add, eq_self, List.map_append, List.length_append, Purity.c, go_sem, Int.reduceNegSucc, Nat.reduceAdd, Nat.reduceSub, Nat.reduceMul, Nat.reduceEqDiff, Nat.reduceLeDiff, Nat.reduceLT, Nat.reduceBEq, Nat.reduceBNe, reduceIte, reduceCtorEq, Int.reduceToNat, Int.reduceAdd, Int.reduceSub, Int.reduceMul, Int.reduceNeg, Int.reduceLT, Int.reduceLE, Int.reduceEq, Int.reduceNe, Evid.iv, Evid.c, Place.c, Move.c, Cert.c, Recall.c, Purity.c, Sample.c, Recipe.c, ints, ic]
                · show s.grams.length - (i + 1) < s.grams.length - i; omega
                · show i + 1 ≤ s.grams.length; omega
                · dsimp only; rw [← ha]; simp only [List.append_assoc, List.cons_append, List.nil_append]
                · dsimp only; simp only [List.length_append, List.length_cons, List.length_nil]; omega
            · have hd : decide ((i : Int) < s.grams.length) = false := decide_eq_false hp
              rw [List.drop_of_length_le (by omega), purGo, List.append_nil] at ha
              rw [← ha] at hr
              rcases l with _ | ⟨y, l⟩
              · simp only [hd, eq_self, hr, purs, Sample.c, ints, go_sem, Int.reduceNegSucc, Nat.reduceAdd, Nat.reduceSub, Nat.reduceMul, Nat.reduceEqDiff, Nat.reduceLeDiff, Nat.reduceLT, Nat.reduceBEq, Nat.reduceBNe, reduceIte, reduceCtorEq, Int.reduceToNat, Int.reduceAdd, Int.reduceSub, Int.reduceMul, Int.reduceNeg, Int.reduceLT, Int.reduceLE, Int.reduceEq, Int.reduceNe, Evid.iv, Evid.c, Place.c, Move.c, Cert.c, Recall.c, Purity.c, Sample.c, Recipe.c, ints, ic]
              · simp only [hd, eq_self, hr, purs, Sample.c, ints, go_sem, Int.reduceNegSucc, Nat.reduceAdd, Nat.reduceSub, Nat.reduceMul, Nat.reduceEqDiff, Nat.reduceLeDiff, Nat.reduceLT, Nat.reduceBEq, Nat.reduceBNe, reduceIte, reduceCtorEq, Int.reduceToNat, Int.reduceAdd, Int.reduceSub, Int.reduceMul, Int.reduceNeg, Int.reduceLT, Int.reduceLE, Int.reduceEq, Int.reduceNe, Evid.iv, Evid.c, Place.c, Move.c, Cert.c, Recall.c, Purity.c, Sample.c, Recipe.c, ints, ic]
end Go.Proofs.Ytpnlfkaijdjhlaa
