/- A part of the proof: what functions of the program do, and the layer under it. No further condition. -/
import Derived.Test.YtpnlfkaijdjhlaaKE2
namespace Go.Proofs.Ytpnlfkaijdjhlaa
set_option linter.all false
open Go.Abs

def sampleOk (s : Sample) : Bool := btw s.move 0 199 && !decide ((s.grams.length : Int) = 0) && !decide (6 < (s.grams.length : Int)) && !s.grams.any (fun n => !btw n 0 1099511627776) && btw s.slack 0 1000
def lowF (n sum : Int) : Int := (1000 * n).tdiv sum
def highF (n sum : Int) : Int := if decide (0 < (1000 * n).tmod sum) = true then lowF n sum + 1 else lowF n sum
def purOf (s : Sample) (sum : Int) (i : Nat) (n : Int) : Purity := ⟨s.move, i, max 0 (lowF n sum - s.slack), min 1000 (highF n sum + s.slack)⟩
def purGo (s : Sample) (sum : Int) : Nat → List Int → List Purity
  | _, [] => []
  | i, n :: r => purOf s sum i n :: purGo s sum (i + 1) r
def puritiesF (s : Sample) : List Purity × Int :=
  if sampleOk s = false then ([], 1) else if isum s.grams = 0 then ([], 14) else (purGo s (isum s.grams) 0 s.grams, 0)
def resP (r : List Purity × Int) : IV := .tup [purs r.1, .int r.2]
set_option maxRecDepth 100000 in
set_option maxHeartbeats 4000000 in
theorem c10 (s : Sample) (hl : s.grams.length ≤ 100000) : Ctr G.P 10 [.agg s.c] (· = resP (puritiesF s)) := by
  have h26 := c26 s.grams hl (fun n => !btw n 0 1099511627776) 24 [] (by decide) (fun n => c24 n)
  rcases hok : sampleOk s with _ | _
  · have hr : resP (puritiesF s) = .tup [.sl [], .int 1] := by simp [puritiesF, hok, resP, purs]
    rw [hr]
    simp only [sampleOk] at hok
    generalize ha : s.grams.any (fun n => !btw n 0 1099511627776) = any at *
    refine ctr_go good _ _ [.tmp 2, .tmp 3] Try.func10 rfl rfl (by decide +kernel) rfl ?_
    unfold Sample.c ints
    simp only [go_sem, Int.reduceNegSucc, Nat.reduceAdd, Nat.reduceSub, Nat.reduceMul, Nat.reduceEqDiff, Nat.reduceLeDiff, Nat.reduceLT, Nat.reduceBEq, Nat.reduceBNe, reduceIte, reduceCtorEq, Int.reduceToNat, Int.reduceAdd, Int.reduceSub, Int.reduceMul, Int.reduceNeg, Int.reduceLT, Int.reduceLE, Int.reduceEq, Int.reduceNe, Evid.iv, Evid.c, Place.c, Move.c, Cert.c, Recall.c, Purity.c, Sample.c, Recipe.c, ints, ic]
    repeat' (first | (refine Two_of (fun hd => ?_) (fun hd => ?_) <;> simp only [*, go_sem, Int.reduceNegSucc, Nat.reduceAdd, Nat.reduceSub, Nat.reduceMul, Nat.reduceEqDiff, Nat.reduceLeDiff, Nat.reduceLT, Nat.reduceBEq, Nat.reduceBNe, reduceIte, reduceCtorEq, Int.reduceToNat, Int.reduceAdd, Int.reduceSub, Int.reduceMul, Int.reduceNeg, Int.reduceLT, Int.reduceLE, Int.reduceEq, Int.reduceNe, Evid.iv, Evid.c, Place.c, Move.c, Cert.c, Recall.c, Purity.c, Sample.c, Recipe.c, ints, ic]) | (refine CallP_eq (c25 _ _) (by first | decide | assumption) ?_; simp only [*, go_sem, Int.reduceNegSucc, Nat.reduceAdd, Nat.reduceSub, Nat.reduceMul, Nat.reduceEqDiff, Nat.reduceLeDiff, Nat.reduceLT, Nat.reduceBEq, Nat.reduceBNe, reduceIte, reduceCtorEq, Int.reduceToNat, Int.reduceAdd, Int.reduceSub, Int.reduceMul, Int.reduceNeg, Int.reduceLT, Int.reduceLE, Int.reduceEq, Int.reduceNe, Evid.iv, Evid.c, Place.c, Move.c, Cert.c, Recall.c, Purity.c, Sample.c, Recipe.c, ints, ic]) | (refine CallP_eq (h26) (by first | decide | assumption) ?_; simp only [*, go_sem, Int.reduceNegSucc, Nat.reduceAdd, Nat.reduceSub, Nat.reduceMul, Nat.reduceEqDiff, Nat.reduceLeDiff, Nat.reduceLT, Nat.reduceBEq, Nat.reduceBNe, reduceIte, reduceCtorEq, Int.reduceToNat, Int.reduceAdd, Int.reduceSub, Int.reduceMul, Int.reduceNeg, Int.reduceLT, Int.reduceLE, Int.reduceEq, Int.reduceNe, Evid.iv, Evid.c, Place.c, Move.c, Cert.c, Recall.c, Purity.c, Sample.c, Recipe.c, ints, ic]) | (refine CallD_eq (c25 _ _) (by decide) ?_; simp only [*, go_sem, Int.reduceNegSucc, Nat.reduceAdd, Nat.reduceSub, Nat.reduceMul, Nat.reduceEqDiff, Nat.reduceLeDiff, Nat.reduceLT, Nat.reduceBEq, Nat.reduceBNe, reduceIte, reduceCtorEq, Int.reduceToNat, Int.reduceAdd, Int.reduceSub, Int.reduceMul, Int.reduceNeg, Int.reduceLT, Int.reduceLE, Int.reduceEq, Int.reduceNe, Evid.iv, Evid.c, Place.c, Move.c, Cert.c, Recall.c, Purity.c, Sample.c, Recipe.c, ints, ic]) | (refine CallD_eq (h26) (by decide) ?_; simp only [*, go_sem, Int.reduceNegSucc, Nat.reduceAdd, Nat.reduceSub, Nat.reduceMul, Nat.reduceEqDiff, Nat.reduceLeDiff, Nat.reduceLT, Nat.reduceBEq, Nat.reduceBNe, reduceIte, reduceCtorEq, Int.reduceToNat, Int.reduceAdd, Int.reduceSub, Int.reduceMul, Int.reduceNeg, Int.reduceLT, Int.reduceLE, Int.reduceEq, Int.reduceNe, Evid.iv, Evid.c, Place.c, Move.c, Cert.c, Recall.c, Purity.c, Sample.c, Recipe.c, ints, ic]))
    all_goals simp_all
  · have hparts : btw s.move 0 199 = true ∧ ¬ (s.grams.length : Int) = 0 ∧ ¬ 6 < (s.grams.length : Int) ∧ s.grams.any (fun n => !btw n 0 1099511627776) = false ∧ btw s.slack 0 1000 = true := by
      simp only [sampleOk, Bool.and_eq_true, Bool.not_eq_true', decide_eq_false_iff_not] at hok
      exact ⟨hok.1.1.1.1, hok.1.1.1.2, hok.1.1.2, hok.1.2, hok.2⟩
    obtain ⟨b1, b2, b3, b4, b5⟩ := hparts
    have hb : ∀ x ∈ s.grams, 0 ≤ x ∧ x ≤ 1099511627776 := fun x hx => by
      have := List.any_eq_false.1 b4 x hx
      simpa [btw_iff] using this
    have hs : 0 ≤ s.slack ∧ s.slack ≤ 1000 := btw_iff.1 b5
    rw [b4] at h26
    refine ctr_go good _ _ [.tmp 2, .tmp 3] Try.func10 rfl rfl (by decide +kernel) rfl ?_
    unfold Sample.c ints
    simp only [go_sem, Int.reduceNegSucc, Nat.reduceAdd, Nat.reduceSub, Nat.reduceMul, Nat.reduceEqDiff, Nat.reduceLeDiff, Nat.reduceLT, Nat.reduceBEq, Nat.reduceBNe, reduceIte, reduceCtorEq, Int.reduceToNat, Int.reduceAdd, Int.reduceSub, Int.reduceMul, Int.reduceNeg, Int.reduceLT, Int.reduceLE, Int.reduceEq, Int.reduceNe, Evid.iv, Evid.c, Place.c, Move.c, Cert.c, Recall.c, Purity.c, Sample.c, Recipe.c, ints, ic]
    repeat' (first | (refine Two_of (fun hd => ?_) (fun hd => ?_) <;> simp only [*, go_sem, Int.reduceNegSucc, Nat.reduceAdd, Nat.reduceSub, Nat.reduceMul, Nat.reduceEqDiff, Nat.reduceLeDiff, Nat.reduceLT, Nat.reduceBEq, Nat.reduceBNe, reduceIte, reduceCtorEq, Int.reduceToNat, Int.reduceAdd, Int.reduceSub, Int.reduceMul, Int.reduceNeg, Int.reduceLT, Int.reduceLE, Int.reduceEq, Int.reduceNe, Evid.iv, Evid.c, Place.c, Move.c, Cert.c, Recall.c, Purity.c, Sample.c, Recipe.c, ints, ic]) | (refine CallP_eq (c25 _ _) (by first | decide | assumption) ?_; simp only [*, go_sem, Int.reduceNegSucc, Nat.reduceAdd, Nat.reduceSub, Nat.reduceMul, Nat.reduceEqDiff, Nat.reduceLeDiff, Nat.reduceLT, Nat.reduceBEq, Nat.reduceBNe, reduceIte, reduceCtorEq, Int.reduceToNat, Int.reduceAdd, Int.reduceSub, Int.reduceMul, Int.reduceNeg, Int.reduceLT, Int.reduceLE, Int.reduceEq, Int.reduceNe, Evid.iv, Evid.c, Place.c, Move.c, Cert.c, Recall.c, Purity.c, Sample.c, Recipe.c, ints, ic]) | (refine CallP_eq (h26) (by first | decide | assumption) ?_; simp only [*, go_sem, Int.reduceNegSucc, Nat.reduceAdd, Nat.reduceSub, Nat.reduceMul, Nat.reduceEqDiff, Nat.reduceLeDiff, Nat.reduceLT, Nat.reduceBEq, Nat.reduceBNe, reduceIte, reduceCtorEq, Int.reduceToNat, Int.reduceAdd, Int.reduceSub, Int.reduceMul, Int.reduceNeg, Int.reduceLT, Int.reduceLE, Int.reduceEq, Int.reduceNe, Evid.iv, Evid.c, Place.c, Move.c, Cert.c, Recall.c, Purity.c, Sample.c, Recipe.c, ints, ic]) | (refine CallD_eq (c25 _ _) (by decide) ?_; simp only [*, go_sem, Int.reduceNegSucc, Nat.reduceAdd, Nat.reduceSub, Nat.reduceMul, Nat.reduceEqDiff, Nat.reduceLeDiff, Nat.reduceLT, Nat.reduceBEq, Nat.reduceBNe, reduceIte, reduceCtorEq, Int.reduceToNat, Int.reduceAdd, Int.reduceSub, Int.reduceMul, Int.reduceNeg, Int.reduceLT, Int.reduceLE, Int.reduceEq, Int.reduceNe, Evid.iv, Evid.c, Place.c, Move.c, Cert.c, Recall.c, Purity.c, Sample.c, Recipe.c, ints, ic]) | (refine CallD_eq (h26) (by decide) ?_; simp only [*, go_sem, Int.reduceNegSucc, Nat.reduceAdd, Nat.reduceSub, Nat.reduceMul, Nat.reduceEqDiff, Nat.reduceLeDiff, Nat.reduceLT, Nat.reduceBEq, Nat.reduceBNe, reduceIte, reduceCtorEq, Int.reduceToNat, Int.reduceAdd, Int.reduceSub, Int.reduceMul, Int.reduceNeg, Int.reduceLT, Int.reduceLE, Int.reduceEq, Int.reduceNe, Evid.iv, Evid.c, Place.c, Move.c, Cert.c, Recall.c, Purity.c, Sample.c, Recipe.c, ints, ic]))
    refine LoopP_of [1, 43, 44, 45, 5] [1] (fun i : Nat => ⟨[(1, .loc 1 3 0 0), (43, .im (.sl (s.grams.map ic))), (44, .im (.int s.grams.length)), (45, .im (.int i)), (5, .im (.int (isum (s.grams.take i))))], [(1, 3, [s.c])], []⟩)
      (fun i => i ≤ s.grams.length) (fun i => s.grams.length - i) 0 ?_ (Nat.zero_le _) ?_
    · simp only [Sample.c, ints, Int.natCast_zero, List.take_zero, isum, go_sem, Int.reduceNegSucc, Nat.reduceAdd, Nat.reduceSub, Nat.reduceMul, Nat.reduceEqDiff, Nat.reduceLeDiff, Nat.reduceLT, Nat.reduceBEq, Nat.reduceBNe, reduceIte, reduceCtorEq, Int.reduceToNat, Int.reduceAdd, Int.reduceSub, Int.reduceMul, Int.reduceNeg, Int.reduceLT, Int.reduceLE, Int.reduceEq, Int.reduceNe, Evid.iv, Evid.c, Place.c, Move.c, Cert.c, Recall.c, Purity.c, Sample.c, Recipe.c, ints, ic]
    · intro i hi
      have hbi := isum_bound hb i
      rw [List.length_take] at hbi
      by_cases hp : (i : Int) < s.grams.length
      · have hd : decide ((i : Int) < s.grams.length) = true := decide_eq_true hp
        obtain ⟨x, hx⟩ := at_nat hp
        have hxb := hb x (List.mem_of_getElem? hx)
        have h1 := i64_ok (n := (i : Int) + 1) (by omega)
        have h2 := i64_ok (n := isum (s.grams.take i) + x) (by omega)
        simp only [hd, List.getElem?_map, hx, ic, go_sem, Int.reduceNegSucc, Nat.reduceAdd, Nat.reduceSub, Nat.reduceMul, Nat.reduceEqDiff, Nat.reduceLeDiff, Nat.reduceLT, Nat.reduceBEq, Nat.reduceBNe, reduceIte, reduceCtorEq, Int.reduceToNat, Int.reduceAdd, Int.reduceSub, Int.reduceMul, Int.reduceNeg, Int.reduceLT, Int.reduceLE, Int.reduceEq, Int.reduceNe, Evid.iv, Evid.c, Place.c, Move.c, Cert.c, Recall.c, Purity.c, Sample.c, Recipe.c, ints, ic]
        refine RoundP_of (i + 1) ?_ (by omega) (by omega)
        simp only [h1, h2, isum_take hx, Int.natCast_add, Sample.c, ints, go_sem, Int.reduceNegSucc, Nat.reduceAdd, Nat.reduceSub, Nat.reduceMul, Nat.reduceEqDiff, Nat.reduceLeDiff, Nat.reduceLT, Nat.reduceBEq, Nat.reduceBNe, reduceIte, reduceCtorEq, Int.reduceToNat, Int.reduceAdd, Int.reduceSub, Int.reduceMul, Int.reduceNeg, Int.reduceLT, Int.reduceLE, Int.reduceEq, Int.reduceNe, Evid.iv, Evid.c, Place.c, Move.c, Cert.c, Recall.c, Purity.c, Sample.c, Recipe.c, ints, ic]
      · have hd : decide ((i : Int) < s.grams.length) = false := decide_eq_false hp
        rw [List.take_of_length_le (by omega)] at hbi ⊢
        simp only [hd, go_sem, Int.reduceNegSucc, Nat.reduceAdd, Nat.reduceSub, Nat.reduceMul, Nat.reduceEqDiff, Nat.reduceLeDiff, Nat.reduceLT, Nat.reduceBEq, Nat.reduceBNe, reduceIte, reduceCtorEq, Int.reduceToNat, Int.reduceAdd, Int.reduceSub, Int.reduceMul, Int.reduceNeg, Int.reduceLT, Int.reduceLE, Int.reduceEq, Int.reduceNe, Evid.iv, Evid.c, Place.c, Move.c, Cert.c, Recall.c, Purity.c, Sample.c, Recipe.c, ints, ic]
        clear hd hp hi
        have hsb : isum s.grams ≤ 1099511627776 * 6 := by
          have h1 : ((min i s.grams.length : Nat) : Int) ≤ 6 := by omega
          omega
        refine Two_dec (fun h0 h0' => ?_) (fun h0 h0' => ?_)
        · have hr : resP (puritiesF s) = .tup [.sl [], .int 14] := by simp [puritiesF, hok, h0', resP, purs]
          simp only [h0, hr, go_sem, Int.reduceNegSucc, Nat.reduceAdd, Nat.reduceSub, Nat.reduceMul, Nat.reduceEqDiff, Nat.reduceLeDiff, Nat.reduceLT, Nat.reduceBEq, Nat.reduceBNe, reduceIte, reduceCtorEq, Int.reduceToNat, Int.reduceAdd, Int.reduceSub, Int.reduceMul, Int.reduceNeg, Int.reduceLT, Int.reduceLE, Int.reduceEq, Int.reduceNe, Evid.iv, Evid.c, Place.c, Move.c, Cert.c, Recall.c, Purity.c, Sample.c, Recipe.c, ints, ic]
        · have hr : resP (puritiesF s) = .tup [purs (purGo s (isum s.grams) 0 s.grams), .int 0] := by simp [puritiesF, hok, h0', resP]
          simp only [h0, Sample.c, ints, go_sem, Int.reduceNegSucc, Nat.reduceAdd, Nat.reduceSub, Nat.reduceMul, Nat.reduceEqDiff, Nat.reduceLeDiff, Nat.reduceLT, Nat.reduceBEq, Nat.reduceBNe, reduceIte, reduceCtorEq, Int.reduceToNat, Int.reduceAdd, Int.reduceSub, Int.reduceMul, Int.reduceNeg, Int.reduceLT, Int.reduceLE, Int.reduceEq, Int.reduceNe, Evid.iv, Evid.c, Place.c, Move.c, Cert.c, Recall.c, Purity.c, Sample.c, Recipe.c, ints, ic]
          refine LoopP_of [1, 5, 56, 57, 58, 8] [1, 92] (fun g : Nat × List Purity => ⟨[(1, .loc 1 3 0 0), (5, .im (.int (isum s.grams))), (56, .im (.sl (s.grams.map ic))), (57, .im (.int s.grams.length)), (58, .im (.int g.1)),
              (8, if g.2 = [] then .sx [] else .vec 92 52 4 (g.2.map Purity.c))], [(1, 3, [s.c])], if g.2 = [] then [] else [(92, 4, g.2.length)]⟩)
            (fun g => g.1 ≤ s.grams.length ∧ g.2 ++ purGo s (isum s.grams) g.1 (s.grams.drop g.1) = purGo s (isum s.grams) 0 s.grams ∧ g.2.length ≤ g.1) (fun g => s.grams.length - g.1) (0, []) ?_ ⟨Nat.zero_le _, rfl, Nat.zero_le _⟩ ?_
          · simp only [Int.natCast_zero, Sample.c, ints, eq_self, go_sem, Int.reduceNegSucc, Nat.reduceAdd, Nat.reduceSub, Nat.reduceMul, Nat.reduceEqDiff, Nat.reduceLeDiff, Nat.reduceLT, Nat.reduceBEq, Nat.reduceBNe, reduceIte, reduceCtorEq, Int.reduceToNat, Int.reduceAdd, Int.reduceSub, Int.reduceMul, Int.reduceNeg, Int.reduceLT, Int.reduceLE, Int.reduceEq, Int.reduceNe, Evid.iv, Evid.c, Place.c, Move.c, Cert.c, Recall.c, Purity.c, Sample.c, Recipe.c, ints, ic]
          · intro ⟨i, l⟩ ⟨hi, ha, hl'⟩
            dsimp only at hi ha hl'
            by_cases hp : (i : Int) < s.grams.length
            · have hd : decide ((i : Int) < s.grams.length) = true := decide_eq_true hp
              obtain ⟨x, hx⟩ := at_nat hp
              have hxb := hb x (List.mem_of_getElem? hx)
              have hS : ¬ isum s.grams = 0 := h0'
              have hq0 : 0 ≤ (1000 * x).tdiv (isum s.grams) := Int.tdiv_nonneg (by omega) (by omega)
              have hq1 : (1000 * x).tdiv (isum s.grams) ≤ 1000 * x := by
                rw [Int.tdiv_eq_ediv_of_nonneg (by omega)]
                exact Int.ediv_le_self _ (by omega)
              have h1 := i64_ok (n := (i : Int) + 1) (by omega)
              have h3 := i64_ok (n := 1000 * x) (by omega)
              have h4 := i64_ok (n := (1000 * x).tdiv (isum s.grams)) (by omega)
              have h5 := i64_ok (n := (1000 * x).tdiv (isum s.grams) - s.slack) (by omega)
              have h6 := i64_ok (n := (1000 * x).tdiv (isum s.grams) + 1) (by omega)
              have h7 := i64_ok (n := (1000 * x).tdiv (isum s.grams) + 1 + s.slack) (by omega)
              have h8 := i64_ok (n := (1000 * x).tdiv (isum s.grams) + s.slack) (by omega)
              rw [drop_cons hx, purGo] at ha
              rcases l with _ | ⟨y, l⟩
              · skip
                have hlen : ∀ (c : List IV), c ∈ List.map Purity.c ([]) → c.length = 4 := fun c hc => by
                  obtain ⟨z, _, rfl⟩ := List.mem_map.1 hc; rfl
                simp only [List.map_cons, List.map_nil] at hlen
                simp only [List.length_cons, List.length_nil] at hl'
                simp only [hd, List.getElem?_map, hx, ic, eq_self, go_sem, Int.reduceNegSucc, Nat.reduceAdd, Nat.reduceSub, Nat.reduceMul, Nat.reduceEqDiff, Nat.reduceLeDiff, Nat.reduceLT, Nat.reduceBEq, Nat.reduceBNe, reduceIte, reduceCtorEq, Int.reduceToNat, Int.reduceAdd, Int.reduceSub, Int.reduceMul, Int.reduceNeg, Int.reduceLT, Int.reduceLE, Int.reduceEq, Int.reduceNe, Evid.iv, Evid.c, Place.c, Move.c, Cert.c, Recall.c, Purity.c, Sample.c, Recipe.c, ints, ic]
                refine DrawP_of 10 (by decide +kernel) ?_
                simp only [h3, h4, hS, go_sem, Int.reduceNegSucc, Nat.reduceAdd, Nat.reduceSub, Nat.reduceMul, Nat.reduceEqDiff, Nat.reduceLeDiff, Nat.reduceLT, Nat.reduceBEq, Nat.reduceBNe, reduceIte, reduceCtorEq, Int.reduceToNat, Int.reduceAdd, Int.reduceSub, Int.reduceMul, Int.reduceNeg, Int.reduceLT, Int.reduceLE, Int.reduceEq, Int.reduceNe, Evid.iv, Evid.c, Place.c, Move.c, Cert.c, Recall.c, Purity.c, Sample.c, Recipe.c, ints, ic]
                refine Two_of (fun hm => ?_) (fun hm => ?_)
                · have hpu : purOf s (isum s.grams) i x = ⟨s.move, i, max 0 ((1000 * x).tdiv (isum s.grams) - s.slack), min 1000 ((1000 * x).tdiv (isum s.grams) + 1 + s.slack)⟩ := by simp only [purOf, highF, lowF, hm, if_true]
                  simp only [*, Sample.c, ints, go_sem, Int.reduceNegSucc, Nat.reduceAdd, Nat.reduceSub, Nat.reduceMul, Nat.reduceEqDiff, Nat.reduceLeDiff, Nat.reduceLT, Nat.reduceBEq, Nat.reduceBNe, reduceIte, reduceCtorEq, Int.reduceToNat, Int.reduceAdd, Int.reduceSub, Int.reduceMul, Int.reduceNeg, Int.reduceLT, Int.reduceLE, Int.reduceEq, Int.reduceNe, Evid.iv, Evid.c, Place.c, Move.c, Cert.c, Recall.c, Purity.c, Sample.c, Recipe.c, ints, ic]
                  refine ⟨hlen, by simp, ?_⟩
                  try refine ⟨by omega, ?_⟩
                  refine RoundP_of (i + 1, [] ++ [purOf s (isum s.grams) i x]) ?_ ?_ ⟨?_, ?_, ?_⟩
                  · simp only [*, Sample.c, ints, Int.natCast_add, eq_self, List.map_append, List.length_append, Purity.c, go_sem, Int.reduceNegSucc, Nat.reduceAdd, Nat.reduceSub, Nat.reduceMul, Nat.reduceEqDiff, Nat.reduceLeDiff, Nat.reduceLT, Nat.reduceBEq, Nat.reduceBNe, reduceIte, reduceCtorEq, Int.reduceToNat, Int.reduceAdd, Int.reduceSub, Int.reduceMul, Int.reduceNeg, Int.reduceLT, Int.reduceLE, Int.reduceEq, Int.reduceNe, Evid.iv, Evid.c, Place.c, Move.c, Cert.c, Recall.c, Purity.c, Sample.c, Recipe.c, ints, ic]
                  · show s.grams.length - (i + 1) < s.grams.length - i; omega
                  · show i + 1 ≤ s.grams.length; omega
                  · dsimp only; rw [← ha]; simp only [List.append_assoc, List.cons_append, List.nil_append]
                  · dsimp only; simp only [List.length_append, List.length_cons, List.length_nil]; omega
                · have hpu : purOf s (isum s.grams) i x = ⟨s.move, i, max 0 ((1000 * x).tdiv (isum s.grams) - s.slack), min 1000 ((1000 * x).tdiv (isum s.grams) + s.slack)⟩ := by simp only [purOf, highF, lowF, hm, if_false, Bool.false_eq_true]
                  simp only [*, Sample.c, ints, go_sem, Int.reduceNegSucc, Nat.reduceAdd, Nat.reduceSub, Nat.reduceMul, Nat.reduceEqDiff, Nat.reduceLeDiff, Nat.reduceLT, Nat.reduceBEq, Nat.reduceBNe, reduceIte, reduceCtorEq, Int.reduceToNat, Int.reduceAdd, Int.reduceSub, Int.reduceMul, Int.reduceNeg, Int.reduceLT, Int.reduceLE, Int.reduceEq, Int.reduceNe, Evid.iv, Evid.c, Place.c, Move.c, Cert.c, Recall.c, Purity.c, Sample.c, Recipe.c, ints, ic]
                  refine ⟨hlen, by simp, ?_⟩
                  try refine ⟨by omega, ?_⟩
                  refine RoundP_of (i + 1, [] ++ [purOf s (isum s.grams) i x]) ?_ ?_ ⟨?_, ?_, ?_⟩
                  · simp only [*, Sample.c, ints, Int.natCast_add, eq_self, List.map_append, List.length_append, Purity.c, go_sem, Int.reduceNegSucc, Nat.reduceAdd, Nat.reduceSub, Nat.reduceMul, Nat.reduceEqDiff, Nat.reduceLeDiff, Nat.reduceLT, Nat.reduceBEq, Nat.reduceBNe, reduceIte, reduceCtorEq, Int.reduceToNat, Int.reduceAdd, Int.reduceSub, Int.reduceMul, Int.reduceNeg, Int.reduceLT, Int.reduceLE, Int.reduceEq, Int.reduceNe, Evid.iv, Evid.c, Place.c, Move.c, Cert.c, Recall.c, Purity.c, Sample.c, Recipe.c, ints, ic]
                  · show s.grams.length - (i + 1) < s.grams.length - i; omega
                  · show i + 1 ≤ s.grams.length; omega
                  · dsimp only; rw [← ha]; simp only [List.append_assoc, List.cons_append, List.nil_append]
                  · dsimp only; simp only [List.length_append, List.length_cons, List.length_nil]; omega
              · skip
                have hlen : ∀ (c : List IV), c ∈ List.map Purity.c ((y :: l)) → c.length = 4 := fun c hc => by
                  obtain ⟨z, _, rfl⟩ := List.mem_map.1 hc; rfl
                simp only [List.map_cons, List.map_nil] at hlen
                simp only [List.length_cons, List.length_nil] at hl'
                simp only [hd, List.getElem?_map, hx, ic, eq_self, go_sem, Int.reduceNegSucc, Nat.reduceAdd, Nat.reduceSub, Nat.reduceMul, Nat.reduceEqDiff, Nat.reduceLeDiff, Nat.reduceLT, Nat.reduceBEq, Nat.reduceBNe, reduceIte, reduceCtorEq, Int.reduceToNat, Int.reduceAdd, Int.reduceSub, Int.reduceMul, Int.reduceNeg, Int.reduceLT, Int.reduceLE, Int.reduceEq, Int.reduceNe, Evid.iv, Evid.c, Place.c, Move.c, Cert.c, Recall.c, Purity.c, Sample.c, Recipe.c, ints, ic]
                refine DrawP_of 10 (by decide +kernel) ?_
                simp only [h3, h4, hS, go_sem, Int.reduceNegSucc, Nat.reduceAdd, Nat.reduceSub, Nat.reduceMul, Nat.reduceEqDiff, Nat.reduceLeDiff, Nat.reduceLT, Nat.reduceBEq, Nat.reduceBNe, reduceIte, reduceCtorEq, Int.reduceToNat, Int.reduceAdd, Int.reduceSub, Int.reduceMul, Int.reduceNeg, Int.reduceLT, Int.reduceLE, Int.reduceEq, Int.reduceNe, Evid.iv, Evid.c, Place.c, Move.c, Cert.c, Recall.c, Purity.c, Sample.c, Recipe.c, ints, ic]
                refine Two_of (fun hm => ?_) (fun hm => ?_)
                · have hpu : purOf s (isum s.grams) i x = ⟨s.move, i, max 0 ((1000 * x).tdiv (isum s.grams) - s.slack), min 1000 ((1000 * x).tdiv (isum s.grams) + 1 + s.slack)⟩ := by simp only [purOf, highF, lowF, hm, if_true]
                  simp only [*, Sample.c, ints, go_sem, Int.reduceNegSucc, Nat.reduceAdd, Nat.reduceSub, Nat.reduceMul, Nat.reduceEqDiff, Nat.reduceLeDiff, Nat.reduceLT, Nat.reduceBEq, Nat.reduceBNe, reduceIte, reduceCtorEq, Int.reduceToNat, Int.reduceAdd, Int.reduceSub, Int.reduceMul, Int.reduceNeg, Int.reduceLT, Int.reduceLE, Int.reduceEq, Int.reduceNe, Evid.iv, Evid.c, Place.c, Move.c, Cert.c, Recall.c, Purity.c, Sample.c, Recipe.c, ints, ic]
                  refine ⟨hlen, by simp, ?_⟩
                  try refine ⟨by omega, ?_⟩
                  refine RoundP_of (i + 1, (y :: l) ++ [purOf s (isum s.grams) i x]) ?_ ?_ ⟨?_, ?_, ?_⟩
                  · simp only [*, Sample.c, ints, Int.natCast_add, eq_self, List.map_append, List.length_append, Purity.c, go_sem, Int.reduceNegSucc, Nat.reduceAdd, Nat.reduceSub, Nat.reduceMul, Nat.reduceEqDiff, Nat.reduceLeDiff, Nat.reduceLT, Nat.reduceBEq, Nat.reduceBNe, reduceIte, reduceCtorEq, Int.reduceToNat, Int.reduceAdd, Int.reduceSub, Int.reduceMul, Int.reduceNeg, Int.reduceLT, Int.reduceLE, Int.reduceEq, Int.reduceNe, Evid.iv, Evid.c, Place.c, Move.c, Cert.c, Recall.c, Purity.c, Sample.c, Recipe.c, ints, ic]
                  · show s.grams.length - (i + 1) < s.grams.length - i; omega
                  · show i + 1 ≤ s.grams.length; omega
                  · dsimp only; rw [← ha]; simp only [List.append_assoc, List.cons_append, List.nil_append]
                  · dsimp only; simp only [List.length_append, List.length_cons, List.length_nil]; omega
                · have hpu : purOf s (isum s.grams) i x = ⟨s.move, i, max 0 ((1000 * x).tdiv (isum s.grams) - s.slack), min 1000 ((1000 * x).tdiv (isum s.grams) + s.slack)⟩ := by simp only [purOf, highF, lowF, hm, if_false, Bool.false_eq_true]
                  simp only [*, Sample.c, ints, go_sem, Int.reduceNegSucc, Nat.reduceAdd, Nat.reduceSub, Nat.reduceMul, Nat.reduceEqDiff, Nat.reduceLeDiff, Nat.reduceLT, Nat.reduceBEq, Nat.reduceBNe, reduceIte, reduceCtorEq, Int.reduceToNat, Int.reduceAdd, Int.reduceSub, Int.reduceMul, Int.reduceNeg, Int.reduceLT, Int.reduceLE, Int.reduceEq, Int.reduceNe, Evid.iv, Evid.c, Place.c, Move.c, Cert.c, Recall.c, Purity.c, Sample.c, Recipe.c, ints, ic]
                  refine ⟨hlen, by simp, ?_⟩
                  try refine ⟨by omega, ?_⟩
                  refine RoundP_of (i + 1, (y :: l) ++ [purOf s (isum s.grams) i x]) ?_ ?_ ⟨?_, ?_, ?_⟩
                  · simp only [*, Sample.c, ints, Int.natCast_add, eq_self, List.map_append, List.length_append, Purity.c, go_sem, Int.reduceNegSucc, Nat.reduceAdd, Nat.reduceSub, Nat.reduceMul, Nat.reduceEqDiff, Nat.reduceLeDiff, Nat.reduceLT, Nat.reduceBEq, Nat.reduceBNe, reduceIte, reduceCtorEq, Int.reduceToNat, Int.reduceAdd, Int.reduceSub, Int.reduceMul, Int.reduceNeg, Int.reduceLT, Int.reduceLE, Int.reduceEq, Int.reduceNe, Evid.iv, Evid.c, Place.c, Move.c, Cert.c, Recall.c, Purity.c, Sample.c, Recipe.c, ints, ic]
                  · show s.grams.length - (i + 1) < s.grams.length - i; omega
                  · show i + 1 ≤ s.grams.length; omega
                  · dsimp only; rw [← ha]; simp only [List.append_assoc, List.cons_append, List.nil_append]
                  · dsimp only; simp only [List.length_append, List.length_cons, List.length_nil]; omega
            · have hd : decide ((i : Int) < s.grams.length) = false := decide_eq_false hp
              rw [List.drop_of_length_le (by omega), purGo, List.append_nil] at ha
              rw [← ha] at hr
              rcases l with _ | ⟨y, l⟩
              · simp only [hd, eq_self, hr, purs, go_sem, Int.reduceNegSucc, Nat.reduceAdd, Nat.reduceSub, Nat.reduceMul, Nat.reduceEqDiff, Nat.reduceLeDiff, Nat.reduceLT, Nat.reduceBEq, Nat.reduceBNe, reduceIte, reduceCtorEq, Int.reduceToNat, Int.reduceAdd, Int.reduceSub, Int.reduceMul, Int.reduceNeg, Int.reduceLT, Int.reduceLE, Int.reduceEq, Int.reduceNe, Evid.iv, Evid.c, Place.c, Move.c, Cert.c, Recall.c, Purity.c, Sample.c, Recipe.c, ints, ic]
              · simp only [hd, eq_self, hr, purs, go_sem, Int.reduceNegSucc, Nat.reduceAdd, Nat.reduceSub, Nat.reduceMul, Nat.reduceEqDiff, Nat.reduceLeDiff, Nat.reduceLT, Nat.reduceBEq, Nat.reduceBNe, reduceIte, reduceCtorEq, Int.reduceToNat, Int.reduceAdd, Int.reduceSub, Int.reduceMul, Int.reduceNeg, Int.reduceLT, Int.reduceLE, Int.reduceEq, Int.reduceNe, Evid.iv, Evid.c, Place.c, Move.c, Cert.c, Recall.c, Purity.c, Sample.c, Recipe.c, ints, ic]
end Go.Proofs.Ytpnlfkaijdjhlaa
