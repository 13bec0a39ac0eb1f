/- A part of the proof: what functions of the program do, and the layer under it. No further condition. -/
import Derived.Test.YtpnlfkaijdjhlaaKM5
import Derived.Test.YtpnlfkaijdjhlaaKD1
namespace Go.Proofs.Ytpnlfkaijdjhlaa
set_option linter.all false
open Go.Abs

theorem t_share (n s : Int) (hn : -1000000000000000 ≤ n ∧ n ≤ 1000000000000000) (hs : s ≠ 0) (hs' : -9223372036854775808 ≤ s ∧ s ≤ 9223372036854775807) :
    Ctr G.P 17 [.int n, .int s] (· = frac (Rat.divInt (1000 * n) s)) := by
  have h := t_off (1000 * n) s hs (by omega) hs'
  have w := i64_ok (n := 1000 * n) (by omega)
  simp only [frac, ints] at h
  refine ctr_go good _ _ [.cell 4 49] Try.func17 rfl rfl (by decide +kernel) rfl ?_
  simp only [w, go_sem, Int.reduceNegSucc, Nat.reduceAdd, Nat.reduceSub, Nat.reduceMul, Nat.reduceEqDiff, Nat.reduceLeDiff, Nat.reduceLT, Nat.reduceBEq, Nat.reduceBNe, reduceIte, reduceCtorEq, Int.reduceToNat, Int.reduceAdd, Int.reduceSub, Int.reduceMul, Int.reduceNeg, Int.reduceLT, Int.reduceLE, Int.reduceEq, Int.reduceNe, ints, ic, big, frac]
  refine CallP_eq h (by decide) ?_
  simp only [go_sem, Int.reduceNegSucc, Nat.reduceAdd, Nat.reduceSub, Nat.reduceMul, Nat.reduceEqDiff, Nat.reduceLeDiff, Nat.reduceLT, Nat.reduceBEq, Nat.reduceBNe, reduceIte, reduceCtorEq, Int.reduceToNat, Int.reduceAdd, Int.reduceSub, Int.reduceMul, Int.reduceNeg, Int.reduceLT, Int.reduceLE, Int.reduceEq, Int.reduceNe, ints, ic, big, frac]
def gramB (n : Int) : Bool := !decide (n < 0) && !decide (1099511627776 < n)
def totalF (l : List Int) : Int := if l.all gramB = true ∧ ¬ (10 < (l.length : Int)) then isum l else 0
theorem isum_le {l : List Int} (h : l.all gramB = true) : 0 ≤ isum l ∧ isum l ≤ 1099511627776 * l.length := by
  induction l with
  | nil => simp [isum]
  | cons x l ih =>
    rw [List.all_cons, Bool.and_eq_true] at h
    have h1 := ih h.2
    have h2 := h.1
    simp [gramB] at h2
    simp only [isum, List.length_cons, Int.natCast_add]
    omega
set_option maxRecDepth 100000 in
theorem t_total (l : List Int) (hl : l.length ≤ 1000000000) : Ctr G.P 16 [ints l] (· = .int (totalF l)) := by
  refine ctr_go good _ _ [.tmp 2] Try.func16 rfl rfl (by decide +kernel) rfl ?_
  simp only [go_sem, Int.reduceNegSucc, Nat.reduceAdd, Nat.reduceSub, Nat.reduceMul, Nat.reduceEqDiff, Nat.reduceLeDiff, Nat.reduceLT, Nat.reduceBEq, Nat.reduceBNe, reduceIte, reduceCtorEq, Int.reduceToNat, Int.reduceAdd, Int.reduceSub, Int.reduceMul, Int.reduceNeg, Int.reduceLT, Int.reduceLE, Int.reduceEq, Int.reduceNe, ints, ic, big, frac]
  refine LoopP_of [0, 3, 4] [] (fun i : Nat => ⟨[(0, .im (.sl (l.map ic))), (3, .im (.int (isum (l.take i)))), (4, .im (.int i))], [], []⟩)
    (fun i => i ≤ l.length ∧ (l.take i).all gramB = true ∧ (0 < i → ¬ 10 < (l.length : Int))) (fun i => l.length - i) 0 ?_ ⟨Nat.zero_le _, rfl, fun h => absurd h (by omega)⟩ ?_
  · simp only [Int.natCast_zero, List.take_zero, isum, go_sem, Int.reduceNegSucc, Nat.reduceAdd, Nat.reduceSub, Nat.reduceMul, Nat.reduceEqDiff, Nat.reduceLeDiff, Nat.reduceLT, Nat.reduceBEq, Nat.reduceBNe, reduceIte, reduceCtorEq, Int.reduceToNat, Int.reduceAdd, Int.reduceSub, Int.reduceMul, Int.reduceNeg, Int.reduceLT, Int.reduceLE, Int.reduceEq, Int.reduceNe, ints, ic, big, frac]
  · intro i ⟨hi, ha, h10⟩
    by_cases hp : (i : Int) < l.length
    · have hd : decide ((i : Int) < l.length) = true := decide_eq_true hp
      have hx := get_nat hp
      have hs := isum_take hx
      have hall : (l.take (i + 1)).all gramB = ((l.take i).all gramB && gramB (dgt l i)) := by
        rw [List.take_add_one, hx, List.all_append]; simp
      have hno : gramB (dgt l i) = false → totalF l = 0 := fun h => by
        have : l.all gramB = false := by
          rw [List.all_eq_false]; exact ⟨_, List.mem_of_getElem? hx, by simp [h]⟩
        simp [totalF, this]
      have h1 := i64_ok (n := (i : Int) + 1) (by omega)
      simp only [hd, List.getElem?_map, hx, go_sem, Int.reduceNegSucc, Nat.reduceAdd, Nat.reduceSub, Nat.reduceMul, Nat.reduceEqDiff, Nat.reduceLeDiff, Nat.reduceLT, Nat.reduceBEq, Nat.reduceBNe, reduceIte, reduceCtorEq, Int.reduceToNat, Int.reduceAdd, Int.reduceSub, Int.reduceMul, Int.reduceNeg, Int.reduceLT, Int.reduceLE, Int.reduceEq, Int.reduceNe, ints, ic, big, frac]
      refine Two_of (fun d1 => ?_) (fun d1 => ?_)
      · rw [hno (by simp [gramB, d1])]
        simp only [d1, go_sem, Int.reduceNegSucc, Nat.reduceAdd, Nat.reduceSub, Nat.reduceMul, Nat.reduceEqDiff, Nat.reduceLeDiff, Nat.reduceLT, Nat.reduceBEq, Nat.reduceBNe, reduceIte, reduceCtorEq, Int.reduceToNat, Int.reduceAdd, Int.reduceSub, Int.reduceMul, Int.reduceNeg, Int.reduceLT, Int.reduceLE, Int.reduceEq, Int.reduceNe, ints, ic, big, frac]
      · simp only [d1, List.getElem?_map, hx, go_sem, Int.reduceNegSucc, Nat.reduceAdd, Nat.reduceSub, Nat.reduceMul, Nat.reduceEqDiff, Nat.reduceLeDiff, Nat.reduceLT, Nat.reduceBEq, Nat.reduceBNe, reduceIte, reduceCtorEq, Int.reduceToNat, Int.reduceAdd, Int.reduceSub, Int.reduceMul, Int.reduceNeg, Int.reduceLT, Int.reduceLE, Int.reduceEq, Int.reduceNe, ints, ic, big, frac]
        refine Two_of (fun d2 => ?_) (fun d2 => ?_)
        · rw [hno (by simp only [gramB, d1, d2]; rfl)]
          simp only [d2, go_sem, Int.reduceNegSucc, Nat.reduceAdd, Nat.reduceSub, Nat.reduceMul, Nat.reduceEqDiff, Nat.reduceLeDiff, Nat.reduceLT, Nat.reduceBEq, Nat.reduceBNe, reduceIte, reduceCtorEq, Int.reduceToNat, Int.reduceAdd, Int.reduceSub, Int.reduceMul, Int.reduceNeg, Int.reduceLT, Int.reduceLE, Int.reduceEq, Int.reduceNe, ints, ic, big, frac]
        · simp only [d1, d2, go_sem, Int.reduceNegSucc, Nat.reduceAdd, Nat.reduceSub, Nat.reduceMul, Nat.reduceEqDiff, Nat.reduceLeDiff, Nat.reduceLT, Nat.reduceBEq, Nat.reduceBNe, reduceIte, reduceCtorEq, Int.reduceToNat, Int.reduceAdd, Int.reduceSub, Int.reduceMul, Int.reduceNeg, Int.reduceLT, Int.reduceLE, Int.reduceEq, Int.reduceNe, ints, ic, big, frac]
          refine Two_dec (fun d3 d3' => ?_) (fun d3 d3' => ?_)
          · have : totalF l = 0 := by simp [totalF, d3']
            rw [this]
            simp only [d3, go_sem, Int.reduceNegSucc, Nat.reduceAdd, Nat.reduceSub, Nat.reduceMul, Nat.reduceEqDiff, Nat.reduceLeDiff, Nat.reduceLT, Nat.reduceBEq, Nat.reduceBNe, reduceIte, reduceCtorEq, Int.reduceToNat, Int.reduceAdd, Int.reduceSub, Int.reduceMul, Int.reduceNeg, Int.reduceLT, Int.reduceLE, Int.reduceEq, Int.reduceNe, ints, ic, big, frac]
          · have hb := isum_le ha
            have hg : gramB (dgt l i) = true := by simp only [gramB, d1, d2]; rfl
            have hg' := hg
            simp [gramB] at hg'
            have hlt : ((l.take i).length : Int) ≤ 10 := by rw [List.length_take]; omega
            have w := i64_ok (n := isum (l.take i) + dgt l i) (by omega)
            simp only [d3, List.getElem?_map, hx, go_sem, Int.reduceNegSucc, Nat.reduceAdd, Nat.reduceSub, Nat.reduceMul, Nat.reduceEqDiff, Nat.reduceLeDiff, Nat.reduceLT, Nat.reduceBEq, Nat.reduceBNe, reduceIte, reduceCtorEq, Int.reduceToNat, Int.reduceAdd, Int.reduceSub, Int.reduceMul, Int.reduceNeg, Int.reduceLT, Int.reduceLE, Int.reduceEq, Int.reduceNe, ints, ic, big, frac]
            refine RoundP_of (i + 1) ?_ (by omega) ⟨by omega, by rw [hall, ha, hg]; rfl, fun _ => d3'⟩
            simp only [w, h1, hs, Int.natCast_add, go_sem, Int.reduceNegSucc, Nat.reduceAdd, Nat.reduceSub, Nat.reduceMul, Nat.reduceEqDiff, Nat.reduceLeDiff, Nat.reduceLT, Nat.reduceBEq, Nat.reduceBNe, reduceIte, reduceCtorEq, Int.reduceToNat, Int.reduceAdd, Int.reduceSub, Int.reduceMul, Int.reduceNeg, Int.reduceLT, Int.reduceLE, Int.reduceEq, Int.reduceNe, ints, ic, big, frac]
    · have hd : decide ((i : Int) < l.length) = false := decide_eq_false hp
      rw [List.take_of_length_le (by omega)] at ha ⊢
      have ht : totalF l = isum l := by
        by_cases h0 : l = []
        · subst h0; simp [totalF, isum]
        · have := List.length_pos_iff.2 h0
          rw [totalF, if_pos ⟨ha, h10 (by omega)⟩]
      simp only [hd, ht, go_sem, Int.reduceNegSucc, Nat.reduceAdd, Nat.reduceSub, Nat.reduceMul, Nat.reduceEqDiff, Nat.reduceLeDiff, Nat.reduceLT, Nat.reduceBEq, Nat.reduceBNe, reduceIte, reduceCtorEq, Int.reduceToNat, Int.reduceAdd, Int.reduceSub, Int.reduceMul, Int.reduceNeg, Int.reduceLT, Int.reduceLE, Int.reduceEq, Int.reduceNe, ints, ic, big, frac]
end Go.Proofs.Ytpnlfkaijdjhlaa
