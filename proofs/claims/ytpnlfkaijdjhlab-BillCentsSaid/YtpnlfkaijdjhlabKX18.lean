/-
  Or of 64 bits without sign on digits. Program-independent. The generic layer under all claims of this repo: numbers, 7.
-/
import Derived.Test.YtpnlfkaijdjhlabKX17
import Derived.Test.YtpnlfkaijdjhlabKX13
namespace Go.Proofs.Ytpnlfkaijdjhlab
set_option linter.all false
open Go.Abs

theorem len_fmod {a b : Int} {k : Nat} (hb : b ≠ 0) (lb : (dig b.natAbs).length ≤ k) : (dig (a.fmod b).natAbs).length ≤ k := by
  refine len_mono ?_ lb
  rcases Int.lt_or_gt_of_ne hb with h | h
  · have h1 : a.fmod b = -((-a).fmod (-b)) := by rw [Int.fmod_def, Int.fmod_def, Int.neg_fdiv_neg, Int.neg_mul]; omega
    have h2 := Int.fmod_lt_of_pos (-a) (b := -b) (by omega)
    have h3 := Int.fmod_nonneg_of_pos (-a) (b := -b) (by omega)
    omega
  · have h2 := Int.fmod_lt_of_pos a h
    have h3 := Int.fmod_nonneg_of_pos a h
    omega
theorem len_fdiv {a b : Int} {k : Nat} (hb : b ≠ 0) (la : (dig a.natAbs).length ≤ k) : (dig (a.fdiv b).natAbs).length ≤ k + 1 := by
  have h0 : a.natAbs / b.natAbs ≤ a.natAbs := Nat.div_le_self _ _
  have one : (dig 1).length ≤ k + 1 := Nat.le_trans (dig_len_le (k := 1) (by decide)) (by omega)
  by_cases h : ¬ a.sign * b.sign < 0 ∨ a.natAbs % b.natAbs = 0
  · have := (fdiv_same hb h).1.1
    rw [← this]
    exact Nat.le_trans (len_mono h0 la) (by omega)
  · simp only [not_or, Classical.not_not] at h
    have := (fdiv_opp h.1 h.2).1.1
    rw [← this]
    refine dig_len_le ?_
    have h1 := val_lt_pow la
    rw [pow_step]
    have h2 : (0 : Int) < 1048576 ^ k := pow_pos' k
    omega
set_option maxRecDepth 100000 in
set_option maxHeartbeats 1000000 in
theorem t_pdivb (a b : Int) (hb : b ≠ 0) (la : (dig a.natAbs).length ≤ 50000) (lb : (dig b.natAbs).length ≤ 50000) : Ctr G.P 60 [big a, big b] (· = .tup [big (a.fdiv b), big (a.fmod b), .int 0]) := by
  have ra := t_prightb a (by omega)
  have rb := t_prightb b (by omega)
  have hbs : decide (b.sign = 0) = false := decide_eq_false fun h => hb (Int.sign_eq_zero_iff_zero.1 h)
  have ho := t_pdiv a.natAbs b.natAbs (by omega) la lb
  have hlq := len_fdiv hb la
  have hlr := len_fmod (a := a) hb lb
  have w := i64_ok (n := a.sign * b.sign) (by rw [← Int.sign_mul]; have := sign_le (a * b); omega)
  have hB : 0 < b.natAbs := by omega
  have hmlt := Nat.mod_lt a.natAbs hB
  by_cases h : ¬ a.sign * b.sign < 0 ∨ a.natAbs % b.natAbs = 0
  · obtain ⟨⟨e1, e2⟩, e3, e4⟩ := fdiv_same hb h
    have hm := t_signed (a.sign * b.sign) (a.fdiv b) (a.natAbs / b.natAbs) e1 e2 (by omega)
    have hm2 := t_signed a.sign (a.fmod b) (a.natAbs % b.natAbs) e3 e4 (by omega)
    refine ctr_go good _ _ [.cell 4 24, .cell 5 24, .tmp 6] Try.func60 rfl rfl (by decide +kernel) rfl ?_
    simp only [go_sem, Int.reduceNegSucc, Nat.reduceAdd, Nat.reduceSub, Nat.reduceMul, Nat.reduceEqDiff, Nat.reduceLeDiff, Nat.reduceLT, Nat.reduceBEq, Nat.reduceBNe, reduceIte, reduceCtorEq, Int.reduceToNat, Int.reduceAdd, Int.reduceSub, Int.reduceMul, Int.reduceNeg, Int.reduceLT, Int.reduceLE, Int.reduceEq, Int.reduceNe, ints, ic, big]
    refine CallP_eq ra (by decide) ?_
    simp only [go_sem, Int.reduceNegSucc, Nat.reduceAdd, Nat.reduceSub, Nat.reduceMul, Nat.reduceEqDiff, Nat.reduceLeDiff, Nat.reduceLT, Nat.reduceBEq, Nat.reduceBNe, reduceIte, reduceCtorEq, Int.reduceToNat, Int.reduceAdd, Int.reduceSub, Int.reduceMul, Int.reduceNeg, Int.reduceLT, Int.reduceLE, Int.reduceEq, Int.reduceNe, ints, ic, big]
    refine CallP_eq rb (by decide) ?_
    simp only [hbs, go_sem, Int.reduceNegSucc, Nat.reduceAdd, Nat.reduceSub, Nat.reduceMul, Nat.reduceEqDiff, Nat.reduceLeDiff, Nat.reduceLT, Nat.reduceBEq, Nat.reduceBNe, reduceIte, reduceCtorEq, Int.reduceToNat, Int.reduceAdd, Int.reduceSub, Int.reduceMul, Int.reduceNeg, Int.reduceLT, Int.reduceLE, Int.reduceEq, Int.reduceNe, ints, ic, big]
    refine CallP_eq ho (by decide) ?_
    simp only [w, go_sem, Int.reduceNegSucc, Nat.reduceAdd, Nat.reduceSub, Nat.reduceMul, Nat.reduceEqDiff, Nat.reduceLeDiff, Nat.reduceLT, Nat.reduceBEq, Nat.reduceBNe, reduceIte, reduceCtorEq, Int.reduceToNat, Int.reduceAdd, Int.reduceSub, Int.reduceMul, Int.reduceNeg, Int.reduceLT, Int.reduceLE, Int.reduceEq, Int.reduceNe, ints, ic, big]
    refine Two_dec (fun d d' => ?_) (fun d d' => ?_)
    · have hz := h.resolve_left (fun h => h d')
      rw [hz, dig_zero] at hm2
      simp only [d, hz, dig_zero, List.map_nil, List.length_nil, Int.natCast_zero, Int.lt_irrefl, go_sem, Int.reduceNegSucc, Nat.reduceAdd, Nat.reduceSub, Nat.reduceMul, Nat.reduceEqDiff, Nat.reduceLeDiff, Nat.reduceLT, Nat.reduceBEq, Nat.reduceBNe, reduceIte, reduceCtorEq, Int.reduceToNat, Int.reduceAdd, Int.reduceSub, Int.reduceMul, Int.reduceNeg, Int.reduceLT, Int.reduceLE, Int.reduceEq, Int.reduceNe, ints, ic, big]
      refine DrawS_of (by decide +kernel) ?_
      simp only [w, go_sem, Int.reduceNegSucc, Nat.reduceAdd, Nat.reduceSub, Nat.reduceMul, Nat.reduceEqDiff, Nat.reduceLeDiff, Nat.reduceLT, Nat.reduceBEq, Nat.reduceBNe, reduceIte, reduceCtorEq, Int.reduceToNat, Int.reduceAdd, Int.reduceSub, Int.reduceMul, Int.reduceNeg, Int.reduceLT, Int.reduceLE, Int.reduceEq, Int.reduceNe, ints, ic, big]
      refine CallD_eq hm (by decide) ?_
      simp only [go_sem, Int.reduceNegSucc, Nat.reduceAdd, Nat.reduceSub, Nat.reduceMul, Nat.reduceEqDiff, Nat.reduceLeDiff, Nat.reduceLT, Nat.reduceBEq, Nat.reduceBNe, reduceIte, reduceCtorEq, Int.reduceToNat, Int.reduceAdd, Int.reduceSub, Int.reduceMul, Int.reduceNeg, Int.reduceLT, Int.reduceLE, Int.reduceEq, Int.reduceNe, ints, ic, big]
      refine CallD_eq hm2 (by decide) ?_
      simp only [go_sem, Int.reduceNegSucc, Nat.reduceAdd, Nat.reduceSub, Nat.reduceMul, Nat.reduceEqDiff, Nat.reduceLeDiff, Nat.reduceLT, Nat.reduceBEq, Nat.reduceBNe, reduceIte, reduceCtorEq, Int.reduceToNat, Int.reduceAdd, Int.reduceSub, Int.reduceMul, Int.reduceNeg, Int.reduceLT, Int.reduceLE, Int.reduceEq, Int.reduceNe, ints, ic, big]
    · simp only [d, go_sem, Int.reduceNegSucc, Nat.reduceAdd, Nat.reduceSub, Nat.reduceMul, Nat.reduceEqDiff, Nat.reduceLeDiff, Nat.reduceLT, Nat.reduceBEq, Nat.reduceBNe, reduceIte, reduceCtorEq, Int.reduceToNat, Int.reduceAdd, Int.reduceSub, Int.reduceMul, Int.reduceNeg, Int.reduceLT, Int.reduceLE, Int.reduceEq, Int.reduceNe, ints, ic, big]
      refine DrawS_of (by decide +kernel) ?_
      simp only [w, go_sem, Int.reduceNegSucc, Nat.reduceAdd, Nat.reduceSub, Nat.reduceMul, Nat.reduceEqDiff, Nat.reduceLeDiff, Nat.reduceLT, Nat.reduceBEq, Nat.reduceBNe, reduceIte, reduceCtorEq, Int.reduceToNat, Int.reduceAdd, Int.reduceSub, Int.reduceMul, Int.reduceNeg, Int.reduceLT, Int.reduceLE, Int.reduceEq, Int.reduceNe, ints, ic, big]
      refine CallD_eq hm (by decide) ?_
      simp only [go_sem, Int.reduceNegSucc, Nat.reduceAdd, Nat.reduceSub, Nat.reduceMul, Nat.reduceEqDiff, Nat.reduceLeDiff, Nat.reduceLT, Nat.reduceBEq, Nat.reduceBNe, reduceIte, reduceCtorEq, Int.reduceToNat, Int.reduceAdd, Int.reduceSub, Int.reduceMul, Int.reduceNeg, Int.reduceLT, Int.reduceLE, Int.reduceEq, Int.reduceNe, ints, ic, big]
      refine CallD_eq hm2 (by decide) ?_
      simp only [go_sem, Int.reduceNegSucc, Nat.reduceAdd, Nat.reduceSub, Nat.reduceMul, Nat.reduceEqDiff, Nat.reduceLeDiff, Nat.reduceLT, Nat.reduceBEq, Nat.reduceBNe, reduceIte, reduceCtorEq, Int.reduceToNat, Int.reduceAdd, Int.reduceSub, Int.reduceMul, Int.reduceNeg, Int.reduceLT, Int.reduceLE, Int.reduceEq, Int.reduceNe, ints, ic, big]
  · simp only [not_or, Classical.not_not] at h
    obtain ⟨hs, hr⟩ := h
    obtain ⟨⟨e1, e2⟩, e3, e4⟩ := fdiv_opp hs hr
    have hd : decide (a.sign * b.sign < 0) = true := decide_eq_true hs
    have hlen : decide (0 < ((dig (a.natAbs % b.natAbs)).length : Int)) = true := decide_eq_true (by
      have : dig (a.natAbs % b.natAbs) ≠ [] := fun h => hr (dig_nil.1 h)
      have := List.length_pos_iff.2 this
      omega)
    have hle : (dig (a.natAbs / b.natAbs)).length ≤ 50000 := len_mono (Nat.div_le_self _ _) la
    have hle2 : (dig (a.natAbs % b.natAbs)).length ≤ 50000 := len_mono (by omega) lb
    have hone : OkD [1] := OkD.cons (by omega) OkD.nil
    have hp := t_padd (dig (a.natAbs / b.natAbs)) [1] (dig_ok _) hone (by omega) (by simp)
    rw [val_dig, val_one, show ((a.natAbs / b.natAbs : Nat) + 1 : Int).toNat = a.natAbs / b.natAbs + 1 by omega] at hp
    simp only [ints, ic, List.map_cons, List.map_nil] at hp
    have hq := t_psub (dig b.natAbs) (dig (a.natAbs % b.natAbs)) (dig_ok _) (dig_ok _) (by rw [val_dig, val_dig]; omega) (by omega) (by omega)
    rw [val_dig, val_dig, show ((b.natAbs : Int) - (a.natAbs % b.natAbs : Nat)).toNat = b.natAbs - a.natAbs % b.natAbs by omega] at hq
    have hm := t_signed (-1) (a.fdiv b) (a.natAbs / b.natAbs + 1) e1 e2 (by omega)
    have hm2 := t_signed b.sign (a.fmod b) (b.natAbs - a.natAbs % b.natAbs) e3 e4 (by omega)
    refine ctr_go good _ _ [.cell 4 24, .cell 5 24, .tmp 6] Try.func60 rfl rfl (by decide +kernel) rfl ?_
    simp only [go_sem, Int.reduceNegSucc, Nat.reduceAdd, Nat.reduceSub, Nat.reduceMul, Nat.reduceEqDiff, Nat.reduceLeDiff, Nat.reduceLT, Nat.reduceBEq, Nat.reduceBNe, reduceIte, reduceCtorEq, Int.reduceToNat, Int.reduceAdd, Int.reduceSub, Int.reduceMul, Int.reduceNeg, Int.reduceLT, Int.reduceLE, Int.reduceEq, Int.reduceNe, ints, ic, big]
    refine CallP_eq ra (by decide) ?_
    simp only [go_sem, Int.reduceNegSucc, Nat.reduceAdd, Nat.reduceSub, Nat.reduceMul, Nat.reduceEqDiff, Nat.reduceLeDiff, Nat.reduceLT, Nat.reduceBEq, Nat.reduceBNe, reduceIte, reduceCtorEq, Int.reduceToNat, Int.reduceAdd, Int.reduceSub, Int.reduceMul, Int.reduceNeg, Int.reduceLT, Int.reduceLE, Int.reduceEq, Int.reduceNe, ints, ic, big]
    refine CallP_eq rb (by decide) ?_
    simp only [hbs, go_sem, Int.reduceNegSucc, Nat.reduceAdd, Nat.reduceSub, Nat.reduceMul, Nat.reduceEqDiff, Nat.reduceLeDiff, Nat.reduceLT, Nat.reduceBEq, Nat.reduceBNe, reduceIte, reduceCtorEq, Int.reduceToNat, Int.reduceAdd, Int.reduceSub, Int.reduceMul, Int.reduceNeg, Int.reduceLT, Int.reduceLE, Int.reduceEq, Int.reduceNe, ints, ic, big]
    refine CallP_eq ho (by decide) ?_
    simp only [w, hd, hlen, go_sem, Int.reduceNegSucc, Nat.reduceAdd, Nat.reduceSub, Nat.reduceMul, Nat.reduceEqDiff, Nat.reduceLeDiff, Nat.reduceLT, Nat.reduceBEq, Nat.reduceBNe, reduceIte, reduceCtorEq, Int.reduceToNat, Int.reduceAdd, Int.reduceSub, Int.reduceMul, Int.reduceNeg, Int.reduceLT, Int.reduceLE, Int.reduceEq, Int.reduceNe, ints, ic, big]
    refine DrawS_of (by decide +kernel) ?_
    simp only [w, go_sem, Int.reduceNegSucc, Nat.reduceAdd, Nat.reduceSub, Nat.reduceMul, Nat.reduceEqDiff, Nat.reduceLeDiff, Nat.reduceLT, Nat.reduceBEq, Nat.reduceBNe, reduceIte, reduceCtorEq, Int.reduceToNat, Int.reduceAdd, Int.reduceSub, Int.reduceMul, Int.reduceNeg, Int.reduceLT, Int.reduceLE, Int.reduceEq, Int.reduceNe, ints, ic, big]
    refine CallD_eq hp (by decide) ?_
    simp only [go_sem, Int.reduceNegSucc, Nat.reduceAdd, Nat.reduceSub, Nat.reduceMul, Nat.reduceEqDiff, Nat.reduceLeDiff, Nat.reduceLT, Nat.reduceBEq, Nat.reduceBNe, reduceIte, reduceCtorEq, Int.reduceToNat, Int.reduceAdd, Int.reduceSub, Int.reduceMul, Int.reduceNeg, Int.reduceLT, Int.reduceLE, Int.reduceEq, Int.reduceNe, ints, ic, big]
    refine CallD_eq hm (by decide) ?_
    simp only [go_sem, Int.reduceNegSucc, Nat.reduceAdd, Nat.reduceSub, Nat.reduceMul, Nat.reduceEqDiff, Nat.reduceLeDiff, Nat.reduceLT, Nat.reduceBEq, Nat.reduceBNe, reduceIte, reduceCtorEq, Int.reduceToNat, Int.reduceAdd, Int.reduceSub, Int.reduceMul, Int.reduceNeg, Int.reduceLT, Int.reduceLE, Int.reduceEq, Int.reduceNe, ints, ic, big]
    refine CallD_eq hq (by decide) ?_
    simp only [go_sem, Int.reduceNegSucc, Nat.reduceAdd, Nat.reduceSub, Nat.reduceMul, Nat.reduceEqDiff, Nat.reduceLeDiff, Nat.reduceLT, Nat.reduceBEq, Nat.reduceBNe, reduceIte, reduceCtorEq, Int.reduceToNat, Int.reduceAdd, Int.reduceSub, Int.reduceMul, Int.reduceNeg, Int.reduceLT, Int.reduceLE, Int.reduceEq, Int.reduceNe, ints, ic, big]
    refine CallD_eq hm2 (by decide) ?_
    simp only [go_sem, Int.reduceNegSucc, Nat.reduceAdd, Nat.reduceSub, Nat.reduceMul, Nat.reduceEqDiff, Nat.reduceLeDiff, Nat.reduceLT, Nat.reduceBEq, Nat.reduceBNe, reduceIte, reduceCtorEq, Int.reduceToNat, Int.reduceAdd, Int.reduceSub, Int.reduceMul, Int.reduceNeg, Int.reduceLT, Int.reduceLE, Int.reduceEq, Int.reduceNe, ints, ic, big]
set_option maxRecDepth 100000 in
theorem t_pgcd (a b : Int) (la : (dig a.natAbs).length ≤ 50000) (lb : (dig b.natAbs).length ≤ 50000) : Ctr G.P 44 [big a, big b] (· = .tup [big (Nat.gcd a.natAbs b.natAbs : Nat), .int 0]) := by
  have ra := t_prightb a (by omega)
  have rb := t_prightb b (by omega)
  have hcl := t_clone (dig a.natAbs) (by omega)
  refine ctr_go good _ _ [.cell 4 24, .tmp 5] Try.func44 rfl rfl (by decide +kernel) rfl ?_
  simp only [go_sem, Int.reduceNegSucc, Nat.reduceAdd, Nat.reduceSub, Nat.reduceMul, Nat.reduceEqDiff, Nat.reduceLeDiff, Nat.reduceLT, Nat.reduceBEq, Nat.reduceBNe, reduceIte, reduceCtorEq, Int.reduceToNat, Int.reduceAdd, Int.reduceSub, Int.reduceMul, Int.reduceNeg, Int.reduceLT, Int.reduceLE, Int.reduceEq, Int.reduceNe, ints, ic, big]
  refine CallP_eq ra (by decide) ?_
  simp only [go_sem, Int.reduceNegSucc, Nat.reduceAdd, Nat.reduceSub, Nat.reduceMul, Nat.reduceEqDiff, Nat.reduceLeDiff, Nat.reduceLT, Nat.reduceBEq, Nat.reduceBNe, reduceIte, reduceCtorEq, Int.reduceToNat, Int.reduceAdd, Int.reduceSub, Int.reduceMul, Int.reduceNeg, Int.reduceLT, Int.reduceLE, Int.reduceEq, Int.reduceNe, ints, ic, big]
  refine CallP_eq rb (by decide) ?_
  simp only [go_sem, Int.reduceNegSucc, Nat.reduceAdd, Nat.reduceSub, Nat.reduceMul, Nat.reduceEqDiff, Nat.reduceLeDiff, Nat.reduceLT, Nat.reduceBEq, Nat.reduceBNe, reduceIte, reduceCtorEq, Int.reduceToNat, Int.reduceAdd, Int.reduceSub, Int.reduceMul, Int.reduceNeg, Int.reduceLT, Int.reduceLE, Int.reduceEq, Int.reduceNe, ints, ic, big]
  refine DrawP_of 7 (by decide +kernel) ?_
  simp only [go_sem, Int.reduceNegSucc, Nat.reduceAdd, Nat.reduceSub, Nat.reduceMul, Nat.reduceEqDiff, Nat.reduceLeDiff, Nat.reduceLT, Nat.reduceBEq, Nat.reduceBNe, reduceIte, reduceCtorEq, Int.reduceToNat, Int.reduceAdd, Int.reduceSub, Int.reduceMul, Int.reduceNeg, Int.reduceLT, Int.reduceLE, Int.reduceEq, Int.reduceNe, ints, ic, big]
  refine CallD_eq hcl (by decide) ?_
  simp only [go_sem, Int.reduceNegSucc, Nat.reduceAdd, Nat.reduceSub, Nat.reduceMul, Nat.reduceEqDiff, Nat.reduceLeDiff, Nat.reduceLT, Nat.reduceBEq, Nat.reduceBNe, reduceIte, reduceCtorEq, Int.reduceToNat, Int.reduceAdd, Int.reduceSub, Int.reduceMul, Int.reduceNeg, Int.reduceLT, Int.reduceLE, Int.reduceEq, Int.reduceNe, ints, ic, big]
  refine LoopP_of [4, 6, 7] [4] (fun g : Nat × Nat => ⟨[(4, .loc 4 2 0 0), (6, .im (.sl ((dig g.1).map ic))), (7, .im (.sl ((dig g.2).map ic)))], [(4, 2, [[.int 0, .sl []]])], []⟩)
    (fun g => Nat.gcd g.1 g.2 = Nat.gcd a.natAbs b.natAbs ∧ (dig g.1).length ≤ 50000 ∧ (dig g.2).length ≤ 50000) (fun g => g.2) (a.natAbs, b.natAbs) ?_ ⟨rfl, la, lb⟩ ?_
  · simp only [go_sem, Int.reduceNegSucc, Nat.reduceAdd, Nat.reduceSub, Nat.reduceMul, Nat.reduceEqDiff, Nat.reduceLeDiff, Nat.reduceLT, Nat.reduceBEq, Nat.reduceBNe, reduceIte, reduceCtorEq, Int.reduceToNat, Int.reduceAdd, Int.reduceSub, Int.reduceMul, Int.reduceNeg, Int.reduceLT, Int.reduceLE, Int.reduceEq, Int.reduceNe, ints, ic, big]
  · intro ⟨x, y⟩ ⟨hg, lx, ly⟩
    dsimp only at hg lx ly
    by_cases hy : y = 0
    · subst hy
      rw [Nat.gcd_zero_right] at hg
      rw [← hg]
      have hm := t_signed 1 x x (by omega) (fun h => (Int.sign_eq_one_of_pos (by omega)).symm) (by rw [Int.natAbs_natCast]; omega)
      have hc := t_checked x
      have hcx := t_clone (dig x) (by omega)
      simp only [dig_zero, List.map_nil, go_sem, Int.reduceNegSucc, Nat.reduceAdd, Nat.reduceSub, Nat.reduceMul, Nat.reduceEqDiff, Nat.reduceLeDiff, Nat.reduceLT, Nat.reduceBEq, Nat.reduceBNe, reduceIte, reduceCtorEq, Int.reduceToNat, Int.reduceAdd, Int.reduceSub, Int.reduceMul, Int.reduceNeg, Int.reduceLT, Int.reduceLE, Int.reduceEq, Int.reduceNe, ints, ic, big]
      refine CallP_eq hcx (by decide) ?_
      simp only [go_sem, Int.reduceNegSucc, Nat.reduceAdd, Nat.reduceSub, Nat.reduceMul, Nat.reduceEqDiff, Nat.reduceLeDiff, Nat.reduceLT, Nat.reduceBEq, Nat.reduceBNe, reduceIte, reduceCtorEq, Int.reduceToNat, Int.reduceAdd, Int.reduceSub, Int.reduceMul, Int.reduceNeg, Int.reduceLT, Int.reduceLE, Int.reduceEq, Int.reduceNe, ints, ic, big]
      refine CallP_eq hm (by decide) ?_
      simp only [go_sem, Int.reduceNegSucc, Nat.reduceAdd, Nat.reduceSub, Nat.reduceMul, Nat.reduceEqDiff, Nat.reduceLeDiff, Nat.reduceLT, Nat.reduceBEq, Nat.reduceBNe, reduceIte, reduceCtorEq, Int.reduceToNat, Int.reduceAdd, Int.reduceSub, Int.reduceMul, Int.reduceNeg, Int.reduceLT, Int.reduceLE, Int.reduceEq, Int.reduceNe, ints, ic, big]
      refine CallP_eq hc (by decide) ?_
      simp only [go_sem, Int.reduceNegSucc, Nat.reduceAdd, Nat.reduceSub, Nat.reduceMul, Nat.reduceEqDiff, Nat.reduceLeDiff, Nat.reduceLT, Nat.reduceBEq, Nat.reduceBNe, reduceIte, reduceCtorEq, Int.reduceToNat, Int.reduceAdd, Int.reduceSub, Int.reduceMul, Int.reduceNeg, Int.reduceLT, Int.reduceLE, Int.reduceEq, Int.reduceNe, ints, ic, big]
    · have hne : dig y ≠ [] := fun h => hy (dig_nil.1 h)
      have hlp := List.length_pos_iff.2 hne
      have hd : decide (0 < ((dig y).length : Int)) = true := decide_eq_true (by omega)
      have ho := t_pdiv x y (by omega) (by omega) ly
      have hlt := Nat.mod_lt x (by omega : y > 0)
      simp only [hd, go_sem, Int.reduceNegSucc, Nat.reduceAdd, Nat.reduceSub, Nat.reduceMul, Nat.reduceEqDiff, Nat.reduceLeDiff, Nat.reduceLT, Nat.reduceBEq, Nat.reduceBNe, reduceIte, reduceCtorEq, Int.reduceToNat, Int.reduceAdd, Int.reduceSub, Int.reduceMul, Int.reduceNeg, Int.reduceLT, Int.reduceLE, Int.reduceEq, Int.reduceNe, ints, ic, big]
      refine CallP_eq ho (by decide) ?_
      simp only [go_sem, Int.reduceNegSucc, Nat.reduceAdd, Nat.reduceSub, Nat.reduceMul, Nat.reduceEqDiff, Nat.reduceLeDiff, Nat.reduceLT, Nat.reduceBEq, Nat.reduceBNe, reduceIte, reduceCtorEq, Int.reduceToNat, Int.reduceAdd, Int.reduceSub, Int.reduceMul, Int.reduceNeg, Int.reduceLT, Int.reduceLE, Int.reduceEq, Int.reduceNe, ints, ic, big]
      refine RoundP_of (y, x % y) ?_ hlt ⟨?_, ly, len_mono (by omega) ly⟩
      · simp only [go_sem, Int.reduceNegSucc, Nat.reduceAdd, Nat.reduceSub, Nat.reduceMul, Nat.reduceEqDiff, Nat.reduceLeDiff, Nat.reduceLT, Nat.reduceBEq, Nat.reduceBNe, reduceIte, reduceCtorEq, Int.reduceToNat, Int.reduceAdd, Int.reduceSub, Int.reduceMul, Int.reduceNeg, Int.reduceLT, Int.reduceLE, Int.reduceEq, Int.reduceNe, ints, ic, big]
      · show Nat.gcd y (x % y) = _
        rw [← hg, Nat.gcd_comm x y, Nat.gcd_rec y x, Nat.gcd_comm]
end Go.Proofs.Ytpnlfkaijdjhlab

namespace Go.Abs
set_option linter.all false

theorem u64_in (n : Int) (h : 0 ≤ n ∧ n < 18446744073709551616) : IntKind.u64.wrap n = n := by
  have := IntWalk.u64_in n (by omega)
  exact this
theorem orU (u d : Int) (s : Nat) (hu : 0 ≤ u ∧ u < 2 ^ s) (hd : 0 ≤ d) (hs : d * 2 ^ s < 18446744073709551616) (hs2 : (2 : Int) ^ s < 18446744073709551616) : bits .or .u64 u (d * 2 ^ s) = u + d * 2 ^ s := by
  have hp : (0 : Int) < 2 ^ s := Int.pow_pos (by decide)
  have hm : 0 ≤ d * 2 ^ s := Int.mul_nonneg hd (by omega)
  have e1 : (d * 2 ^ s).toNat = 2 ^ s * d.toNat := by
    have h1 : ((2 ^ s * d.toNat : Nat) : Int) = d * 2 ^ s := by
      rw [Int.natCast_mul, Int.natCast_pow, Int.toNat_of_nonneg hd, Int.mul_comm]; rfl
    omega
  have e2 : u.toNat < 2 ^ s := by
    have h1 : ((2 ^ s : Nat) : Int) = 2 ^ s := by rw [Int.natCast_pow]; rfl
    omega
  have e3 : (BitVec.ofInt 64 u ||| BitVec.ofInt 64 (d * 2 ^ s)).toNat = (u + d * 2 ^ s).toNat := by
    rw [BitVec.toNat_or, ofInt_toNat, ofInt_toNat, Int.emod_eq_of_lt (by omega) (by omega), Int.emod_eq_of_lt (by omega) (by omega), e1, Nat.or_comm, ← Nat.two_pow_add_eq_or_of_lt e2]
    omega
  have h2 : bits .or .u64 u (d * 2 ^ s) = IntKind.u64.wrap ((BitVec.ofInt 64 u ||| BitVec.ofInt 64 (d * 2 ^ s)).toNat : Nat) := rfl
  rw [h2, e3, Int.toNat_of_nonneg (by omega)]
  refine u64_in _ ⟨by omega, ?_⟩
  have hlt : u + d * 2 ^ s < (d + 1) * 2 ^ s := by rw [Int.add_mul]; omega
  have : (BitVec.ofInt 64 u ||| BitVec.ofInt 64 (d * 2 ^ s)).toNat < 2 ^ 64 := BitVec.isLt _
  rw [e3] at this
  omega
theorem pow20 (i : Nat) : (2 : Int) ^ (20 * i) = 1048576 ^ i := by
  rw [Int.pow_mul]; rfl
/-- One digit more. -/
theorem or_digit {u d : Int} {i : Nat} (hi : i < 4) (hu : 0 ≤ u ∧ u < 1048576 ^ i) (hd : 0 ≤ d ∧ d < 1048576) (h3 : i = 3 → d ≤ 8) :
    IntKind.u64.wrap (IntKind.u64.wrap d * 2 ^ min (20 * (i : Int)).toNat 64) = d * 1048576 ^ i ∧ bits .or .u64 u (d * 1048576 ^ i) = u + d * 1048576 ^ i := by
  rw [u64_in d (by omega), show min (20 * (i : Int)).toNat 64 = 20 * i by omega, ← pow20] at *
  have hs : d * 2 ^ (20 * i) < 18446744073709551616 ∧ (2 : Int) ^ (20 * i) < 18446744073709551616 := by
    rw [pow20]
    have : i = 0 ∨ i = 1 ∨ i = 2 ∨ i = 3 := by omega
    rcases this with e | e | e | e <;> subst e <;> simp at h3 ⊢ <;> omega
  exact ⟨u64_in _ ⟨Int.mul_nonneg hd.1 (Int.le_of_lt (Int.pow_pos (by decide))), hs.1⟩, orU u d (20 * i) hu hd.1 hs.1 hs.2⟩
end Go.Abs

namespace Go.Proofs.Ytpnlfkaijdjhlab
set_option linter.all false
open Go.Abs

/-- Whether a number is an int. -/
def fits (z : Int) : Bool := decide (-9223372036854775808 ≤ z) && decide (z ≤ 9223372036854775807)
def intF (z : Int) : Int := if fits z = true then z else 0
theorem val_ge {l : List Int} (h : OkD l) (i : Nat) : 1048576 ^ i * dgt l i ≤ val l := by
  have h1 := val_split l i
  have h2 := val_drop l i
  have h3 := val_nonneg (h.take i)
  have h4 := val_nonneg (h.drop (i + 1))
  rw [h2, Int.mul_add] at h1
  have h5 : (0 : Int) ≤ 1048576 ^ i * (1048576 * val (l.drop (i + 1))) := Int.mul_nonneg (Int.le_of_lt (pow_pos' i)) (by omega)
  omega
theorem last_ne {n : Nat} (h : dig n ≠ []) : 1 ≤ dgt (dig n) ((dig n).length - 1) := by
  have h3 := last_dig n
  have hp := List.length_pos_iff.2 h
  rw [List.getLast?_eq_getElem?, get_nat (l := dig n) (by omega)] at h3
  have h4 := (dig_ok n).dgt ((dig n).length - 1)
  have h5 : dgt (dig n) ((dig n).length - 1) ≠ 0 := fun e => h3 (by rw [e])
  omega
theorem long_big {z : Int} (h : ¬ (dig z.natAbs).length ≤ 4) : fits z = false := by
  have h1 := last_ne (n := z.natAbs) (fun e => h (by rw [e]; simp))
  have h2 := val_ge (dig_ok z.natAbs) ((dig z.natAbs).length - 1)
  rw [val_dig] at h2
  have h3 : (1048576 : Int) ^ 4 ≤ 1048576 ^ ((dig z.natAbs).length - 1) := by
    have h6 := Int.ofNat_le.2 (Nat.pow_le_pow_right (n := 1048576) (by omega) (show 4 ≤ (dig z.natAbs).length - 1 by omega))
    rw [Int.natCast_pow, Int.natCast_pow] at h6; exact h6
  have h4 : (1048576 : Int) ^ ((dig z.natAbs).length - 1) * 1 ≤ 1048576 ^ ((dig z.natAbs).length - 1) * dgt (dig z.natAbs) ((dig z.natAbs).length - 1) := Int.mul_le_mul_of_nonneg_left h1 (Int.le_of_lt (pow_pos' _))
  rw [fits, Bool.and_eq_false_iff, decide_eq_false_iff_not, decide_eq_false_iff_not]
  omega
theorem top_big {z : Int} (h : ¬ dgt (dig z.natAbs) 3 ≤ 8) : fits z = false := by
  have h2 := val_ge (dig_ok z.natAbs) 3
  rw [val_dig] at h2
  rw [fits, Bool.and_eq_false_iff, decide_eq_false_iff_not, decide_eq_false_iff_not]
  omega
theorem fits_no {z : Int} (h : fits z = false) : intF z = 0 := by rw [intF, h]; rfl
theorem fits_yes {z : Int} (h : fits z = true) : intF z = z := by rw [intF, h]; rfl
theorem u64_neg {n : Int} (h : 0 ≤ n ∧ n ≤ 9223372036854775808) : IntKind.i64.wrap (IntKind.u64.wrap (0 - n)) = 0 - n := by
  rw [IntKind.wrap_i64, IntKind.wrap_u64]; omega
set_option maxRecDepth 100000 in
set_option maxHeartbeats 1000000 in
theorem t_pint (z : Int) (lz : (dig z.natAbs).length ≤ 1000000) : Ctr G.P 37 [big z] (· = .tup [.int (intF z), .bool (fits z)]) := by
  have rz := t_prightb z (by omega)
  by_cases hl : (dig z.natAbs).length ≤ 4
  case neg =>
    have hd : decide (4 < ((dig z.natAbs).length : Int)) = true := decide_eq_true (by omega)
    rw [fits_no (long_big hl), long_big hl]
    refine ctr_go good _ _ [.tmp 2, .tmp 3] Try.func37 rfl rfl (by decide +kernel) rfl ?_
    simp only [go_sem, Int.reduceNegSucc, Nat.reduceAdd, Nat.reduceSub, Nat.reduceMul, Nat.reduceEqDiff, Nat.reduceLeDiff, Nat.reduceLT, Nat.reduceBEq, Nat.reduceBNe, reduceIte, reduceCtorEq, Int.reduceToNat, Int.reduceAdd, Int.reduceSub, Int.reduceMul, Int.reduceNeg, Int.reduceLT, Int.reduceLE, Int.reduceEq, Int.reduceNe, ints, ic, big]
    refine CallP_eq rz (by decide) ?_
    simp only [hd, go_sem, Int.reduceNegSucc, Nat.reduceAdd, Nat.reduceSub, Nat.reduceMul, Nat.reduceEqDiff, Nat.reduceLeDiff, Nat.reduceLT, Nat.reduceBEq, Nat.reduceBNe, reduceIte, reduceCtorEq, Int.reduceToNat, Int.reduceAdd, Int.reduceSub, Int.reduceMul, Int.reduceNeg, Int.reduceLT, Int.reduceLE, Int.reduceEq, Int.reduceNe, ints, ic, big]
  case pos =>
    have hd : decide (4 < ((dig z.natAbs).length : Int)) = false := decide_eq_false (by omega)
    have hok := dig_ok z.natAbs
    have hz := val_dig z.natAbs
    have htop := top_big (z := z)
    refine ctr_go good _ _ [.tmp 2, .tmp 3] Try.func37 rfl rfl (by decide +kernel) rfl ?_
    simp only [go_sem, Int.reduceNegSucc, Nat.reduceAdd, Nat.reduceSub, Nat.reduceMul, Nat.reduceEqDiff, Nat.reduceLeDiff, Nat.reduceLT, Nat.reduceBEq, Nat.reduceBNe, reduceIte, reduceCtorEq, Int.reduceToNat, Int.reduceAdd, Int.reduceSub, Int.reduceMul, Int.reduceNeg, Int.reduceLT, Int.reduceLE, Int.reduceEq, Int.reduceNe, ints, ic, big]
    refine CallP_eq rz (by decide) ?_
    simp only [hd, go_sem, Int.reduceNegSucc, Nat.reduceAdd, Nat.reduceSub, Nat.reduceMul, Nat.reduceEqDiff, Nat.reduceLeDiff, Nat.reduceLT, Nat.reduceBEq, Nat.reduceBNe, reduceIte, reduceCtorEq, Int.reduceToNat, Int.reduceAdd, Int.reduceSub, Int.reduceMul, Int.reduceNeg, Int.reduceLT, Int.reduceLE, Int.reduceEq, Int.reduceNe, ints, ic, big]
    refine LoopP_of [1, 4, 17, 18, 19] [1] (fun i : Nat => ⟨[(1, .loc 1 2 0 0), (4, .im (.sc (.int .u64 (val ((dig z.natAbs).take i))))), (17, .im (.sl ((dig z.natAbs).map ic))), (18, .im (.int (dig z.natAbs).length)), (19, .im (.int i))], [(1, 2, [[.int z.sign, ints (dig z.natAbs)]])], []⟩)
      (fun i => i ≤ (dig z.natAbs).length ∧ (i = 4 → dgt (dig z.natAbs) 3 ≤ 8)) (fun i => (dig z.natAbs).length - i) 0 ?_ ⟨Nat.zero_le _, fun h => by cases h⟩ ?_
    · simp only [List.take_zero, val, Int.natCast_zero, go_sem, Int.reduceNegSucc, Nat.reduceAdd, Nat.reduceSub, Nat.reduceMul, Nat.reduceEqDiff, Nat.reduceLeDiff, Nat.reduceLT, Nat.reduceBEq, Nat.reduceBNe, reduceIte, reduceCtorEq, Int.reduceToNat, Int.reduceAdd, Int.reduceSub, Int.reduceMul, Int.reduceNeg, Int.reduceLT, Int.reduceLE, Int.reduceEq, Int.reduceNe, ints, ic, big]
    generalize hg : dig z.natAbs = l at *
    intro i ⟨hi, h8⟩
    by_cases hp : (i : Int) < l.length
    · have hdp : decide ((i : Int) < l.length) = true := decide_eq_true hp
      have hx := get_nat hp
      have hw := i64_ok (n := (i : Int) + 1) (by omega)
      have hw2 := i64_ok (n := 20 * (i : Int)) (by omega)
      have hi4 : i < 4 := by omega
      have hu := val_nonneg (hok.take i)
      have hu2 := val_take_lt hok i
      have had := hok.dgt i
      have hn20 : decide (20 * (i : Int) < 0) = false := decide_eq_false (by omega)
      have hn20' : ¬ (20 * (i : Int) < 0) := by omega
      have hst := val_take_succ l i
      rw [Int.mul_comm] at hst
      by_cases h3 : i = 3 ∧ ¬ dgt l i ≤ 8
      · have e1 : decide ((i : Int) = 3) = true := decide_eq_true (by omega)
        have e2 : decide (8 < dgt l i) = true := decide_eq_true (by omega)
        have hb := htop (h3.1 ▸ h3.2)
        rw [fits_no hb, hb]
        simp only [hdp, List.getElem?_map, hx, go_sem, Int.reduceNegSucc, Nat.reduceAdd, Nat.reduceSub, Nat.reduceMul, Nat.reduceEqDiff, Nat.reduceLeDiff, Nat.reduceLT, Nat.reduceBEq, Nat.reduceBNe, reduceIte, reduceCtorEq, Int.reduceToNat, Int.reduceAdd, Int.reduceSub, Int.reduceMul, Int.reduceNeg, Int.reduceLT, Int.reduceLE, Int.reduceEq, Int.reduceNe, ints, ic, big]
        simp only [e1, e2, go_sem, Int.reduceNegSucc, Nat.reduceAdd, Nat.reduceSub, Nat.reduceMul, Nat.reduceEqDiff, Nat.reduceLeDiff, Nat.reduceLT, Nat.reduceBEq, Nat.reduceBNe, reduceIte, reduceCtorEq, Int.reduceToNat, Int.reduceAdd, Int.reduceSub, Int.reduceMul, Int.reduceNeg, Int.reduceLT, Int.reduceLE, Int.reduceEq, Int.reduceNe, ints, ic, big]
      · have h3' : i = 3 → dgt l i ≤ 8 := fun e => Classical.byContradiction fun h => h3 ⟨e, h⟩
        have ho := or_digit hi4 ⟨hu, hu2⟩ had h3'
        have hnext : i + 1 = 4 → dgt l 3 ≤ 8 := fun e => by
          have e' : i = 3 := by omega
          subst e'
          exact h3' rfl
        simp only [hdp, List.getElem?_map, hx, go_sem, Int.reduceNegSucc, Nat.reduceAdd, Nat.reduceSub, Nat.reduceMul, Nat.reduceEqDiff, Nat.reduceLeDiff, Nat.reduceLT, Nat.reduceBEq, Nat.reduceBNe, reduceIte, reduceCtorEq, Int.reduceToNat, Int.reduceAdd, Int.reduceSub, Int.reduceMul, Int.reduceNeg, Int.reduceLT, Int.reduceLE, Int.reduceEq, Int.reduceNe, ints, ic, big]
        refine Two_dec (fun e e' => ?_) (fun e e' => ?_)
        · have e2 : decide (8 < dgt l i) = false := decide_eq_false (by have := h3' (by omega); omega)
          simp only [e, e2, hw2, hn20, hn20', ho.1, ho.2, go_sem, Int.reduceNegSucc, Nat.reduceAdd, Nat.reduceSub, Nat.reduceMul, Nat.reduceEqDiff, Nat.reduceLeDiff, Nat.reduceLT, Nat.reduceBEq, Nat.reduceBNe, reduceIte, reduceCtorEq, Int.reduceToNat, Int.reduceAdd, Int.reduceSub, Int.reduceMul, Int.reduceNeg, Int.reduceLT, Int.reduceLE, Int.reduceEq, Int.reduceNe, ints, ic, big]
          refine RoundP_of (i + 1) ?_ (by omega) ⟨by omega, hnext⟩
          simp only [hw, hst, Int.natCast_add, go_sem, Int.reduceNegSucc, Nat.reduceAdd, Nat.reduceSub, Nat.reduceMul, Nat.reduceEqDiff, Nat.reduceLeDiff, Nat.reduceLT, Nat.reduceBEq, Nat.reduceBNe, reduceIte, reduceCtorEq, Int.reduceToNat, Int.reduceAdd, Int.reduceSub, Int.reduceMul, Int.reduceNeg, Int.reduceLT, Int.reduceLE, Int.reduceEq, Int.reduceNe, ints, ic, big]
        · simp only [e, hw2, hn20, hn20', ho.1, ho.2, go_sem, Int.reduceNegSucc, Nat.reduceAdd, Nat.reduceSub, Nat.reduceMul, Nat.reduceEqDiff, Nat.reduceLeDiff, Nat.reduceLT, Nat.reduceBEq, Nat.reduceBNe, reduceIte, reduceCtorEq, Int.reduceToNat, Int.reduceAdd, Int.reduceSub, Int.reduceMul, Int.reduceNeg, Int.reduceLT, Int.reduceLE, Int.reduceEq, Int.reduceNe, ints, ic, big]
          refine RoundP_of (i + 1) ?_ (by omega) ⟨by omega, hnext⟩
          simp only [hw, hst, Int.natCast_add, go_sem, Int.reduceNegSucc, Nat.reduceAdd, Nat.reduceSub, Nat.reduceMul, Nat.reduceEqDiff, Nat.reduceLeDiff, Nat.reduceLT, Nat.reduceBEq, Nat.reduceBNe, reduceIte, reduceCtorEq, Int.reduceToNat, Int.reduceAdd, Int.reduceSub, Int.reduceMul, Int.reduceNeg, Int.reduceLT, Int.reduceLE, Int.reduceEq, Int.reduceNe, ints, ic, big]
    · have hdp : decide ((i : Int) < l.length) = false := decide_eq_false hp
      have hall : val (l.take i) = z.natAbs := by rw [List.take_of_length_le (by omega), hz]
      rw [hall]
      simp only [hdp, go_sem, Int.reduceNegSucc, Nat.reduceAdd, Nat.reduceSub, Nat.reduceMul, Nat.reduceEqDiff, Nat.reduceLeDiff, Nat.reduceLT, Nat.reduceBEq, Nat.reduceBNe, reduceIte, reduceCtorEq, Int.reduceToNat, Int.reduceAdd, Int.reduceSub, Int.reduceMul, Int.reduceNeg, Int.reduceLT, Int.reduceLE, Int.reduceEq, Int.reduceNe, ints, ic, big]
      refine Two_dec (fun e e' => ?_) (fun e e' => ?_)
      · have hneg : z < 0 := by
          rcases Int.lt_trichotomy z 0 with h | h | h
          · exact h
          · subst h; cases e'
          · rw [Int.sign_eq_one_of_pos h] at e'; omega
        have hnp : decide (0 ≤ z.sign) = false := decide_eq_false (by omega)
        by_cases hf : fits z = true
        · have hf2 := hf
          rw [fits, Bool.and_eq_true, decide_eq_true_eq, decide_eq_true_eq] at hf2
          have d2 : decide ((z.natAbs : Int) ≤ 9223372036854775808) = true := decide_eq_true (by omega)
          have hu := u64_neg (n := z.natAbs) (by omega)
          have hzz : 0 - (z.natAbs : Int) = z := by omega
          rw [hzz] at hu
          rw [fits_yes hf, hf]
          simp only [e, d2, hu, hzz, go_sem, Int.reduceNegSucc, Nat.reduceAdd, Nat.reduceSub, Nat.reduceMul, Nat.reduceEqDiff, Nat.reduceLeDiff, Nat.reduceLT, Nat.reduceBEq, Nat.reduceBNe, reduceIte, reduceCtorEq, Int.reduceToNat, Int.reduceAdd, Int.reduceSub, Int.reduceMul, Int.reduceNeg, Int.reduceLT, Int.reduceLE, Int.reduceEq, Int.reduceNe, ints, ic, big]
        · have hf' : fits z = false := by simpa using hf
          have hf2 := hf'
          rw [fits, Bool.and_eq_false_iff, decide_eq_false_iff_not, decide_eq_false_iff_not] at hf2
          have d2 : decide ((z.natAbs : Int) ≤ 9223372036854775808) = false := decide_eq_false (by omega)
          rw [fits_no hf', hf']
          simp only [e, d2, hnp, go_sem, Int.reduceNegSucc, Nat.reduceAdd, Nat.reduceSub, Nat.reduceMul, Nat.reduceEqDiff, Nat.reduceLeDiff, Nat.reduceLT, Nat.reduceBEq, Nat.reduceBNe, reduceIte, reduceCtorEq, Int.reduceToNat, Int.reduceAdd, Int.reduceSub, Int.reduceMul, Int.reduceNeg, Int.reduceLT, Int.reduceLE, Int.reduceEq, Int.reduceNe, ints, ic, big]
      · have hpos : 0 ≤ z := by
          rcases Int.lt_or_le z 0 with h | h
          · rw [Int.sign_eq_neg_one_of_neg h] at e'; omega
          · exact h
        have hnp : decide (0 ≤ z.sign) = true := decide_eq_true (by omega)
        by_cases hf : fits z = true
        · have hf2 := hf
          rw [fits, Bool.and_eq_true, decide_eq_true_eq, decide_eq_true_eq] at hf2
          have d2 : decide ((z.natAbs : Int) < 9223372036854775808) = true := decide_eq_true (by omega)
          have hzz : (z.natAbs : Int) = z := by omega
          rw [hzz] at d2
          have hu := i64_ok (n := z) (by omega)
          rw [fits_yes hf, hf]
          simp only [e, hzz, d2, hnp, hu, go_sem, Int.reduceNegSucc, Nat.reduceAdd, Nat.reduceSub, Nat.reduceMul, Nat.reduceEqDiff, Nat.reduceLeDiff, Nat.reduceLT, Nat.reduceBEq, Nat.reduceBNe, reduceIte, reduceCtorEq, Int.reduceToNat, Int.reduceAdd, Int.reduceSub, Int.reduceMul, Int.reduceNeg, Int.reduceLT, Int.reduceLE, Int.reduceEq, Int.reduceNe, ints, ic, big]
        · have hf' : fits z = false := by simpa using hf
          have hf2 := hf'
          rw [fits, Bool.and_eq_false_iff, decide_eq_false_iff_not, decide_eq_false_iff_not] at hf2
          have d2 : decide ((z.natAbs : Int) < 9223372036854775808) = false := decide_eq_false (by omega)
          rw [fits_no hf', hf']
          simp only [e, d2, hnp, go_sem, Int.reduceNegSucc, Nat.reduceAdd, Nat.reduceSub, Nat.reduceMul, Nat.reduceEqDiff, Nat.reduceLeDiff, Nat.reduceLT, Nat.reduceBEq, Nat.reduceBNe, reduceIte, reduceCtorEq, Int.reduceToNat, Int.reduceAdd, Int.reduceSub, Int.reduceMul, Int.reduceNeg, Int.reduceLT, Int.reduceLE, Int.reduceEq, Int.reduceNe, ints, ic, big]
end Go.Proofs.Ytpnlfkaijdjhlab

namespace Go.Proofs.Ytpnlfkaijdjhlab
set_option linter.all false
open Go.Abs

/-- The tree of a fraction. -/
def frac (r : Rat) : IV := .agg [.int r.num.sign, ints (dig r.num.natAbs), .int (r.den : Int).sign, ints (dig (r.den : Int).natAbs)]
theorem den_sign (r : Rat) : (r.den : Int).sign = 1 := Int.sign_eq_one_of_pos (by have := r.den_pos; omega)
theorem big_one : Ctr G.P 59 [.int 1] (· = big 1) := t_of 1 (by omega)
theorem dig_one_len : (dig 1).length ≤ 1 := dig_len_le (by omega)
set_option maxRecDepth 100000 in
theorem t_rightf (r : Rat) (lp : (dig r.num.natAbs).length ≤ 50000) (lq : (dig r.den).length ≤ 50000) : Ctr G.P 39 [frac r] (· = .bool true) := by
  have rp := t_rightb r.num (by omega)
  have rq := t_rightb (r.den : Int) (by rw [Int.natAbs_natCast]; omega)
  have hs : decide ((r.den : Int).sign < 1) = false := by rw [den_sign]; rfl
  have hg := t_gcd r.num r.den lp (by rw [Int.natAbs_natCast]; exact lq)
  rw [Int.natAbs_natCast, show Nat.gcd r.num.natAbs r.den = 1 from r.reduced] at hg
  have hc := t_compare ((1 : Nat) : Int) 1 (by have := dig_one_len; rw [Int.natAbs_natCast]; omega) (by have := dig_one_len; rw [show (1 : Int).natAbs = 1 from rfl]; omega)
  rw [show cmpI ((1 : Nat) : Int) 1 = 0 from rfl] at hc
  have h1 := big_one
  simp only [big, ints] at rp rq hg hc h1
  refine ctr_go good _ _ [.tmp 2] Try.func39 rfl rfl (by decide +kernel) rfl ?_
  simp only [go_sem, Int.reduceNegSucc, Nat.reduceAdd, Nat.reduceSub, Nat.reduceMul, Nat.reduceEqDiff, Nat.reduceLeDiff, Nat.reduceLT, Nat.reduceBEq, Nat.reduceBNe, reduceIte, reduceCtorEq, Int.reduceToNat, Int.reduceAdd, Int.reduceSub, Int.reduceMul, Int.reduceNeg, Int.reduceLT, Int.reduceLE, Int.reduceEq, Int.reduceNe, ints, ic, big, frac]
  refine CallP_eq rp (by decide) ?_
  simp only [go_sem, Int.reduceNegSucc, Nat.reduceAdd, Nat.reduceSub, Nat.reduceMul, Nat.reduceEqDiff, Nat.reduceLeDiff, Nat.reduceLT, Nat.reduceBEq, Nat.reduceBNe, reduceIte, reduceCtorEq, Int.reduceToNat, Int.reduceAdd, Int.reduceSub, Int.reduceMul, Int.reduceNeg, Int.reduceLT, Int.reduceLE, Int.reduceEq, Int.reduceNe, ints, ic, big, frac]
  refine CallP_eq rq (by decide) ?_
  simp only [hs, go_sem, Int.reduceNegSucc, Nat.reduceAdd, Nat.reduceSub, Nat.reduceMul, Nat.reduceEqDiff, Nat.reduceLeDiff, Nat.reduceLT, Nat.reduceBEq, Nat.reduceBNe, reduceIte, reduceCtorEq, Int.reduceToNat, Int.reduceAdd, Int.reduceSub, Int.reduceMul, Int.reduceNeg, Int.reduceLT, Int.reduceLE, Int.reduceEq, Int.reduceNe, ints, ic, big, frac]
  refine CallP_eq hg (by decide) ?_
  simp only [go_sem, Int.reduceNegSucc, Nat.reduceAdd, Nat.reduceSub, Nat.reduceMul, Nat.reduceEqDiff, Nat.reduceLeDiff, Nat.reduceLT, Nat.reduceBEq, Nat.reduceBNe, reduceIte, reduceCtorEq, Int.reduceToNat, Int.reduceAdd, Int.reduceSub, Int.reduceMul, Int.reduceNeg, Int.reduceLT, Int.reduceLE, Int.reduceEq, Int.reduceNe, ints, ic, big, frac]
  refine DrawP_of 5 (by decide +kernel) ?_
  simp only [go_sem, Int.reduceNegSucc, Nat.reduceAdd, Nat.reduceSub, Nat.reduceMul, Nat.reduceEqDiff, Nat.reduceLeDiff, Nat.reduceLT, Nat.reduceBEq, Nat.reduceBNe, reduceIte, reduceCtorEq, Int.reduceToNat, Int.reduceAdd, Int.reduceSub, Int.reduceMul, Int.reduceNeg, Int.reduceLT, Int.reduceLE, Int.reduceEq, Int.reduceNe, ints, ic, big, frac]
  refine CallD_eq h1 (by decide) ?_
  simp only [go_sem, Int.reduceNegSucc, Nat.reduceAdd, Nat.reduceSub, Nat.reduceMul, Nat.reduceEqDiff, Nat.reduceLeDiff, Nat.reduceLT, Nat.reduceBEq, Nat.reduceBNe, reduceIte, reduceCtorEq, Int.reduceToNat, Int.reduceAdd, Int.reduceSub, Int.reduceMul, Int.reduceNeg, Int.reduceLT, Int.reduceLE, Int.reduceEq, Int.reduceNe, ints, ic, big, frac]
  refine CallD_eq hc (by decide) ?_
  simp only [go_sem, Int.reduceNegSucc, Nat.reduceAdd, Nat.reduceSub, Nat.reduceMul, Nat.reduceEqDiff, Nat.reduceLeDiff, Nat.reduceLT, Nat.reduceBEq, Nat.reduceBNe, reduceIte, reduceCtorEq, Int.reduceToNat, Int.reduceAdd, Int.reduceSub, Int.reduceMul, Int.reduceNeg, Int.reduceLT, Int.reduceLE, Int.reduceEq, Int.reduceNe, ints, ic, big, frac]
end Go.Proofs.Ytpnlfkaijdjhlab

namespace Go.Proofs.Ytpnlfkaijdjhlab
set_option linter.all false
open Go.Abs

/-- Whether a tree is that of a fraction. -/
def fracF (s : Int) (l : List Int) (t : Int) (m : List Int) : Bool := rightF s l && (rightF t m && (decide (t = 1) && decide (Nat.gcd (val l).toNat (val m).toNat = 1)))
theorem frac_of {s t : Int} {l m : List Int} (h : fracF s l t m = true) : ∃ r : Rat, s = r.num.sign ∧ l = dig r.num.natAbs ∧ t = (r.den : Int).sign ∧ m = dig (r.den : Int).natAbs := by
  rw [fracF, Bool.and_eq_true, Bool.and_eq_true, Bool.and_eq_true, decide_eq_true_eq, decide_eq_true_eq] at h
  obtain ⟨h1, h2, h3, h4⟩ := h
  obtain ⟨z, e1, e2⟩ := big_of h1
  obtain ⟨w, e3, e4⟩ := big_of h2
  subst e1 e2
  have hw : 0 < w := Int.sign_eq_one_iff_pos.1 (by omega)
  rw [e4, val_dig, val_dig, Int.toNat_natCast, Int.toNat_natCast] at h4
  have e5 : ((w.natAbs : Nat) : Int) = w := by omega
  exact ⟨⟨z, w.natAbs, by omega, h4⟩, rfl, rfl, by show t = ((w.natAbs : Nat) : Int).sign; rw [e5, e3], by show m = dig ((w.natAbs : Nat) : Int).natAbs; rw [e5, e4]⟩
theorem right_frac (r : Rat) : fracF r.num.sign (dig r.num.natAbs) (r.den : Int).sign (dig (r.den : Int).natAbs) = true := by
  rw [fracF, right_big, right_big, val_dig, val_dig, Int.toNat_natCast, Int.toNat_natCast, Int.natAbs_natCast, decide_eq_true (show Nat.gcd r.num.natAbs r.den = 1 from r.reduced), den_sign]
  rfl
theorem sign_one {t : Int} {m : List Int} (h : rightF t m = true) : decide (t < 1) = !decide (t = 1) := by
  obtain ⟨z, e, _⟩ := big_of h
  have := sign_le z
  rw [e, ← decide_not, decide_eq_decide]
  omega
set_option maxRecDepth 100000 in
theorem t_fright (s t : Int) (l m : List Int) (hl : l.length ≤ 50000) (hm : m.length ≤ 50000) : Ctr G.P 39 [.agg [.int s, ints l, .int t, ints m]] (· = .bool (fracF s l t m)) := by
  have r1 := t_right s l (by omega)
  have r2 := t_right t m (by omega)
  by_cases h1 : rightF s l = true
  case neg =>
    have h1 : rightF s l = false := by simpa using h1
    rw [h1] at r1
    rw [fracF, h1, Bool.false_and]
    refine ctr_go good _ _ [.tmp 2] Try.func39 rfl rfl (by decide +kernel) rfl ?_
    simp only [go_sem, Int.reduceNegSucc, Nat.reduceAdd, Nat.reduceSub, Nat.reduceMul, Nat.reduceEqDiff, Nat.reduceLeDiff, Nat.reduceLT, Nat.reduceBEq, Nat.reduceBNe, reduceIte, reduceCtorEq, Int.reduceToNat, Int.reduceAdd, Int.reduceSub, Int.reduceMul, Int.reduceNeg, Int.reduceLT, Int.reduceLE, Int.reduceEq, Int.reduceNe, ints, ic, big]
    refine CallP_eq r1 (by decide) ?_
    simp only [go_sem, Int.reduceNegSucc, Nat.reduceAdd, Nat.reduceSub, Nat.reduceMul, Nat.reduceEqDiff, Nat.reduceLeDiff, Nat.reduceLT, Nat.reduceBEq, Nat.reduceBNe, reduceIte, reduceCtorEq, Int.reduceToNat, Int.reduceAdd, Int.reduceSub, Int.reduceMul, Int.reduceNeg, Int.reduceLT, Int.reduceLE, Int.reduceEq, Int.reduceNe, ints, ic, big]
  case pos =>
  by_cases h2 : rightF t m = true
  case neg =>
    have h2 : rightF t m = false := by simpa using h2
    rw [h1] at r1
    rw [h2] at r2
    rw [fracF, h2, Bool.false_and, Bool.and_false]
    refine ctr_go good _ _ [.tmp 2] Try.func39 rfl rfl (by decide +kernel) rfl ?_
    simp only [go_sem, Int.reduceNegSucc, Nat.reduceAdd, Nat.reduceSub, Nat.reduceMul, Nat.reduceEqDiff, Nat.reduceLeDiff, Nat.reduceLT, Nat.reduceBEq, Nat.reduceBNe, reduceIte, reduceCtorEq, Int.reduceToNat, Int.reduceAdd, Int.reduceSub, Int.reduceMul, Int.reduceNeg, Int.reduceLT, Int.reduceLE, Int.reduceEq, Int.reduceNe, ints, ic, big]
    refine CallP_eq r1 (by decide) ?_
    simp only [go_sem, Int.reduceNegSucc, Nat.reduceAdd, Nat.reduceSub, Nat.reduceMul, Nat.reduceEqDiff, Nat.reduceLeDiff, Nat.reduceLT, Nat.reduceBEq, Nat.reduceBNe, reduceIte, reduceCtorEq, Int.reduceToNat, Int.reduceAdd, Int.reduceSub, Int.reduceMul, Int.reduceNeg, Int.reduceLT, Int.reduceLE, Int.reduceEq, Int.reduceNe, ints, ic, big]
    refine CallP_eq r2 (by decide) ?_
    simp only [go_sem, Int.reduceNegSucc, Nat.reduceAdd, Nat.reduceSub, Nat.reduceMul, Nat.reduceEqDiff, Nat.reduceLeDiff, Nat.reduceLT, Nat.reduceBEq, Nat.reduceBNe, reduceIte, reduceCtorEq, Int.reduceToNat, Int.reduceAdd, Int.reduceSub, Int.reduceMul, Int.reduceNeg, Int.reduceLT, Int.reduceLE, Int.reduceEq, Int.reduceNe, ints, ic, big]
  case pos =>
  have hs := sign_one h2
  rw [h1] at r1
  rw [h2] at r2
  by_cases h3 : t = 1
  case neg =>
    have d3 : decide (t = 1) = false := decide_eq_false h3
    rw [d3] at hs
    rw [fracF, d3, Bool.false_and, Bool.and_false, Bool.and_false]
    refine ctr_go good _ _ [.tmp 2] Try.func39 rfl rfl (by decide +kernel) rfl ?_
    simp only [go_sem, Int.reduceNegSucc, Nat.reduceAdd, Nat.reduceSub, Nat.reduceMul, Nat.reduceEqDiff, Nat.reduceLeDiff, Nat.reduceLT, Nat.reduceBEq, Nat.reduceBNe, reduceIte, reduceCtorEq, Int.reduceToNat, Int.reduceAdd, Int.reduceSub, Int.reduceMul, Int.reduceNeg, Int.reduceLT, Int.reduceLE, Int.reduceEq, Int.reduceNe, ints, ic, big]
    refine CallP_eq r1 (by decide) ?_
    simp only [go_sem, Int.reduceNegSucc, Nat.reduceAdd, Nat.reduceSub, Nat.reduceMul, Nat.reduceEqDiff, Nat.reduceLeDiff, Nat.reduceLT, Nat.reduceBEq, Nat.reduceBNe, reduceIte, reduceCtorEq, Int.reduceToNat, Int.reduceAdd, Int.reduceSub, Int.reduceMul, Int.reduceNeg, Int.reduceLT, Int.reduceLE, Int.reduceEq, Int.reduceNe, ints, ic, big]
    refine CallP_eq r2 (by decide) ?_
    simp only [hs, go_sem, Int.reduceNegSucc, Nat.reduceAdd, Nat.reduceSub, Nat.reduceMul, Nat.reduceEqDiff, Nat.reduceLeDiff, Nat.reduceLT, Nat.reduceBEq, Nat.reduceBNe, reduceIte, reduceCtorEq, Int.reduceToNat, Int.reduceAdd, Int.reduceSub, Int.reduceMul, Int.reduceNeg, Int.reduceLT, Int.reduceLE, Int.reduceEq, Int.reduceNe, ints, ic, big]
  case pos =>
  have d3 : decide (t = 1) = true := decide_eq_true h3
  rw [d3] at hs
  rw [fracF, h1, h2, d3, Bool.true_and, Bool.true_and, Bool.true_and]
  obtain ⟨z, e1, e2⟩ := big_of h1
  obtain ⟨w, e3, e4⟩ := big_of h2
  have hwp : 0 < w.natAbs := by
    have : 0 < w := Int.sign_eq_one_iff_pos.1 (by omega)
    omega
  subst e1 e2 e3 e4
  rw [val_dig, val_dig, Int.toNat_natCast, Int.toNat_natCast]
  have hg := t_gcd z w hl hm
  have hgl : (dig (Nat.gcd z.natAbs w.natAbs)).length ≤ 50000 := len_mono (Nat.gcd_le_right _ hwp) hm
  have hc := t_compare (Nat.gcd z.natAbs w.natAbs : Nat) 1 (by rw [Int.natAbs_natCast]; omega) (by have := dig_one_len; rw [show (1 : Int).natAbs = 1 from rfl]; omega)
  have hgp : 0 < Nat.gcd z.natAbs w.natAbs := Nat.gcd_pos_of_pos_right _ hwp
  have hci : decide (cmpI (Nat.gcd z.natAbs w.natAbs : Nat) 1 = 0) = decide (Nat.gcd z.natAbs w.natAbs = 1) := by
    rw [decide_eq_decide]; unfold cmpI; split <;> (try split) <;> omega
  have h1 := big_one
  simp only [big, ints] at hg hc h1
  refine ctr_go good _ _ [.tmp 2] Try.func39 rfl rfl (by decide +kernel) rfl ?_
  simp only [go_sem, Int.reduceNegSucc, Nat.reduceAdd, Nat.reduceSub, Nat.reduceMul, Nat.reduceEqDiff, Nat.reduceLeDiff, Nat.reduceLT, Nat.reduceBEq, Nat.reduceBNe, reduceIte, reduceCtorEq, Int.reduceToNat, Int.reduceAdd, Int.reduceSub, Int.reduceMul, Int.reduceNeg, Int.reduceLT, Int.reduceLE, Int.reduceEq, Int.reduceNe, ints, ic, big]
  refine CallP_eq r1 (by decide) ?_
  simp only [go_sem, Int.reduceNegSucc, Nat.reduceAdd, Nat.reduceSub, Nat.reduceMul, Nat.reduceEqDiff, Nat.reduceLeDiff, Nat.reduceLT, Nat.reduceBEq, Nat.reduceBNe, reduceIte, reduceCtorEq, Int.reduceToNat, Int.reduceAdd, Int.reduceSub, Int.reduceMul, Int.reduceNeg, Int.reduceLT, Int.reduceLE, Int.reduceEq, Int.reduceNe, ints, ic, big]
  refine CallP_eq r2 (by decide) ?_
  simp only [hs, go_sem, Int.reduceNegSucc, Nat.reduceAdd, Nat.reduceSub, Nat.reduceMul, Nat.reduceEqDiff, Nat.reduceLeDiff, Nat.reduceLT, Nat.reduceBEq, Nat.reduceBNe, reduceIte, reduceCtorEq, Int.reduceToNat, Int.reduceAdd, Int.reduceSub, Int.reduceMul, Int.reduceNeg, Int.reduceLT, Int.reduceLE, Int.reduceEq, Int.reduceNe, ints, ic, big]
  refine CallP_eq hg (by decide) ?_
  simp only [go_sem, Int.reduceNegSucc, Nat.reduceAdd, Nat.reduceSub, Nat.reduceMul, Nat.reduceEqDiff, Nat.reduceLeDiff, Nat.reduceLT, Nat.reduceBEq, Nat.reduceBNe, reduceIte, reduceCtorEq, Int.reduceToNat, Int.reduceAdd, Int.reduceSub, Int.reduceMul, Int.reduceNeg, Int.reduceLT, Int.reduceLE, Int.reduceEq, Int.reduceNe, ints, ic, big]
  refine DrawP_of 5 (by decide +kernel) ?_
  simp only [go_sem, Int.reduceNegSucc, Nat.reduceAdd, Nat.reduceSub, Nat.reduceMul, Nat.reduceEqDiff, Nat.reduceLeDiff, Nat.reduceLT, Nat.reduceBEq, Nat.reduceBNe, reduceIte, reduceCtorEq, Int.reduceToNat, Int.reduceAdd, Int.reduceSub, Int.reduceMul, Int.reduceNeg, Int.reduceLT, Int.reduceLE, Int.reduceEq, Int.reduceNe, ints, ic, big]
  refine CallD_eq h1 (by decide) ?_
  simp only [go_sem, Int.reduceNegSucc, Nat.reduceAdd, Nat.reduceSub, Nat.reduceMul, Nat.reduceEqDiff, Nat.reduceLeDiff, Nat.reduceLT, Nat.reduceBEq, Nat.reduceBNe, reduceIte, reduceCtorEq, Int.reduceToNat, Int.reduceAdd, Int.reduceSub, Int.reduceMul, Int.reduceNeg, Int.reduceLT, Int.reduceLE, Int.reduceEq, Int.reduceNe, ints, ic, big]
  refine CallD_eq hc (by decide) ?_
  simp only [hci, go_sem, Int.reduceNegSucc, Nat.reduceAdd, Nat.reduceSub, Nat.reduceMul, Nat.reduceEqDiff, Nat.reduceLeDiff, Nat.reduceLT, Nat.reduceBEq, Nat.reduceBNe, reduceIte, reduceCtorEq, Int.reduceToNat, Int.reduceAdd, Int.reduceSub, Int.reduceMul, Int.reduceNeg, Int.reduceLT, Int.reduceLE, Int.reduceEq, Int.reduceNe, ints, ic, big]
end Go.Proofs.Ytpnlfkaijdjhlab

namespace Go.Proofs.Ytpnlfkaijdjhlab
set_option linter.all false
open Go.Abs

def cmpR (a b : Rat) : Int := cmpI (a.num * b.den) (b.num * a.den)
theorem cmpR_neg {a b : Rat} : cmpR a b < 0 ↔ a < b := by
  rw [Rat.lt_iff, cmpR, cmpI]
  split
  · simp [*]
  · split <;> simp [*]
theorem cmpR_pos {a b : Rat} : 0 < cmpR a b ↔ b < a := by
  rw [Rat.lt_iff, cmpR, cmpI]
  split
  · simp; omega
  · split
    · simp; omega
    · simp; omega
end Go.Proofs.Ytpnlfkaijdjhlab

namespace Go.Proofs.Ytpnlfkaijdjhlab
set_option linter.all false
open Go.Abs

theorem one_fits (n : Int) : (fits n && decide (intF n = 1)) = decide (n = 1) := by
  by_cases h : fits n = true
  · rw [fits_yes h, h, Bool.true_and]
  · have h' : fits n = false := by simpa using h
    rw [h', Bool.false_and]
    refine (decide_eq_false fun e => ?_).symm
    subst e; exact absurd h' (by decide)
theorem t_one (z : Int) (h : (dig z.natAbs).length ≤ 1000000) : Ctr G.P 45 [big z] (· = .bool (decide (z = 1))) := by
  have hi := t_pint z h
  have ho := one_fits z
  by_cases hf : fits z = true
  · rw [hf] at hi ho
    rw [Bool.true_and] at ho
    refine ctr_go good _ _ [.tmp 2] Try.func45 rfl rfl (by decide +kernel) rfl ?_
    simp only [go_sem, Int.reduceNegSucc, Nat.reduceAdd, Nat.reduceSub, Nat.reduceMul, Nat.reduceEqDiff, Nat.reduceLeDiff, Nat.reduceLT, Nat.reduceBEq, Nat.reduceBNe, reduceIte, reduceCtorEq, Int.reduceToNat, Int.reduceAdd, Int.reduceSub, Int.reduceMul, Int.reduceNeg, Int.reduceLT, Int.reduceLE, Int.reduceEq, Int.reduceNe, ints, ic, big, frac]
    refine CallP_eq hi (by decide) ?_
    simp only [ho, go_sem, Int.reduceNegSucc, Nat.reduceAdd, Nat.reduceSub, Nat.reduceMul, Nat.reduceEqDiff, Nat.reduceLeDiff, Nat.reduceLT, Nat.reduceBEq, Nat.reduceBNe, reduceIte, reduceCtorEq, Int.reduceToNat, Int.reduceAdd, Int.reduceSub, Int.reduceMul, Int.reduceNeg, Int.reduceLT, Int.reduceLE, Int.reduceEq, Int.reduceNe, ints, ic, big, frac]
  · have h' : fits z = false := by simpa using hf
    rw [h'] at hi ho
    rw [Bool.false_and] at ho
    rw [← ho]
    clear ho
    refine ctr_go good _ _ [.tmp 2] Try.func45 rfl rfl (by decide +kernel) rfl ?_
    simp only [go_sem, Int.reduceNegSucc, Nat.reduceAdd, Nat.reduceSub, Nat.reduceMul, Nat.reduceEqDiff, Nat.reduceLeDiff, Nat.reduceLT, Nat.reduceBEq, Nat.reduceBNe, reduceIte, reduceCtorEq, Int.reduceToNat, Int.reduceAdd, Int.reduceSub, Int.reduceMul, Int.reduceNeg, Int.reduceLT, Int.reduceLE, Int.reduceEq, Int.reduceNe, ints, ic, big, frac]
    refine CallP_eq hi (by decide) ?_
    simp only [go_sem, Int.reduceNegSucc, Nat.reduceAdd, Nat.reduceSub, Nat.reduceMul, Nat.reduceEqDiff, Nat.reduceLeDiff, Nat.reduceLT, Nat.reduceBEq, Nat.reduceBNe, reduceIte, reduceCtorEq, Int.reduceToNat, Int.reduceAdd, Int.reduceSub, Int.reduceMul, Int.reduceNeg, Int.reduceLT, Int.reduceLE, Int.reduceEq, Int.reduceNe, ints, ic, big, frac]
set_option maxRecDepth 100000 in
theorem t_pfright (s t : Int) (l m : List Int) (hl : l.length ≤ 50000) (hm : m.length ≤ 50000) : Ctr G.P 19 [.agg [.int s, ints l, .int t, ints m]] (· = .bool (fracF s l t m)) := by
  have r1 := t_pright s l (by omega)
  have r2 := t_pright t m (by omega)
  by_cases h1 : rightF s l = true
  case neg =>
    have h1 : rightF s l = false := by simpa using h1
    rw [h1] at r1
    rw [fracF, h1, Bool.false_and]
    refine ctr_go good _ _ [.tmp 2] Try.func19 rfl rfl (by decide +kernel) rfl ?_
    simp only [go_sem, Int.reduceNegSucc, Nat.reduceAdd, Nat.reduceSub, Nat.reduceMul, Nat.reduceEqDiff, Nat.reduceLeDiff, Nat.reduceLT, Nat.reduceBEq, Nat.reduceBNe, reduceIte, reduceCtorEq, Int.reduceToNat, Int.reduceAdd, Int.reduceSub, Int.reduceMul, Int.reduceNeg, Int.reduceLT, Int.reduceLE, Int.reduceEq, Int.reduceNe, ints, ic, big, frac]
    refine CallP_eq r1 (by decide) ?_
    simp only [go_sem, Int.reduceNegSucc, Nat.reduceAdd, Nat.reduceSub, Nat.reduceMul, Nat.reduceEqDiff, Nat.reduceLeDiff, Nat.reduceLT, Nat.reduceBEq, Nat.reduceBNe, reduceIte, reduceCtorEq, Int.reduceToNat, Int.reduceAdd, Int.reduceSub, Int.reduceMul, Int.reduceNeg, Int.reduceLT, Int.reduceLE, Int.reduceEq, Int.reduceNe, ints, ic, big, frac]
  case pos =>
  by_cases h2 : rightF t m = true
  case neg =>
    have h2 : rightF t m = false := by simpa using h2
    rw [h1] at r1
    rw [h2] at r2
    rw [fracF, h2, Bool.false_and, Bool.and_false]
    refine ctr_go good _ _ [.tmp 2] Try.func19 rfl rfl (by decide +kernel) rfl ?_
    simp only [go_sem, Int.reduceNegSucc, Nat.reduceAdd, Nat.reduceSub, Nat.reduceMul, Nat.reduceEqDiff, Nat.reduceLeDiff, Nat.reduceLT, Nat.reduceBEq, Nat.reduceBNe, reduceIte, reduceCtorEq, Int.reduceToNat, Int.reduceAdd, Int.reduceSub, Int.reduceMul, Int.reduceNeg, Int.reduceLT, Int.reduceLE, Int.reduceEq, Int.reduceNe, ints, ic, big, frac]
    refine CallP_eq r1 (by decide) ?_
    simp only [go_sem, Int.reduceNegSucc, Nat.reduceAdd, Nat.reduceSub, Nat.reduceMul, Nat.reduceEqDiff, Nat.reduceLeDiff, Nat.reduceLT, Nat.reduceBEq, Nat.reduceBNe, reduceIte, reduceCtorEq, Int.reduceToNat, Int.reduceAdd, Int.reduceSub, Int.reduceMul, Int.reduceNeg, Int.reduceLT, Int.reduceLE, Int.reduceEq, Int.reduceNe, ints, ic, big, frac]
    refine CallP_eq r2 (by decide) ?_
    simp only [go_sem, Int.reduceNegSucc, Nat.reduceAdd, Nat.reduceSub, Nat.reduceMul, Nat.reduceEqDiff, Nat.reduceLeDiff, Nat.reduceLT, Nat.reduceBEq, Nat.reduceBNe, reduceIte, reduceCtorEq, Int.reduceToNat, Int.reduceAdd, Int.reduceSub, Int.reduceMul, Int.reduceNeg, Int.reduceLT, Int.reduceLE, Int.reduceEq, Int.reduceNe, ints, ic, big, frac]
  case pos =>
  rw [h1] at r1
  rw [h2] at r2
  by_cases h3 : t = 1
  case neg =>
    have d3 : decide (t = 1) = false := decide_eq_false h3
    rw [fracF, d3, Bool.false_and, Bool.and_false, Bool.and_false]
    refine ctr_go good _ _ [.tmp 2] Try.func19 rfl rfl (by decide +kernel) rfl ?_
    simp only [go_sem, Int.reduceNegSucc, Nat.reduceAdd, Nat.reduceSub, Nat.reduceMul, Nat.reduceEqDiff, Nat.reduceLeDiff, Nat.reduceLT, Nat.reduceBEq, Nat.reduceBNe, reduceIte, reduceCtorEq, Int.reduceToNat, Int.reduceAdd, Int.reduceSub, Int.reduceMul, Int.reduceNeg, Int.reduceLT, Int.reduceLE, Int.reduceEq, Int.reduceNe, ints, ic, big, frac]
    refine CallP_eq r1 (by decide) ?_
    simp only [go_sem, Int.reduceNegSucc, Nat.reduceAdd, Nat.reduceSub, Nat.reduceMul, Nat.reduceEqDiff, Nat.reduceLeDiff, Nat.reduceLT, Nat.reduceBEq, Nat.reduceBNe, reduceIte, reduceCtorEq, Int.reduceToNat, Int.reduceAdd, Int.reduceSub, Int.reduceMul, Int.reduceNeg, Int.reduceLT, Int.reduceLE, Int.reduceEq, Int.reduceNe, ints, ic, big, frac]
    refine CallP_eq r2 (by decide) ?_
    simp only [d3, go_sem, Int.reduceNegSucc, Nat.reduceAdd, Nat.reduceSub, Nat.reduceMul, Nat.reduceEqDiff, Nat.reduceLeDiff, Nat.reduceLT, Nat.reduceBEq, Nat.reduceBNe, reduceIte, reduceCtorEq, Int.reduceToNat, Int.reduceAdd, Int.reduceSub, Int.reduceMul, Int.reduceNeg, Int.reduceLT, Int.reduceLE, Int.reduceEq, Int.reduceNe, ints, ic, big, frac]
  case pos =>
  have d3 : decide (t = 1) = true := decide_eq_true h3
  rw [fracF, h1, h2, d3, Bool.true_and, Bool.true_and, Bool.true_and]
  obtain ⟨z, e1, e2⟩ := big_of h1
  obtain ⟨w, e3, e4⟩ := big_of h2
  have hwp : 0 < w.natAbs := by
    have : 0 < w := Int.sign_eq_one_iff_pos.1 (by omega)
    omega
  subst e1 e2 e3 e4
  rw [val_dig, val_dig, Int.toNat_natCast, Int.toNat_natCast]
  have hg := t_pgcd z w hl hm
  have hgl : (dig (Nat.gcd z.natAbs w.natAbs)).length ≤ 50000 := len_mono (Nat.gcd_le_right _ hwp) hm
  have ho := t_one (Nat.gcd z.natAbs w.natAbs : Nat) (by rw [Int.natAbs_natCast]; omega)
  have hci : decide (((Nat.gcd z.natAbs w.natAbs : Nat) : Int) = 1) = decide (Nat.gcd z.natAbs w.natAbs = 1) := by
    rw [decide_eq_decide]; omega
  simp only [big, ints] at hg ho
  refine ctr_go good _ _ [.tmp 2] Try.func19 rfl rfl (by decide +kernel) rfl ?_
  simp only [go_sem, Int.reduceNegSucc, Nat.reduceAdd, Nat.reduceSub, Nat.reduceMul, Nat.reduceEqDiff, Nat.reduceLeDiff, Nat.reduceLT, Nat.reduceBEq, Nat.reduceBNe, reduceIte, reduceCtorEq, Int.reduceToNat, Int.reduceAdd, Int.reduceSub, Int.reduceMul, Int.reduceNeg, Int.reduceLT, Int.reduceLE, Int.reduceEq, Int.reduceNe, ints, ic, big, frac]
  refine CallP_eq r1 (by decide) ?_
  simp only [go_sem, Int.reduceNegSucc, Nat.reduceAdd, Nat.reduceSub, Nat.reduceMul, Nat.reduceEqDiff, Nat.reduceLeDiff, Nat.reduceLT, Nat.reduceBEq, Nat.reduceBNe, reduceIte, reduceCtorEq, Int.reduceToNat, Int.reduceAdd, Int.reduceSub, Int.reduceMul, Int.reduceNeg, Int.reduceLT, Int.reduceLE, Int.reduceEq, Int.reduceNe, ints, ic, big, frac]
  refine CallP_eq r2 (by decide) ?_
  simp only [d3, go_sem, Int.reduceNegSucc, Nat.reduceAdd, Nat.reduceSub, Nat.reduceMul, Nat.reduceEqDiff, Nat.reduceLeDiff, Nat.reduceLT, Nat.reduceBEq, Nat.reduceBNe, reduceIte, reduceCtorEq, Int.reduceToNat, Int.reduceAdd, Int.reduceSub, Int.reduceMul, Int.reduceNeg, Int.reduceLT, Int.reduceLE, Int.reduceEq, Int.reduceNe, ints, ic, big, frac]
  refine CallP_eq hg (by decide) ?_
  simp only [go_sem, Int.reduceNegSucc, Nat.reduceAdd, Nat.reduceSub, Nat.reduceMul, Nat.reduceEqDiff, Nat.reduceLeDiff, Nat.reduceLT, Nat.reduceBEq, Nat.reduceBNe, reduceIte, reduceCtorEq, Int.reduceToNat, Int.reduceAdd, Int.reduceSub, Int.reduceMul, Int.reduceNeg, Int.reduceLT, Int.reduceLE, Int.reduceEq, Int.reduceNe, ints, ic, big, frac]
  refine CallP_eq ho (by decide) ?_
  simp only [hci, go_sem, Int.reduceNegSucc, Nat.reduceAdd, Nat.reduceSub, Nat.reduceMul, Nat.reduceEqDiff, Nat.reduceLeDiff, Nat.reduceLT, Nat.reduceBEq, Nat.reduceBNe, reduceIte, reduceCtorEq, Int.reduceToNat, Int.reduceAdd, Int.reduceSub, Int.reduceMul, Int.reduceNeg, Int.reduceLT, Int.reduceLE, Int.reduceEq, Int.reduceNe, ints, ic, big, frac]
theorem t_prightf (r : Rat) (lp : (dig r.num.natAbs).length ≤ 50000) (lq : (dig r.den).length ≤ 50000) : Ctr G.P 19 [frac r] (· = .bool true) := by
  have := t_pfright r.num.sign (r.den : Int).sign (dig r.num.natAbs) (dig (r.den : Int).natAbs) lp (by rw [Int.natAbs_natCast]; exact lq)
  rw [right_frac] at this
  exact this
theorem t_ptimes (a b : Int) (la : (dig a.natAbs).length ≤ 100000) (lb : (dig b.natAbs).length ≤ 100000) : Ctr G.P 47 [big a, big b] (· = big (a * b)) := by
  have hm := t_pmulb a b la lb
  refine ctr_go good _ _ [.cell 4 24] Try.func47 rfl rfl (by decide +kernel) rfl ?_
  simp only [go_sem, Int.reduceNegSucc, Nat.reduceAdd, Nat.reduceSub, Nat.reduceMul, Nat.reduceEqDiff, Nat.reduceLeDiff, Nat.reduceLT, Nat.reduceBEq, Nat.reduceBNe, reduceIte, reduceCtorEq, Int.reduceToNat, Int.reduceAdd, Int.reduceSub, Int.reduceMul, Int.reduceNeg, Int.reduceLT, Int.reduceLE, Int.reduceEq, Int.reduceNe, ints, ic, big, frac]
  refine CallP_eq hm (by decide) ?_
  simp only [go_sem, Int.reduceNegSucc, Nat.reduceAdd, Nat.reduceSub, Nat.reduceMul, Nat.reduceEqDiff, Nat.reduceLeDiff, Nat.reduceLT, Nat.reduceBEq, Nat.reduceBNe, reduceIte, reduceCtorEq, Int.reduceToNat, Int.reduceAdd, Int.reduceSub, Int.reduceMul, Int.reduceNeg, Int.reduceLT, Int.reduceLE, Int.reduceEq, Int.reduceNe, ints, ic, big, frac]
set_option maxRecDepth 100000 in
theorem t_pcmpf (a b : Rat) (h1 : (dig a.num.natAbs).length ≤ 50000) (h2 : (dig a.den).length ≤ 50000) (h3 : (dig b.num.natAbs).length ≤ 50000) (h4 : (dig b.den).length ≤ 50000) : Ctr G.P 20 [frac a, frac b] (· = .int (cmpR a b)) := by
  have ra := t_prightf a h1 h2
  have rb := t_prightf b h3 h4
  have m1 := t_ptimes a.num b.den (by omega) (by rw [Int.natAbs_natCast]; omega)
  have m2 := t_ptimes b.num a.den (by omega) (by rw [Int.natAbs_natCast]; omega)
  have l1 : (dig (a.num * b.den).natAbs).length ≤ 1000000 := by
    rw [Int.natAbs_mul, Int.natAbs_natCast]; have := len_mul h1 h4; omega
  have l2 : (dig (b.num * a.den).natAbs).length ≤ 1000000 := by
    rw [Int.natAbs_mul, Int.natAbs_natCast]; have := len_mul h3 h2; omega
  have hc := t_pcompareb (a.num * b.den) (b.num * a.den) l1 l2
  simp only [big, ints] at m1 m2 hc
  refine ctr_go good _ _ [.tmp 4] Try.func20 rfl rfl (by decide +kernel) rfl ?_
  simp only [go_sem, Int.reduceNegSucc, Nat.reduceAdd, Nat.reduceSub, Nat.reduceMul, Nat.reduceEqDiff, Nat.reduceLeDiff, Nat.reduceLT, Nat.reduceBEq, Nat.reduceBNe, reduceIte, reduceCtorEq, Int.reduceToNat, Int.reduceAdd, Int.reduceSub, Int.reduceMul, Int.reduceNeg, Int.reduceLT, Int.reduceLE, Int.reduceEq, Int.reduceNe, ints, ic, big, frac]
  refine CallP_eq ra (by decide) ?_
  simp only [go_sem, Int.reduceNegSucc, Nat.reduceAdd, Nat.reduceSub, Nat.reduceMul, Nat.reduceEqDiff, Nat.reduceLeDiff, Nat.reduceLT, Nat.reduceBEq, Nat.reduceBNe, reduceIte, reduceCtorEq, Int.reduceToNat, Int.reduceAdd, Int.reduceSub, Int.reduceMul, Int.reduceNeg, Int.reduceLT, Int.reduceLE, Int.reduceEq, Int.reduceNe, ints, ic, big, frac]
  refine CallP_eq rb (by decide) ?_
  simp only [go_sem, Int.reduceNegSucc, Nat.reduceAdd, Nat.reduceSub, Nat.reduceMul, Nat.reduceEqDiff, Nat.reduceLeDiff, Nat.reduceLT, Nat.reduceBEq, Nat.reduceBNe, reduceIte, reduceCtorEq, Int.reduceToNat, Int.reduceAdd, Int.reduceSub, Int.reduceMul, Int.reduceNeg, Int.reduceLT, Int.reduceLE, Int.reduceEq, Int.reduceNe, ints, ic, big, frac]
  refine DrawP_of 12 (by decide +kernel) ?_
  simp only [go_sem, Int.reduceNegSucc, Nat.reduceAdd, Nat.reduceSub, Nat.reduceMul, Nat.reduceEqDiff, Nat.reduceLeDiff, Nat.reduceLT, Nat.reduceBEq, Nat.reduceBNe, reduceIte, reduceCtorEq, Int.reduceToNat, Int.reduceAdd, Int.reduceSub, Int.reduceMul, Int.reduceNeg, Int.reduceLT, Int.reduceLE, Int.reduceEq, Int.reduceNe, ints, ic, big, frac]
  refine CallD_eq m1 (by decide) ?_
  simp only [go_sem, Int.reduceNegSucc, Nat.reduceAdd, Nat.reduceSub, Nat.reduceMul, Nat.reduceEqDiff, Nat.reduceLeDiff, Nat.reduceLT, Nat.reduceBEq, Nat.reduceBNe, reduceIte, reduceCtorEq, Int.reduceToNat, Int.reduceAdd, Int.reduceSub, Int.reduceMul, Int.reduceNeg, Int.reduceLT, Int.reduceLE, Int.reduceEq, Int.reduceNe, ints, ic, big, frac]
  refine CallD_eq m2 (by decide) ?_
  simp only [go_sem, Int.reduceNegSucc, Nat.reduceAdd, Nat.reduceSub, Nat.reduceMul, Nat.reduceEqDiff, Nat.reduceLeDiff, Nat.reduceLT, Nat.reduceBEq, Nat.reduceBNe, reduceIte, reduceCtorEq, Int.reduceToNat, Int.reduceAdd, Int.reduceSub, Int.reduceMul, Int.reduceNeg, Int.reduceLT, Int.reduceLE, Int.reduceEq, Int.reduceNe, ints, ic, big, frac]
  refine CallD_eq hc (by decide) ?_
  simp only [cmpR, go_sem, Int.reduceNegSucc, Nat.reduceAdd, Nat.reduceSub, Nat.reduceMul, Nat.reduceEqDiff, Nat.reduceLeDiff, Nat.reduceLT, Nat.reduceBEq, Nat.reduceBNe, reduceIte, reduceCtorEq, Int.reduceToNat, Int.reduceAdd, Int.reduceSub, Int.reduceMul, Int.reduceNeg, Int.reduceLT, Int.reduceLE, Int.reduceEq, Int.reduceNe, ints, ic, big, frac]
theorem t_psignf (r : Rat) (lp : (dig r.num.natAbs).length ≤ 50000) (lq : (dig r.den).length ≤ 50000) : Ctr G.P 21 [frac r] (· = .int r.num.sign) := by
  have h := t_prightf r lp lq
  refine ctr_go good _ _ [.tmp 2] Try.func21 rfl rfl (by decide +kernel) rfl ?_
  simp only [go_sem, Int.reduceNegSucc, Nat.reduceAdd, Nat.reduceSub, Nat.reduceMul, Nat.reduceEqDiff, Nat.reduceLeDiff, Nat.reduceLT, Nat.reduceBEq, Nat.reduceBNe, reduceIte, reduceCtorEq, Int.reduceToNat, Int.reduceAdd, Int.reduceSub, Int.reduceMul, Int.reduceNeg, Int.reduceLT, Int.reduceLE, Int.reduceEq, Int.reduceNe, ints, ic, big, frac]
  refine CallP_eq h (by decide) ?_
  simp only [go_sem, Int.reduceNegSucc, Nat.reduceAdd, Nat.reduceSub, Nat.reduceMul, Nat.reduceEqDiff, Nat.reduceLeDiff, Nat.reduceLT, Nat.reduceBEq, Nat.reduceBNe, reduceIte, reduceCtorEq, Int.reduceToNat, Int.reduceAdd, Int.reduceSub, Int.reduceMul, Int.reduceNeg, Int.reduceLT, Int.reduceLE, Int.reduceEq, Int.reduceNe, ints, ic, big, frac]
set_option maxRecDepth 100000 in
theorem t_pfloor (r : Rat) (lp : (dig r.num.natAbs).length ≤ 50000) (lq : (dig r.den).length ≤ 50000) : Ctr G.P 38 [frac r] (· = big (r.num.fdiv r.den)) := by
  have h := t_prightf r lp lq
  have hd := t_pdivb r.num r.den (by have := r.den_pos; omega) lp (by rw [Int.natAbs_natCast]; exact lq)
  simp only [big, ints] at hd
  refine ctr_go good _ _ [.cell 2 24] Try.func38 rfl rfl (by decide +kernel) rfl ?_
  simp only [go_sem, Int.reduceNegSucc, Nat.reduceAdd, Nat.reduceSub, Nat.reduceMul, Nat.reduceEqDiff, Nat.reduceLeDiff, Nat.reduceLT, Nat.reduceBEq, Nat.reduceBNe, reduceIte, reduceCtorEq, Int.reduceToNat, Int.reduceAdd, Int.reduceSub, Int.reduceMul, Int.reduceNeg, Int.reduceLT, Int.reduceLE, Int.reduceEq, Int.reduceNe, ints, ic, big, frac]
  refine CallP_eq h (by decide) ?_
  simp only [go_sem, Int.reduceNegSucc, Nat.reduceAdd, Nat.reduceSub, Nat.reduceMul, Nat.reduceEqDiff, Nat.reduceLeDiff, Nat.reduceLT, Nat.reduceBEq, Nat.reduceBNe, reduceIte, reduceCtorEq, Int.reduceToNat, Int.reduceAdd, Int.reduceSub, Int.reduceMul, Int.reduceNeg, Int.reduceLT, Int.reduceLE, Int.reduceEq, Int.reduceNe, ints, ic, big, frac]
  refine CallP_eq hd (by decide) ?_
  simp only [go_sem, Int.reduceNegSucc, Nat.reduceAdd, Nat.reduceSub, Nat.reduceMul, Nat.reduceEqDiff, Nat.reduceLeDiff, Nat.reduceLT, Nat.reduceBEq, Nat.reduceBNe, reduceIte, reduceCtorEq, Int.reduceToNat, Int.reduceAdd, Int.reduceSub, Int.reduceMul, Int.reduceNeg, Int.reduceLT, Int.reduceLE, Int.reduceEq, Int.reduceNe, ints, ic, big, frac]
end Go.Proofs.Ytpnlfkaijdjhlab
