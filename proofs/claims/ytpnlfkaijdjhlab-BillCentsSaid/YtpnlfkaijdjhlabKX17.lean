/- A part of the proof: what functions of the program do, and the layer under it. No further condition. -/
import Derived.Test.YtpnlfkaijdjhlabKX14
import Derived.Test.YtpnlfkaijdjhlabKX16
import Derived.Test.YtpnlfkaijdjhlabKX15
namespace Go.Proofs.Ytpnlfkaijdjhlab
set_option linter.all false
open Go.Abs

theorem of_step {l : List Int} {m z : Int} (h : val l + 1048576 ^ l.length * m = z) : val (l ++ [m % 1048576]) + 1048576 ^ (l ++ [m % 1048576]).length * (m / 1048576) = z := by
  rw [val_snoc, List.length_append, List.length_cons, List.length_nil, pow_step, ← h]
  have e : (1048576 : Int) ^ l.length * (m % 1048576) + 1048576 ^ l.length * 1048576 * (m / 1048576) = 1048576 ^ l.length * m := by
    rw [Int.mul_assoc, ← Int.mul_add, Int.emod_add_mul_ediv]
  omega
theorem of_len {n : Int} {k : Nat} (hn : n ≠ 0) (h0 : 0 ≤ n) (hk : k ≤ 4) (h : n < 1048576 ^ (4 - k)) : k + 1 ≤ 4 ∧ n / 1048576 < 1048576 ^ (4 - (k + 1)) := by
  rcases Nat.lt_or_ge k 4 with h1 | h1
  · refine ⟨h1, ?_⟩
    rw [show 4 - k = (4 - (k + 1)) + 1 by omega, pow_step] at h
    omega
  · rw [show 4 - k = 0 by omega, Int.pow_zero] at h
    omega
set_option maxRecDepth 100000 in
set_option maxHeartbeats 1000000 in
theorem t_of (z : Int) (hz : -9223372036854775808 ≤ z ∧ z ≤ 9223372036854775807) : Ctr G.P 59 [.int z] (· = big z) := by
  by_cases h0 : z = 0
  · subst h0
    refine ctr_go good _ _ [.cell 2 24] Try.func59 rfl rfl (by decide +kernel) rfl ?_
    simp only [eq_self, dig_zero, Int.natAbs_zero, Int.sign_zero, List.map_nil, go_sem, Int.reduceNegSucc, Nat.reduceAdd, Nat.reduceSub, Nat.reduceMul, Nat.reduceEqDiff, Nat.reduceLeDiff, Nat.reduceLT, Nat.reduceBEq, Nat.reduceBNe, reduceIte, reduceCtorEq, Int.reduceToNat, Int.reduceAdd, Int.reduceSub, Int.reduceMul, Int.reduceNeg, Int.reduceLT, Int.reduceLE, Int.reduceEq, Int.reduceNe, ints, ic, big]
  · have d0 : decide (z = 0) = false := decide_eq_false h0
    have hmd : ∀ (l : List Int), OkD l → val l = z.natAbs → l.length ≤ 1000000 → Ctr G.P 79 [.int z.sign, ints l] (· = big z) := fun l ho hv hl => by
      have := t_made z.sign l ho hl
      rw [hv, Int.toNat_natCast, if_neg (by omega)] at this
      exact this
    rcases Int.lt_or_gt_of_ne h0 with hlt | hgt
    · have d1 : decide (z < 0) = true := decide_eq_true hlt
      have hsg := Int.sign_eq_neg_one_of_neg hlt
      rw [hsg] at hmd
      refine ctr_go good _ _ [.cell 2 24] Try.func59 rfl rfl (by decide +kernel) rfl ?_
      simp only [d0, d1, go_sem, Int.reduceNegSucc, Nat.reduceAdd, Nat.reduceSub, Nat.reduceMul, Nat.reduceEqDiff, Nat.reduceLeDiff, Nat.reduceLT, Nat.reduceBEq, Nat.reduceBNe, reduceIte, reduceCtorEq, Int.reduceToNat, Int.reduceAdd, Int.reduceSub, Int.reduceMul, Int.reduceNeg, Int.reduceLT, Int.reduceLE, Int.reduceEq, Int.reduceNe, ints, ic, big]
      refine LoopP_ofP [0, 2, 3, 4] [2, 22] [(4, 22, 3, 1)] (fun g : Int × List Int => ⟨[(0, .im (.int (-g.1))), (2, .loc 2 2 0 0), (3, .im (.int (-1))), (4, .vec 22 3 1 (g.2.map ic))], [(2, 2, [[.int 0, .sl []]])], [(22, 1, g.2.length)]⟩)
        (fun g => (0 ≤ g.1 ∧ g.1 ≤ -z) ∧ OkD g.2 ∧ val g.2 + 1048576 ^ g.2.length * g.1 = -z ∧ (g.2.length ≤ 4 ∧ g.1 < 1048576 ^ (4 - g.2.length))) (fun g => g.1.toNat) (-z, []) ?_ ?_ ⟨by dsimp only; omega, OkD.nil, by simp [val], by dsimp only; simp; omega⟩ ?_
      · simp only [go_sem, Int.reduceNegSucc, Nat.reduceAdd, Nat.reduceSub, Nat.reduceMul, Nat.reduceEqDiff, Nat.reduceLeDiff, Nat.reduceLT, Nat.reduceBEq, Nat.reduceBNe, reduceIte, reduceCtorEq, Int.reduceToNat, Int.reduceAdd, Int.reduceSub, Int.reduceMul, Int.reduceNeg, Int.reduceLT, Int.reduceLE, Int.reduceEq, Int.reduceNe, ints, ic, big]
        simp
      · simp only [List.map_nil, Int.neg_neg, go_sem, Int.reduceNegSucc, Nat.reduceAdd, Nat.reduceSub, Nat.reduceMul, Nat.reduceEqDiff, Nat.reduceLeDiff, Nat.reduceLT, Nat.reduceBEq, Nat.reduceBNe, reduceIte, reduceCtorEq, Int.reduceToNat, Int.reduceAdd, Int.reduceSub, Int.reduceMul, Int.reduceNeg, Int.reduceLT, Int.reduceLE, Int.reduceEq, Int.reduceNe, ints, ic, big]
      · intro ⟨n, l⟩ ⟨⟨n0, n1⟩, hl, hv, hlen, hlt'⟩
        dsimp only at n0 n1 hl hv hlen hlt'
        have hlt := hlt'
        by_cases hn : n = 0
        · subst hn
          rw [Int.mul_zero, Int.add_zero] at hv
          have hm := hmd l hl (by omega) (by omega)
          simp only [Int.neg_zero, go_sem, Int.reduceNegSucc, Nat.reduceAdd, Nat.reduceSub, Nat.reduceMul, Nat.reduceEqDiff, Nat.reduceLeDiff, Nat.reduceLT, Nat.reduceBEq, Nat.reduceBNe, reduceIte, reduceCtorEq, Int.reduceToNat, Int.reduceAdd, Int.reduceSub, Int.reduceMul, Int.reduceNeg, Int.reduceLT, Int.reduceLE, Int.reduceEq, Int.reduceNe, ints, ic, big]
          refine CallP_eq hm (by decide) ?_
          simp only [go_sem, Int.reduceNegSucc, Nat.reduceAdd, Nat.reduceSub, Nat.reduceMul, Nat.reduceEqDiff, Nat.reduceLeDiff, Nat.reduceLT, Nat.reduceBEq, Nat.reduceBNe, reduceIte, reduceCtorEq, Int.reduceToNat, Int.reduceAdd, Int.reduceSub, Int.reduceMul, Int.reduceNeg, Int.reduceLT, Int.reduceLE, Int.reduceEq, Int.reduceNe, ints, ic, big]
        · have dn : decide (-n = 0) = false := decide_eq_false (by omega)
          have hm : (-n).tmod 1048576 = -(n % 1048576) := by rw [Int.neg_tmod, Int.tmod_eq_emod_of_nonneg n0]
          have hq : IntKind.i64.wrap ((-n).tdiv 1048576) = -(n / 1048576) := by
            rw [Int.neg_tdiv, Int.tdiv_eq_ediv_of_nonneg n0]; exact i64_ok (by omega)
          by_cases hr : n % 1048576 = 0
          · have hd5 : decide (-(n % 1048576) < 0) = false := decide_eq_false (by omega)
            have hz : -(n % 1048576) = n % 1048576 := by omega
            simp only [dn, hm, hd5, hq, go_sem, Int.reduceNegSucc, Nat.reduceAdd, Nat.reduceSub, Nat.reduceMul, Nat.reduceEqDiff, Nat.reduceLeDiff, Nat.reduceLT, Nat.reduceBEq, Nat.reduceBNe, reduceIte, reduceCtorEq, Int.reduceToNat, Int.reduceAdd, Int.reduceSub, Int.reduceMul, Int.reduceNeg, Int.reduceLT, Int.reduceLE, Int.reduceEq, Int.reduceNe, ints, ic, big]
            refine ⟨ic_len _, by simp, by omega, ?_⟩
            refine RoundP_of (n / 1048576, l ++ [n % 1048576]) ?_ (by dsimp only; omega) ⟨by dsimp only; omega, hl.append (OkD.cons (by omega) OkD.nil), of_step hv, by dsimp only; rw [List.length_append, List.length_cons, List.length_nil]; exact of_len hn n0 hlen hlt⟩
            simp only [List.map_append, List.length_append, hz, go_sem, Int.reduceNegSucc, Nat.reduceAdd, Nat.reduceSub, Nat.reduceMul, Nat.reduceEqDiff, Nat.reduceLeDiff, Nat.reduceLT, Nat.reduceBEq, Nat.reduceBNe, reduceIte, reduceCtorEq, Int.reduceToNat, Int.reduceAdd, Int.reduceSub, Int.reduceMul, Int.reduceNeg, Int.reduceLT, Int.reduceLE, Int.reduceEq, Int.reduceNe, ints, ic, big]
          · have hd5 : decide (-(n % 1048576) < 0) = true := decide_eq_true (by omega)
            have hz : IntKind.i64.wrap (0 - -(n % 1048576)) = n % 1048576 := by rw [show (0 : Int) - -(n % 1048576) = n % 1048576 by omega]; exact i64_ok (by omega)
            simp only [dn, hm, hd5, hq, hz, go_sem, Int.reduceNegSucc, Nat.reduceAdd, Nat.reduceSub, Nat.reduceMul, Nat.reduceEqDiff, Nat.reduceLeDiff, Nat.reduceLT, Nat.reduceBEq, Nat.reduceBNe, reduceIte, reduceCtorEq, Int.reduceToNat, Int.reduceAdd, Int.reduceSub, Int.reduceMul, Int.reduceNeg, Int.reduceLT, Int.reduceLE, Int.reduceEq, Int.reduceNe, ints, ic, big]
            refine ⟨ic_len _, by simp, by omega, ?_⟩
            refine RoundP_of (n / 1048576, l ++ [n % 1048576]) ?_ (by dsimp only; omega) ⟨by dsimp only; omega, hl.append (OkD.cons (by omega) OkD.nil), of_step hv, by dsimp only; rw [List.length_append, List.length_cons, List.length_nil]; exact of_len hn n0 hlen hlt⟩
            simp only [List.map_append, List.length_append, hz, go_sem, Int.reduceNegSucc, Nat.reduceAdd, Nat.reduceSub, Nat.reduceMul, Nat.reduceEqDiff, Nat.reduceLeDiff, Nat.reduceLT, Nat.reduceBEq, Nat.reduceBNe, reduceIte, reduceCtorEq, Int.reduceToNat, Int.reduceAdd, Int.reduceSub, Int.reduceMul, Int.reduceNeg, Int.reduceLT, Int.reduceLE, Int.reduceEq, Int.reduceNe, ints, ic, big]
    · have d1 : decide (z < 0) = false := decide_eq_false (by omega)
      have hsg := Int.sign_eq_one_of_pos hgt
      rw [hsg] at hmd
      refine ctr_go good _ _ [.cell 2 24] Try.func59 rfl rfl (by decide +kernel) rfl ?_
      simp only [d0, d1, go_sem, Int.reduceNegSucc, Nat.reduceAdd, Nat.reduceSub, Nat.reduceMul, Nat.reduceEqDiff, Nat.reduceLeDiff, Nat.reduceLT, Nat.reduceBEq, Nat.reduceBNe, reduceIte, reduceCtorEq, Int.reduceToNat, Int.reduceAdd, Int.reduceSub, Int.reduceMul, Int.reduceNeg, Int.reduceLT, Int.reduceLE, Int.reduceEq, Int.reduceNe, ints, ic, big]
      refine LoopP_ofP [0, 2, 3, 4] [2, 22] [(4, 22, 3, 1)] (fun g : Int × List Int => ⟨[(0, .im (.int g.1)), (2, .loc 2 2 0 0), (3, .im (.int 1)), (4, .vec 22 3 1 (g.2.map ic))], [(2, 2, [[.int 0, .sl []]])], [(22, 1, g.2.length)]⟩)
        (fun g => (0 ≤ g.1 ∧ g.1 ≤ z) ∧ OkD g.2 ∧ val g.2 + 1048576 ^ g.2.length * g.1 = z ∧ (g.2.length ≤ 4 ∧ g.1 < 1048576 ^ (4 - g.2.length))) (fun g => g.1.toNat) (z, []) ?_ ?_ ⟨by dsimp only; omega, OkD.nil, by simp [val], by dsimp only; simp; omega⟩ ?_
      · simp only [go_sem, Int.reduceNegSucc, Nat.reduceAdd, Nat.reduceSub, Nat.reduceMul, Nat.reduceEqDiff, Nat.reduceLeDiff, Nat.reduceLT, Nat.reduceBEq, Nat.reduceBNe, reduceIte, reduceCtorEq, Int.reduceToNat, Int.reduceAdd, Int.reduceSub, Int.reduceMul, Int.reduceNeg, Int.reduceLT, Int.reduceLE, Int.reduceEq, Int.reduceNe, ints, ic, big]
        simp
      · simp only [List.map_nil, go_sem, Int.reduceNegSucc, Nat.reduceAdd, Nat.reduceSub, Nat.reduceMul, Nat.reduceEqDiff, Nat.reduceLeDiff, Nat.reduceLT, Nat.reduceBEq, Nat.reduceBNe, reduceIte, reduceCtorEq, Int.reduceToNat, Int.reduceAdd, Int.reduceSub, Int.reduceMul, Int.reduceNeg, Int.reduceLT, Int.reduceLE, Int.reduceEq, Int.reduceNe, ints, ic, big]
      · intro ⟨n, l⟩ ⟨⟨n0, n1⟩, hl, hv, hlen, hlt⟩
        dsimp only at n0 n1 hl hv hlen hlt
        by_cases hn : n = 0
        · subst hn
          rw [Int.mul_zero, Int.add_zero] at hv
          have hm := hmd l hl (by omega) (by omega)
          simp only [go_sem, Int.reduceNegSucc, Nat.reduceAdd, Nat.reduceSub, Nat.reduceMul, Nat.reduceEqDiff, Nat.reduceLeDiff, Nat.reduceLT, Nat.reduceBEq, Nat.reduceBNe, reduceIte, reduceCtorEq, Int.reduceToNat, Int.reduceAdd, Int.reduceSub, Int.reduceMul, Int.reduceNeg, Int.reduceLT, Int.reduceLE, Int.reduceEq, Int.reduceNe, ints, ic, big]
          refine CallP_eq hm (by decide) ?_
          simp only [go_sem, Int.reduceNegSucc, Nat.reduceAdd, Nat.reduceSub, Nat.reduceMul, Nat.reduceEqDiff, Nat.reduceLeDiff, Nat.reduceLT, Nat.reduceBEq, Nat.reduceBNe, reduceIte, reduceCtorEq, Int.reduceToNat, Int.reduceAdd, Int.reduceSub, Int.reduceMul, Int.reduceNeg, Int.reduceLT, Int.reduceLE, Int.reduceEq, Int.reduceNe, ints, ic, big]
        · have dn : decide (n = 0) = false := decide_eq_false hn
          have hm : n.tmod 1048576 = n % 1048576 := Int.tmod_eq_emod_of_nonneg n0
          have hq : IntKind.i64.wrap (n.tdiv 1048576) = n / 1048576 := by
            rw [Int.tdiv_eq_ediv_of_nonneg n0]; exact i64_ok (by omega)
          have hd5 : decide (n % 1048576 < 0) = false := decide_eq_false (by omega)
          simp only [dn, hm, hd5, hq, go_sem, Int.reduceNegSucc, Nat.reduceAdd, Nat.reduceSub, Nat.reduceMul, Nat.reduceEqDiff, Nat.reduceLeDiff, Nat.reduceLT, Nat.reduceBEq, Nat.reduceBNe, reduceIte, reduceCtorEq, Int.reduceToNat, Int.reduceAdd, Int.reduceSub, Int.reduceMul, Int.reduceNeg, Int.reduceLT, Int.reduceLE, Int.reduceEq, Int.reduceNe, ints, ic, big]
          refine ⟨ic_len _, by simp, by omega, ?_⟩
          refine RoundP_of (n / 1048576, l ++ [n % 1048576]) ?_ (by dsimp only; omega) ⟨by dsimp only; omega, hl.append (OkD.cons (by omega) OkD.nil), of_step hv, by dsimp only; rw [List.length_append, List.length_cons, List.length_nil]; exact of_len hn n0 hlen hlt⟩
          simp only [List.map_append, List.length_append, go_sem, Int.reduceNegSucc, Nat.reduceAdd, Nat.reduceSub, Nat.reduceMul, Nat.reduceEqDiff, Nat.reduceLeDiff, Nat.reduceLT, Nat.reduceBEq, Nat.reduceBNe, reduceIte, reduceCtorEq, Int.reduceToNat, Int.reduceAdd, Int.reduceSub, Int.reduceMul, Int.reduceNeg, Int.reduceLT, Int.reduceLE, Int.reduceEq, Int.reduceNe, ints, ic, big]
end Go.Proofs.Ytpnlfkaijdjhlab

namespace Go.Proofs.Ytpnlfkaijdjhlab
set_option linter.all false
open Go.Abs

theorem okd_gt {d : Int} : okd d = (!decide (d < 0) && !decide (1048575 < d)) := by
  rw [okd, show (decide (1048576 ≤ d)) = decide (1048575 < d) from decide_eq_decide.2 (by omega)]
theorem rightF_nil (s : Int) : rightF s [] = decide (s = 0) := by
  by_cases h : s = 0
  · subst h; rfl
  · rw [decide_eq_false h]
    simp [rightF, h]
theorem rightF_pos {s : Int} {l : List Int} (ha : l.all okd = true) (hl : l ≠ []) : rightF s l = ((decide (s = 1) || decide (s = -1)) && !decide (dgt l (l.length - 1) = 0)) := by
  have hz : decide ((l.length : Int) = 0) = false := decide_eq_false (by have := List.length_pos_iff.2 hl; omega)
  rw [rightF, ha, hz]
  generalize (decide (dgt l (l.length - 1) = 0)) = b
  by_cases h1 : s = 1
  · subst h1; simp
  · by_cases h2 : s = -1
    · subst h2; simp
    · simp only [Bool.true_and, Bool.false_or]
      by_cases h3 : s = 0
      · subst h3; simp
      · by_cases h4 : s < -1
        · simp [h4, h1, h2]
        · have h5 : 1 < s := by omega
          simp [h5, h1, h2]
set_option maxRecDepth 100000 in
set_option maxHeartbeats 1000000 in
theorem t_pright (s : Int) (l : List Int) (hl : l.length ≤ 1000000000) : Ctr G.P 43 [.agg [.int s, ints l]] (· = .bool (rightF s l)) := by
  refine ctr_go good _ _ [.tmp 2] Try.func43 rfl rfl (by decide +kernel) rfl ?_
  simp only [go_sem, Int.reduceNegSucc, Nat.reduceAdd, Nat.reduceSub, Nat.reduceMul, Nat.reduceEqDiff, Nat.reduceLeDiff, Nat.reduceLT, Nat.reduceBEq, Nat.reduceBNe, reduceIte, reduceCtorEq, Int.reduceToNat, Int.reduceAdd, Int.reduceSub, Int.reduceMul, Int.reduceNeg, Int.reduceLT, Int.reduceLE, Int.reduceEq, Int.reduceNe, ints, ic]
  refine LoopP_of [1, 3, 10, 11, 12] [1] (fun i : Nat => ⟨[(1, .loc 1 2 0 0), (3, .im (.int l.length)), (10, .im (.sl (l.map ic))), (11, .im (.int l.length)), (12, .im (.int i))], [(1, 2, [[.int s, ints l]])], []⟩) (fun i => i ≤ l.length ∧ (l.take i).all okd = true) (fun i => l.length - i) 0 ?_ ⟨Nat.zero_le _, rfl⟩ ?_
  · simp only [Int.natCast_zero, go_sem, Int.reduceNegSucc, Nat.reduceAdd, Nat.reduceSub, Nat.reduceMul, Nat.reduceEqDiff, Nat.reduceLeDiff, Nat.reduceLT, Nat.reduceBEq, Nat.reduceBNe, reduceIte, reduceCtorEq, Int.reduceToNat, Int.reduceAdd, Int.reduceSub, Int.reduceMul, Int.reduceNeg, Int.reduceLT, Int.reduceLE, Int.reduceEq, Int.reduceNe, ints, ic]
  · intro i ⟨hi, ha⟩
    by_cases hp : (i : Int) < l.length
    · have hd : decide ((i : Int) < l.length) = true := decide_eq_true hp
      have hx := get_nat hp
      have h1 := i64_ok (n := (i : Int) + 1) (by omega)
      have hs := all_okd_succ hp
      have hno : okd (dgt l i) = false → rightF s l = false := fun h => by
        have : l.all okd = false := by
          rw [List.all_eq_false]; exact ⟨_, List.mem_of_getElem? hx, by simp [h]⟩
        simp [rightF, this]
      simp only [hd, List.getElem?_map, hx, go_sem, Int.reduceNegSucc, Nat.reduceAdd, Nat.reduceSub, Nat.reduceMul, Nat.reduceEqDiff, Nat.reduceLeDiff, Nat.reduceLT, Nat.reduceBEq, Nat.reduceBNe, reduceIte, reduceCtorEq, Int.reduceToNat, Int.reduceAdd, Int.reduceSub, Int.reduceMul, Int.reduceNeg, Int.reduceLT, Int.reduceLE, Int.reduceEq, Int.reduceNe, ints, ic]
      refine Two_of (fun d1 => ?_) (fun d1 => ?_)
      · rw [hno (by rw [okd_gt, d1]; rfl)]
        simp only [d1, go_sem, Int.reduceNegSucc, Nat.reduceAdd, Nat.reduceSub, Nat.reduceMul, Nat.reduceEqDiff, Nat.reduceLeDiff, Nat.reduceLT, Nat.reduceBEq, Nat.reduceBNe, reduceIte, reduceCtorEq, Int.reduceToNat, Int.reduceAdd, Int.reduceSub, Int.reduceMul, Int.reduceNeg, Int.reduceLT, Int.reduceLE, Int.reduceEq, Int.reduceNe, ints, ic]
      · simp only [d1, go_sem, Int.reduceNegSucc, Nat.reduceAdd, Nat.reduceSub, Nat.reduceMul, Nat.reduceEqDiff, Nat.reduceLeDiff, Nat.reduceLT, Nat.reduceBEq, Nat.reduceBNe, reduceIte, reduceCtorEq, Int.reduceToNat, Int.reduceAdd, Int.reduceSub, Int.reduceMul, Int.reduceNeg, Int.reduceLT, Int.reduceLE, Int.reduceEq, Int.reduceNe, ints, ic]
        refine Two_of (fun d2 => ?_) (fun d2 => ?_)
        · rw [hno (by rw [okd_gt, d1, d2]; rfl)]
          simp only [go_sem, Int.reduceNegSucc, Nat.reduceAdd, Nat.reduceSub, Nat.reduceMul, Nat.reduceEqDiff, Nat.reduceLeDiff, Nat.reduceLT, Nat.reduceBEq, Nat.reduceBNe, reduceIte, reduceCtorEq, Int.reduceToNat, Int.reduceAdd, Int.reduceSub, Int.reduceMul, Int.reduceNeg, Int.reduceLT, Int.reduceLE, Int.reduceEq, Int.reduceNe, ints, ic]
        · simp only [go_sem, Int.reduceNegSucc, Nat.reduceAdd, Nat.reduceSub, Nat.reduceMul, Nat.reduceEqDiff, Nat.reduceLeDiff, Nat.reduceLT, Nat.reduceBEq, Nat.reduceBNe, reduceIte, reduceCtorEq, Int.reduceToNat, Int.reduceAdd, Int.reduceSub, Int.reduceMul, Int.reduceNeg, Int.reduceLT, Int.reduceLE, Int.reduceEq, Int.reduceNe, ints, ic]
          refine RoundP_of (i + 1) ?_ (by omega) ⟨by omega, by rw [hs, ha, okd_gt, d1, d2]; rfl⟩
          simp only [h1, Int.natCast_add, go_sem, Int.reduceNegSucc, Nat.reduceAdd, Nat.reduceSub, Nat.reduceMul, Nat.reduceEqDiff, Nat.reduceLeDiff, Nat.reduceLT, Nat.reduceBEq, Nat.reduceBNe, reduceIte, reduceCtorEq, Int.reduceToNat, Int.reduceAdd, Int.reduceSub, Int.reduceMul, Int.reduceNeg, Int.reduceLT, Int.reduceLE, Int.reduceEq, Int.reduceNe, ints, ic]
    · have hd : decide ((i : Int) < l.length) = false := decide_eq_false hp
      rw [List.take_of_length_le (by omega)] at ha
      by_cases h0 : l = []
      · subst h0
        clear hd hp
        have hd : decide ((i : Int) < 0) = false := decide_eq_false (by omega)
        rw [rightF_nil]
        simp only [List.length_nil, Int.natCast_zero, hd, Bool.true_beq, eq_self, go_sem, Int.reduceNegSucc, Nat.reduceAdd, Nat.reduceSub, Nat.reduceMul, Nat.reduceEqDiff, Nat.reduceLeDiff, Nat.reduceLT, Nat.reduceBEq, Nat.reduceBNe, reduceIte, reduceCtorEq, Int.reduceToNat, Int.reduceAdd, Int.reduceSub, Int.reduceMul, Int.reduceNeg, Int.reduceLT, Int.reduceLE, Int.reduceEq, Int.reduceNe, ints, ic]
      · have hpos := List.length_pos_iff.2 h0
        have hz : decide ((l.length : Int) = 0) = false := decide_eq_false (by omega)
        have hlast : l[l.length - 1]? = some (dgt l (l.length - 1)) := get_nat (by omega)
        have hw := i64_ok (n := (l.length : Int) - 1) (by omega)
        have hn : ((l.length : Int) - 1).toNat = l.length - 1 := by omega
        have hn0 : (0 : Int) ≤ (l.length : Int) - 1 := by omega
        have hn1 : (l.length : Int) - 1 < l.length := by omega
        rw [rightF_pos ha h0]
        simp only [hd, hz, go_sem, Int.reduceNegSucc, Nat.reduceAdd, Nat.reduceSub, Nat.reduceMul, Nat.reduceEqDiff, Nat.reduceLeDiff, Nat.reduceLT, Nat.reduceBEq, Nat.reduceBNe, reduceIte, reduceCtorEq, Int.reduceToNat, Int.reduceAdd, Int.reduceSub, Int.reduceMul, Int.reduceNeg, Int.reduceLT, Int.reduceLE, Int.reduceEq, Int.reduceNe, ints, ic]
        refine Two_of (fun d1 => ?_) (fun d1 => ?_)
        · simp only [d1, hw, hn, hn0, hn1, List.getElem?_map, hlast, go_sem, Int.reduceNegSucc, Nat.reduceAdd, Nat.reduceSub, Nat.reduceMul, Nat.reduceEqDiff, Nat.reduceLeDiff, Nat.reduceLT, Nat.reduceBEq, Nat.reduceBNe, reduceIte, reduceCtorEq, Int.reduceToNat, Int.reduceAdd, Int.reduceSub, Int.reduceMul, Int.reduceNeg, Int.reduceLT, Int.reduceLE, Int.reduceEq, Int.reduceNe, ints, ic]
        · simp only [d1, go_sem, Int.reduceNegSucc, Nat.reduceAdd, Nat.reduceSub, Nat.reduceMul, Nat.reduceEqDiff, Nat.reduceLeDiff, Nat.reduceLT, Nat.reduceBEq, Nat.reduceBNe, reduceIte, reduceCtorEq, Int.reduceToNat, Int.reduceAdd, Int.reduceSub, Int.reduceMul, Int.reduceNeg, Int.reduceLT, Int.reduceLE, Int.reduceEq, Int.reduceNe, ints, ic]
          refine Two_of (fun d2 => ?_) (fun d2 => ?_)
          · simp only [d1, d2, hw, hn, hn0, hn1, List.getElem?_map, hlast, go_sem, Int.reduceNegSucc, Nat.reduceAdd, Nat.reduceSub, Nat.reduceMul, Nat.reduceEqDiff, Nat.reduceLeDiff, Nat.reduceLT, Nat.reduceBEq, Nat.reduceBNe, reduceIte, reduceCtorEq, Int.reduceToNat, Int.reduceAdd, Int.reduceSub, Int.reduceMul, Int.reduceNeg, Int.reduceLT, Int.reduceLE, Int.reduceEq, Int.reduceNe, ints, ic]
          · simp only [d1, d2, go_sem, Int.reduceNegSucc, Nat.reduceAdd, Nat.reduceSub, Nat.reduceMul, Nat.reduceEqDiff, Nat.reduceLeDiff, Nat.reduceLT, Nat.reduceBEq, Nat.reduceBNe, reduceIte, reduceCtorEq, Int.reduceToNat, Int.reduceAdd, Int.reduceSub, Int.reduceMul, Int.reduceNeg, Int.reduceLT, Int.reduceLE, Int.reduceEq, Int.reduceNe, ints, ic]
end Go.Proofs.Ytpnlfkaijdjhlab

namespace Go.Proofs.Ytpnlfkaijdjhlab
set_option linter.all false
open Go.Abs

set_option maxRecDepth 100000 in
set_option maxHeartbeats 2000000 in
theorem t_psub (a b : List Int) (ha : OkD a) (hb : OkD b) (hab : val b ≤ val a) (la : a.length ≤ 1000000) (lb : b.length ≤ 1000000) : Ctr G.P 81 [ints a, ints b] (· = ints (dig (val a - val b).toNat)) := by
  by_cases hne : a = []
  · subst hne
    have h0 := val_nonneg hb
    have hv : (val ([] : List Int) - val b).toNat = 0 := by simp only [val] at *; omega
    rw [hv, dig_zero]
    have hc := t_clone [] (by simp)
    have ht := t_ptrim [] OkD.nil (by simp)
    have hz : dig (val ([] : List Int)).toNat = [] := dig_zero
    rw [hz] at ht
    simp only [ints, List.map_nil] at hc ht
    refine ctr_go good _ _ [.tmp 4] Try.func81 rfl rfl (by decide +kernel) rfl ?_
    simp only [List.map_nil, go_sem, Int.reduceNegSucc, Nat.reduceAdd, Nat.reduceSub, Nat.reduceMul, Nat.reduceEqDiff, Nat.reduceLeDiff, Nat.reduceLT, Nat.reduceBEq, Nat.reduceBNe, reduceIte, reduceCtorEq, Int.reduceToNat, Int.reduceAdd, Int.reduceSub, Int.reduceMul, Int.reduceNeg, Int.reduceLT, Int.reduceLE, Int.reduceEq, Int.reduceNe, ints, ic, mb20, pw20, fd20]
    refine CallP_eq hc (by decide) ?_
    simp only [go_sem, Int.reduceNegSucc, Nat.reduceAdd, Nat.reduceSub, Nat.reduceMul, Nat.reduceEqDiff, Nat.reduceLeDiff, Nat.reduceLT, Nat.reduceBEq, Nat.reduceBNe, reduceIte, reduceCtorEq, Int.reduceToNat, Int.reduceAdd, Int.reduceSub, Int.reduceMul, Int.reduceNeg, Int.reduceLT, Int.reduceLE, Int.reduceEq, Int.reduceNe, ints, ic, mb20, pw20, fd20]
    refine LoopP_of [1, 5, 6, 12, 13] [] (fun g : Unit => ⟨[(1, .im (.sl (b.map ic))), (5, .im (.sl [])), (6, .im (.int 0)), (12, .im (.int 0)), (13, .im (.int 0))], [], []⟩) (fun _ => True) (fun _ => 0) () ?_ trivial ?_
    · simp only [Int.natCast_zero, go_sem, Int.reduceNegSucc, Nat.reduceAdd, Nat.reduceSub, Nat.reduceMul, Nat.reduceEqDiff, Nat.reduceLeDiff, Nat.reduceLT, Nat.reduceBEq, Nat.reduceBNe, reduceIte, reduceCtorEq, Int.reduceToNat, Int.reduceAdd, Int.reduceSub, Int.reduceMul, Int.reduceNeg, Int.reduceLT, Int.reduceLE, Int.reduceEq, Int.reduceNe, ints, ic, mb20, pw20, fd20]
    intro _ _
    have hd : decide ((0 : Int) < 0) = false := by decide
    simp only [hd, Int.lt_irrefl, go_sem, Int.reduceNegSucc, Nat.reduceAdd, Nat.reduceSub, Nat.reduceMul, Nat.reduceEqDiff, Nat.reduceLeDiff, Nat.reduceLT, Nat.reduceBEq, Nat.reduceBNe, reduceIte, reduceCtorEq, Int.reduceToNat, Int.reduceAdd, Int.reduceSub, Int.reduceMul, Int.reduceNeg, Int.reduceLT, Int.reduceLE, Int.reduceEq, Int.reduceNe, ints, ic, mb20, pw20, fd20]
    refine CallP_eq ht (by decide) ?_
    simp only [go_sem, Int.reduceNegSucc, Nat.reduceAdd, Nat.reduceSub, Nat.reduceMul, Nat.reduceEqDiff, Nat.reduceLeDiff, Nat.reduceLT, Nat.reduceBEq, Nat.reduceBNe, reduceIte, reduceCtorEq, Int.reduceToNat, Int.reduceAdd, Int.reduceSub, Int.reduceMul, Int.reduceNeg, Int.reduceLT, Int.reduceLE, Int.reduceEq, Int.reduceNe, ints, ic, mb20, pw20, fd20]
  have hc := t_cloneO a hne (by omega)
  simp only [ints] at hc
  refine ctr_go good _ _ [.tmp 4] Try.func81 rfl rfl (by decide +kernel) rfl ?_
  simp only [go_sem, Int.reduceNegSucc, Nat.reduceAdd, Nat.reduceSub, Nat.reduceMul, Nat.reduceEqDiff, Nat.reduceLeDiff, Nat.reduceLT, Nat.reduceBEq, Nat.reduceBNe, reduceIte, reduceCtorEq, Int.reduceToNat, Int.reduceAdd, Int.reduceSub, Int.reduceMul, Int.reduceNeg, Int.reduceLT, Int.reduceLE, Int.reduceEq, Int.reduceNe, ints, ic, mb20, pw20, fd20]
  refine CallP_m [] (hc) (by decide) (by simp) (by simp [rnm, look]) (by repeat' (first | exact trivial | refine ⟨rfl, ?_⟩)) rfl rfl rfl rfl ?_
  simp only [go_sem, Int.reduceNegSucc, Nat.reduceAdd, Nat.reduceSub, Nat.reduceMul, Nat.reduceEqDiff, Nat.reduceLeDiff, Nat.reduceLT, Nat.reduceBEq, Nat.reduceBNe, reduceIte, reduceCtorEq, Int.reduceToNat, Int.reduceAdd, Int.reduceSub, Int.reduceMul, Int.reduceNeg, Int.reduceLT, Int.reduceLE, Int.reduceEq, Int.reduceNe, ints, ic, mb20, pw20, fd20]
  refine LoopP_of [1, 5, 6, 11, 12, 13] [10] (fun g : Nat × List Int × Int => ⟨[(1, .im (.sl (b.map ic))), (5, .gsl 10 3 1 a.length), (6, .im (.int g.2.2)), (11, .gsl 10 3 1 a.length), (12, .im (.int a.length)), (13, .im (.int g.1))], [(10, 1, g.2.1.map ic)], []⟩)
    (fun g => g.1 ≤ a.length ∧ g.2.1.length = a.length ∧ OkD g.2.1 ∧ 0 ≤ g.2.2 ∧ g.2.2 ≤ 1 ∧ val g.2.1 - 1048576 ^ g.1 * g.2.2 = val a - val (b.take g.1))
    (fun g => a.length - g.1) (0, a, 0) ?_ ⟨Nat.zero_le _, rfl, ha, Int.le_refl _, by dsimp only; omega, by dsimp only; simp [val]⟩ ?_
  · simp only [Int.natCast_zero, go_sem, Int.reduceNegSucc, Nat.reduceAdd, Nat.reduceSub, Nat.reduceMul, Nat.reduceEqDiff, Nat.reduceLeDiff, Nat.reduceLT, Nat.reduceBEq, Nat.reduceBNe, reduceIte, reduceCtorEq, Int.reduceToNat, Int.reduceAdd, Int.reduceSub, Int.reduceMul, Int.reduceNeg, Int.reduceLT, Int.reduceLE, Int.reduceEq, Int.reduceNe, ints, ic, mb20, pw20, fd20]
  intro ⟨i, out, c⟩ ⟨hi, hl, ho, hc0, hc1, hv⟩
  dsimp only at hi hl ho hc0 hc1 hv
  by_cases hp : (i : Int) < a.length
  case neg =>
    have hd : decide ((i : Int) < a.length) = false := decide_eq_false hp
    have hia : i = a.length := by omega
    subst hia
    have hvv : val out = val a - val b := by
      have h1 := val_lt ha
      have h2 := val_lt ho
      have h3 := val_nonneg ho
      rw [hl] at h2
      rw [take_of_lt hb (by omega)] at hv
      generalize (1048576 : Int) ^ a.length = p at *
      have : c = 0 ∨ c = 1 := by omega
      rcases this with rfl | rfl
      · omega
      · omega
    have ht := t_ptrim out ho (by omega)
    rw [hvv] at ht
    have hall : (out.map ic).take a.length = out.map ic := List.take_of_length_le (by rw [List.length_map]; omega)
    have hle : a.length ≤ out.length := by omega
    simp only [ints] at ht
    simp only [hd, hall, hle, go_sem, Int.reduceNegSucc, Nat.reduceAdd, Nat.reduceSub, Nat.reduceMul, Nat.reduceEqDiff, Nat.reduceLeDiff, Nat.reduceLT, Nat.reduceBEq, Nat.reduceBNe, reduceIte, reduceCtorEq, Int.reduceToNat, Int.reduceAdd, Int.reduceSub, Int.reduceMul, Int.reduceNeg, Int.reduceLT, Int.reduceLE, Int.reduceEq, Int.reduceNe, ints, ic, mb20, pw20, fd20]
    refine CallP_eq ht (by decide) ?_
    simp only [go_sem, Int.reduceNegSucc, Nat.reduceAdd, Nat.reduceSub, Nat.reduceMul, Nat.reduceEqDiff, Nat.reduceLeDiff, Nat.reduceLT, Nat.reduceBEq, Nat.reduceBNe, reduceIte, reduceCtorEq, Int.reduceToNat, Int.reduceAdd, Int.reduceSub, Int.reduceMul, Int.reduceNeg, Int.reduceLT, Int.reduceLE, Int.reduceEq, Int.reduceNe, ints, ic, mb20, pw20, fd20]
  case pos =>
    have hd : decide ((i : Int) < a.length) = true := decide_eq_true hp
    have hda := ho.dgt i
    have hdb := hb.dgt i
    have h1 := i64_ok (n := (i : Int) + 1) (by omega)
    have hy : out[i]? = some (dgt out i) := get_nat (by omega)
    have w1 := i64_ok (n := dgt out i - c) (by omega)
    have w2 := i64_ok (n := dgt out i - c - dgt b i) (by omega)
    have hs := sub_step (by omega : i < out.length) hv rfl
    have hn : dgt out i - c - dgt b i = dgt out i - dgt b i - c := by omega
    rw [hn] at w2
    generalize hN : dgt out i - dgt b i - c = n at *
    have a1 := and20 n
    have a2 := and1 (n / 1048576) (by omega)
    have a3 : n / 1048576 % 2 = -(n / 1048576) := by omega
    rw [a3] at a2
    have fin : (0 ≤ -(n / 1048576) ∧ -(n / 1048576) ≤ 1) ∧ (out.set i (n % 1048576)).length = a.length ∧ OkD (out.set i (n % 1048576)) :=
      ⟨by omega, by rw [List.length_set]; exact hl, ho.set (by omega)⟩
    obtain ⟨f1, f2, f3⟩ := fin
    by_cases hbl : (i : Int) < b.length
    · have hd2 : decide ((i : Int) < b.length) = true := decide_eq_true hbl
      have hxb := get_nat hbl
      simp only [hd, hd2, List.getElem?_map, hxb, w1, hn, hN, w2, hp, hy, a1, a2, go_sem, Int.reduceNegSucc, Nat.reduceAdd, Nat.reduceSub, Nat.reduceMul, Nat.reduceEqDiff, Nat.reduceLeDiff, Nat.reduceLT, Nat.reduceBEq, Nat.reduceBNe, reduceIte, reduceCtorEq, Int.reduceToNat, Int.reduceAdd, Int.reduceSub, Int.reduceMul, Int.reduceNeg, Int.reduceLT, Int.reduceLE, Int.reduceEq, Int.reduceNe, ints, ic, mb20, pw20, fd20]
      refine RoundP_of (i + 1, out.set i (n % 1048576), -(n / 1048576)) ?_ ?_ ⟨?_, f2, f3, f1.1, f1.2, hs⟩
      · simp only [h1, hn, hN, w2, a1, a2, Int.natCast_add, List.map_set, go_sem, Int.reduceNegSucc, Nat.reduceAdd, Nat.reduceSub, Nat.reduceMul, Nat.reduceEqDiff, Nat.reduceLeDiff, Nat.reduceLT, Nat.reduceBEq, Nat.reduceBNe, reduceIte, reduceCtorEq, Int.reduceToNat, Int.reduceAdd, Int.reduceSub, Int.reduceMul, Int.reduceNeg, Int.reduceLT, Int.reduceLE, Int.reduceEq, Int.reduceNe, ints, ic, mb20, pw20, fd20]
      · show a.length - (i + 1) < a.length - i; omega
      · show i + 1 ≤ a.length; omega
    · have hd2 : decide ((i : Int) < b.length) = false := decide_eq_false hbl
      have hb0 : dgt b i = 0 := dgt_none (by omega)
      have hn2 : dgt out i - c = n := by omega
      rw [hn2] at w1
      simp only [hd, hd2, List.getElem?_map, hn2, w1, hp, hy, a1, a2, go_sem, Int.reduceNegSucc, Nat.reduceAdd, Nat.reduceSub, Nat.reduceMul, Nat.reduceEqDiff, Nat.reduceLeDiff, Nat.reduceLT, Nat.reduceBEq, Nat.reduceBNe, reduceIte, reduceCtorEq, Int.reduceToNat, Int.reduceAdd, Int.reduceSub, Int.reduceMul, Int.reduceNeg, Int.reduceLT, Int.reduceLE, Int.reduceEq, Int.reduceNe, ints, ic, mb20, pw20, fd20]
      refine RoundP_of (i + 1, out.set i (n % 1048576), -(n / 1048576)) ?_ ?_ ⟨?_, f2, f3, f1.1, f1.2, hs⟩
      · simp only [h1, hn2, w1, a1, a2, Int.natCast_add, List.map_set, go_sem, Int.reduceNegSucc, Nat.reduceAdd, Nat.reduceSub, Nat.reduceMul, Nat.reduceEqDiff, Nat.reduceLeDiff, Nat.reduceLT, Nat.reduceBEq, Nat.reduceBNe, reduceIte, reduceCtorEq, Int.reduceToNat, Int.reduceAdd, Int.reduceSub, Int.reduceMul, Int.reduceNeg, Int.reduceLT, Int.reduceLE, Int.reduceEq, Int.reduceNe, ints, ic, mb20, pw20, fd20]
      · show a.length - (i + 1) < a.length - i; omega
      · show i + 1 ≤ a.length; omega
end Go.Proofs.Ytpnlfkaijdjhlab

namespace Go.Proofs.Ytpnlfkaijdjhlab
set_option linter.all false
open Go.Abs

theorem big_of {s : Int} {l : List Int} (h : rightF s l = true) : ∃ z : Int, s = z.sign ∧ l = dig z.natAbs := by
  have h0 := h
  rw [rightF, Bool.and_eq_true] at h0
  have hall := h0.1
  have hok : OkD l := all_okd.1 hall
  by_cases hl : l = []
  · subst hl
    rw [rightF_nil] at h
    exact ⟨0, of_decide_eq_true h, by rw [Int.natAbs_zero, dig_zero]⟩
  · rw [rightF_pos hall hl, Bool.and_eq_true, Bool.or_eq_true, Bool.not_eq_true', decide_eq_true_eq, decide_eq_true_eq, decide_eq_false_iff_not] at h
    have hlp := List.length_pos_iff.2 hl
    have hlast : l.getLast? ≠ some 0 := fun e => h.2 (by
      rw [List.getLast?_eq_getElem?] at e
      have := get_nat (l := l) (i := l.length - 1) (by omega)
      rw [e] at this; exact (Option.some.inj this).symm)
    have he := eq_dig hok hlast
    have hne : (val l).toNat ≠ 0 := fun e => hl (by rw [e, dig_zero] at he; exact he)
    rcases h.1 with h1 | h1
    · exact ⟨(val l).toNat, by rw [h1, Int.sign_eq_one_of_pos (by omega)], by rw [Int.natAbs_natCast]; exact he⟩
    · exact ⟨-(val l).toNat, by rw [h1, Int.sign_eq_neg_one_of_neg (by omega)], by rw [Int.natAbs_neg, Int.natAbs_natCast]; exact he⟩
theorem fdiv_uniq {a b q r : Int} (h : a = b * q + r) (h1 : (0 ≤ r ∧ r < b) ∨ (b < r ∧ r ≤ 0)) : a.fdiv b = q ∧ a.fmod b = r := by
  have hq : a.fdiv b = q := by
    rcases h1 with h1 | h1
    · rw [Int.fdiv_eq_ediv_of_nonneg _ (by omega)]
      exact ((Int.ediv_emod_unique (a := a) (b := b) (q := q) (r := r) (by omega)).2 ⟨by omega, h1⟩).1
    · rw [← Int.neg_fdiv_neg, Int.fdiv_eq_ediv_of_nonneg _ (by omega)]
      exact ((Int.ediv_emod_unique (a := -a) (b := -b) (q := q) (r := -r) (by omega)).2 ⟨by rw [h, Int.neg_mul]; omega, by omega⟩).1
  exact ⟨hq, by rw [Int.fmod_def, hq]; omega⟩
/-- Division of the digits, and what follows of it. -/
theorem fdiv_same {a b : Int} (hb : b ≠ 0) (h : ¬ a.sign * b.sign < 0 ∨ a.natAbs % b.natAbs = 0) :
    (a.natAbs / b.natAbs = (a.fdiv b).natAbs ∧ (a.fdiv b ≠ 0 → a.sign * b.sign = (a.fdiv b).sign)) ∧ (a.natAbs % b.natAbs = (a.fmod b).natAbs ∧ (a.fmod b ≠ 0 → a.sign = (a.fmod b).sign)) := by
  have hd := Nat.div_add_mod a.natAbs b.natAbs
  have hm := Nat.mod_lt a.natAbs (y := b.natAbs) (by omega)
  generalize a.natAbs / b.natAbs = q at *
  generalize a.natAbs % b.natAbs = r at *
  have hd' : (b.natAbs : Int) * q + r = a.natAbs := by exact_mod_cast hd
  have hp : ∀ n : Nat, (n : Int) ≠ 0 → (n : Int).sign = 1 := fun n hn => Int.sign_eq_one_of_pos (by omega)
  have hn : ∀ n : Nat, -(n : Int) ≠ 0 → (-(n : Int)).sign = -1 := fun n hn => Int.sign_eq_neg_one_of_neg (by omega)
  rcases Int.lt_trichotomy a 0 with ha | ha | ha
  · rw [Int.sign_eq_neg_one_of_neg ha] at h ⊢
    rcases Int.lt_or_gt_of_ne hb with h1 | h1
    · rw [Int.sign_eq_neg_one_of_neg h1] at h ⊢
      have e1 : (b.natAbs : Int) = -b := by omega
      rw [e1, Int.neg_mul] at hd'
      obtain ⟨f1, f2⟩ := fdiv_uniq (a := a) (b := b) (q := q) (r := -r) (by omega) (by omega)
      rw [f1, f2]
      exact ⟨⟨(Int.natAbs_natCast q).symm, fun h => (hp q h).symm⟩, by omega, fun h => (hn r h).symm⟩
    · rw [Int.sign_eq_one_of_pos h1] at h ⊢
      have hr : r = 0 := h.resolve_left (by omega)
      subst hr
      have e1 : (b.natAbs : Int) = b := by omega
      rw [e1] at hd'
      obtain ⟨f1, f2⟩ := fdiv_uniq (a := a) (b := b) (q := -q) (r := 0) (by rw [Int.mul_neg]; omega) (by omega)
      rw [f1, f2]
      exact ⟨⟨by omega, fun h => (hn q h).symm⟩, rfl, fun h => absurd rfl h⟩
  · subst ha
    have hr : r = 0 ∧ b.natAbs * q = 0 := by simp at hd; omega
    have hq : q = 0 := by
      rcases Nat.mul_eq_zero.1 hr.2 with h | h <;> omega
    rw [hr.1, hq]
    simp
  · rw [Int.sign_eq_one_of_pos ha] at h ⊢
    rcases Int.lt_or_gt_of_ne hb with h1 | h1
    · rw [Int.sign_eq_neg_one_of_neg h1] at h ⊢
      have hr : r = 0 := h.resolve_left (by omega)
      subst hr
      have e1 : (b.natAbs : Int) = -b := by omega
      rw [e1, Int.neg_mul] at hd'
      obtain ⟨f1, f2⟩ := fdiv_uniq (a := a) (b := b) (q := -q) (r := 0) (by rw [Int.mul_neg]; omega) (by omega)
      rw [f1, f2]
      exact ⟨⟨by omega, fun h => (hn q h).symm⟩, rfl, fun h => absurd rfl h⟩
    · rw [Int.sign_eq_one_of_pos h1] at h ⊢
      have e1 : (b.natAbs : Int) = b := by omega
      rw [e1] at hd'
      obtain ⟨f1, f2⟩ := fdiv_uniq (a := a) (b := b) (q := q) (r := r) (by omega) (by omega)
      rw [f1, f2]
      exact ⟨⟨(Int.natAbs_natCast q).symm, fun h => (hp q h).symm⟩, (Int.natAbs_natCast r).symm, fun h => (hp r h).symm⟩
theorem fdiv_opp {a b : Int} (h : a.sign * b.sign < 0) (hr : a.natAbs % b.natAbs ≠ 0) :
    (a.natAbs / b.natAbs + 1 = (a.fdiv b).natAbs ∧ (a.fdiv b ≠ 0 → -1 = (a.fdiv b).sign)) ∧ (b.natAbs - a.natAbs % b.natAbs = (a.fmod b).natAbs ∧ (a.fmod b ≠ 0 → b.sign = (a.fmod b).sign)) := by
  have hb : b ≠ 0 := fun e => by subst e; simp at h
  have ha : a ≠ 0 := fun e => by subst e; simp at h
  have hd := Nat.div_add_mod a.natAbs b.natAbs
  have hm := Nat.mod_lt a.natAbs (y := b.natAbs) (by omega)
  generalize a.natAbs / b.natAbs = q at *
  generalize a.natAbs % b.natAbs = r at *
  have hd' : (b.natAbs : Int) * q + r = a.natAbs := by exact_mod_cast hd
  have hn : (-((q : Int) + 1)).sign = -1 := Int.sign_eq_neg_one_of_neg (by omega)
  rcases Int.lt_or_gt_of_ne ha with ha | ha
  · rw [Int.sign_eq_neg_one_of_neg ha] at h
    rcases Int.lt_or_gt_of_ne hb with h1 | h1
    · rw [Int.sign_eq_neg_one_of_neg h1] at h; omega
    · have e1 : (b.natAbs : Int) = b := by omega
      rw [e1] at hd'
      obtain ⟨f1, f2⟩ := fdiv_uniq (a := a) (b := b) (q := -((q : Int) + 1)) (r := b - r) (by rw [Int.mul_neg, Int.mul_add, Int.mul_one]; omega) (by omega)
      rw [f1, f2]
      exact ⟨⟨by omega, fun _ => hn.symm⟩, by omega, fun _ => by rw [Int.sign_eq_one_of_pos h1, Int.sign_eq_one_of_pos (by omega)]⟩
  · rw [Int.sign_eq_one_of_pos ha] at h
    rcases Int.lt_or_gt_of_ne hb with h1 | h1
    · have e1 : (b.natAbs : Int) = -b := by omega
      rw [e1, Int.neg_mul] at hd'
      obtain ⟨f1, f2⟩ := fdiv_uniq (a := a) (b := b) (q := -((q : Int) + 1)) (r := b + r) (by rw [Int.mul_neg, Int.mul_add, Int.mul_one]; omega) (by omega)
      rw [f1, f2]
      exact ⟨⟨by omega, fun _ => hn.symm⟩, by omega, fun _ => by rw [Int.sign_eq_neg_one_of_neg h1, Int.sign_eq_neg_one_of_neg (by omega)]⟩
    · rw [Int.sign_eq_one_of_pos h1] at h; omega
theorem t_prightb (z : Int) (h : (dig z.natAbs).length ≤ 1000000) : Ctr G.P 43 [big z] (· = .bool true) := by
  have := t_pright z.sign (dig z.natAbs) (by omega)
  rw [right_big] at this
  exact this
set_option maxRecDepth 100000 in
theorem t_signed (s z : Int) (n : Nat) (hn : n = z.natAbs) (hs : z ≠ 0 → s = z.sign) (h : (dig z.natAbs).length ≤ 1000000) : Ctr G.P 68 [.int s, ints (dig n)] (· = big z) := by
  subst hn
  have ht := t_ptrim (dig z.natAbs) (dig_ok _) h
  rw [val_dig, Int.toNat_natCast] at ht
  by_cases hz : z = 0
  · subst hz
    rw [Int.natAbs_zero, dig_zero] at ht ⊢
    refine ctr_go good _ _ [.cell 4 24] Try.func68 rfl rfl (by decide +kernel) rfl ?_
    simp only [go_sem, Int.reduceNegSucc, Nat.reduceAdd, Nat.reduceSub, Nat.reduceMul, Nat.reduceEqDiff, Nat.reduceLeDiff, Nat.reduceLT, Nat.reduceBEq, Nat.reduceBNe, reduceIte, reduceCtorEq, Int.reduceToNat, Int.reduceAdd, Int.reduceSub, Int.reduceMul, Int.reduceNeg, Int.reduceLT, Int.reduceLE, Int.reduceEq, Int.reduceNe, ints, ic, big]
    refine CallP_eq ht (by decide) ?_
    simp only [Int.natAbs_zero, dig_zero, List.length_nil, Int.natCast_zero, eq_self, List.map_nil, Int.sign_zero, go_sem, Int.reduceNegSucc, Nat.reduceAdd, Nat.reduceSub, Nat.reduceMul, Nat.reduceEqDiff, Nat.reduceLeDiff, Nat.reduceLT, Nat.reduceBEq, Nat.reduceBNe, reduceIte, reduceCtorEq, Int.reduceToNat, Int.reduceAdd, Int.reduceSub, Int.reduceMul, Int.reduceNeg, Int.reduceLT, Int.reduceLE, Int.reduceEq, Int.reduceNe, ints, ic, big]
  · have hne : decide (((dig z.natAbs).length : Int) = 0) = false := decide_eq_false fun h => by
      have : dig z.natAbs = [] := List.length_eq_zero_iff.1 (by omega)
      rw [dig_nil] at this; omega
    rw [hs hz]
    refine ctr_go good _ _ [.cell 4 24] Try.func68 rfl rfl (by decide +kernel) rfl ?_
    simp only [go_sem, Int.reduceNegSucc, Nat.reduceAdd, Nat.reduceSub, Nat.reduceMul, Nat.reduceEqDiff, Nat.reduceLeDiff, Nat.reduceLT, Nat.reduceBEq, Nat.reduceBNe, reduceIte, reduceCtorEq, Int.reduceToNat, Int.reduceAdd, Int.reduceSub, Int.reduceMul, Int.reduceNeg, Int.reduceLT, Int.reduceLE, Int.reduceEq, Int.reduceNe, ints, ic, big]
    refine CallP_eq ht (by decide) ?_
    simp only [hne, go_sem, Int.reduceNegSucc, Nat.reduceAdd, Nat.reduceSub, Nat.reduceMul, Nat.reduceEqDiff, Nat.reduceLeDiff, Nat.reduceLT, Nat.reduceBEq, Nat.reduceBNe, reduceIte, reduceCtorEq, Int.reduceToNat, Int.reduceAdd, Int.reduceSub, Int.reduceMul, Int.reduceNeg, Int.reduceLT, Int.reduceLE, Int.reduceEq, Int.reduceNe, ints, ic, big]
theorem t_checked (z : Int) : Ctr G.P 65 [.bool true, big z] (· = .tup [big z, .int 0]) := by
  refine ctr_go good _ _ [.cell 4 24, .tmp 5] Try.func65 rfl rfl (by decide +kernel) rfl ?_
  simp only [go_sem, Int.reduceNegSucc, Nat.reduceAdd, Nat.reduceSub, Nat.reduceMul, Nat.reduceEqDiff, Nat.reduceLeDiff, Nat.reduceLT, Nat.reduceBEq, Nat.reduceBNe, reduceIte, reduceCtorEq, Int.reduceToNat, Int.reduceAdd, Int.reduceSub, Int.reduceMul, Int.reduceNeg, Int.reduceLT, Int.reduceLE, Int.reduceEq, Int.reduceNe, ints, ic, big]
set_option maxRecDepth 100000 in
theorem t_pmulb (a b : Int) (la : (dig a.natAbs).length ≤ 100000) (lb : (dig b.natAbs).length ≤ 100000) : Ctr G.P 71 [big a, big b] (· = .tup [big (a * b), .int 0]) := by
  have ra := t_prightb a (by omega)
  have rb := t_prightb b (by omega)
  have ht := t_pmul (dig a.natAbs) (dig b.natAbs) (dig_ok _) (dig_ok _) la lb
  rw [val_dig, val_dig, ← Int.natCast_mul, Int.toNat_natCast] at ht
  have hl : (dig (a * b).natAbs).length ≤ 1000000 := by
    rw [Int.natAbs_mul]; have := len_mul la lb; omega
  have hm := t_signed (a.sign * b.sign) (a * b) (a.natAbs * b.natAbs) (by rw [Int.natAbs_mul]) (fun _ => (Int.sign_mul a b).symm) hl
  have hc := t_checked (a * b)
  have w := i64_ok (n := a.sign * b.sign) (by rw [← Int.sign_mul]; have := sign_le (a * b); omega)
  refine ctr_go good _ _ [.cell 4 24, .tmp 5] Try.func71 rfl rfl (by decide +kernel) rfl ?_
  simp only [go_sem, Int.reduceNegSucc, Nat.reduceAdd, Nat.reduceSub, Nat.reduceMul, Nat.reduceEqDiff, Nat.reduceLeDiff, Nat.reduceLT, Nat.reduceBEq, Nat.reduceBNe, reduceIte, reduceCtorEq, Int.reduceToNat, Int.reduceAdd, Int.reduceSub, Int.reduceMul, Int.reduceNeg, Int.reduceLT, Int.reduceLE, Int.reduceEq, Int.reduceNe, ints, ic, big]
  refine CallP_eq ra (by decide) ?_
  simp only [go_sem, Int.reduceNegSucc, Nat.reduceAdd, Nat.reduceSub, Nat.reduceMul, Nat.reduceEqDiff, Nat.reduceLeDiff, Nat.reduceLT, Nat.reduceBEq, Nat.reduceBNe, reduceIte, reduceCtorEq, Int.reduceToNat, Int.reduceAdd, Int.reduceSub, Int.reduceMul, Int.reduceNeg, Int.reduceLT, Int.reduceLE, Int.reduceEq, Int.reduceNe, ints, ic, big]
  refine CallP_eq rb (by decide) ?_
  simp only [go_sem, Int.reduceNegSucc, Nat.reduceAdd, Nat.reduceSub, Nat.reduceMul, Nat.reduceEqDiff, Nat.reduceLeDiff, Nat.reduceLT, Nat.reduceBEq, Nat.reduceBNe, reduceIte, reduceCtorEq, Int.reduceToNat, Int.reduceAdd, Int.reduceSub, Int.reduceMul, Int.reduceNeg, Int.reduceLT, Int.reduceLE, Int.reduceEq, Int.reduceNe, ints, ic, big]
  refine DrawS_of (by decide +kernel) ?_
  simp only [w, go_sem, Int.reduceNegSucc, Nat.reduceAdd, Nat.reduceSub, Nat.reduceMul, Nat.reduceEqDiff, Nat.reduceLeDiff, Nat.reduceLT, Nat.reduceBEq, Nat.reduceBNe, reduceIte, reduceCtorEq, Int.reduceToNat, Int.reduceAdd, Int.reduceSub, Int.reduceMul, Int.reduceNeg, Int.reduceLT, Int.reduceLE, Int.reduceEq, Int.reduceNe, ints, ic, big]
  refine CallD_eq ht (by decide) ?_
  simp only [go_sem, Int.reduceNegSucc, Nat.reduceAdd, Nat.reduceSub, Nat.reduceMul, Nat.reduceEqDiff, Nat.reduceLeDiff, Nat.reduceLT, Nat.reduceBEq, Nat.reduceBNe, reduceIte, reduceCtorEq, Int.reduceToNat, Int.reduceAdd, Int.reduceSub, Int.reduceMul, Int.reduceNeg, Int.reduceLT, Int.reduceLE, Int.reduceEq, Int.reduceNe, ints, ic, big]
  refine CallD_eq hm (by decide) ?_
  simp only [go_sem, Int.reduceNegSucc, Nat.reduceAdd, Nat.reduceSub, Nat.reduceMul, Nat.reduceEqDiff, Nat.reduceLeDiff, Nat.reduceLT, Nat.reduceBEq, Nat.reduceBNe, reduceIte, reduceCtorEq, Int.reduceToNat, Int.reduceAdd, Int.reduceSub, Int.reduceMul, Int.reduceNeg, Int.reduceLT, Int.reduceLE, Int.reduceEq, Int.reduceNe, ints, ic, big]
  refine CallD_eq hc (by decide) ?_
  simp only [go_sem, Int.reduceNegSucc, Nat.reduceAdd, Nat.reduceSub, Nat.reduceMul, Nat.reduceEqDiff, Nat.reduceLeDiff, Nat.reduceLT, Nat.reduceBEq, Nat.reduceBNe, reduceIte, reduceCtorEq, Int.reduceToNat, Int.reduceAdd, Int.reduceSub, Int.reduceMul, Int.reduceNeg, Int.reduceLT, Int.reduceLE, Int.reduceEq, Int.reduceNe, ints, ic, big]
theorem cmpI_sign {a b : Int} (h : a.sign ≠ b.sign) : cmpI a.sign b.sign = cmpI a b := by
  rcases Int.lt_or_gt_of_ne h with h1 | h1
  · have := sign_lt h1
    rw [cmpI, cmpI, if_pos h1, if_pos this]
  · have := sign_lt h1
    rw [cmpI, cmpI, if_neg (by omega), if_neg (by omega), if_neg (by omega), if_neg (by omega)]
theorem cmpI_nat {a b : Int} (h : a.sign = b.sign) : a.sign * cmpI a.natAbs b.natAbs = cmpI a b := by
  rcases Int.lt_trichotomy a 0 with h1 | h1 | h1
  · have e := Int.sign_eq_neg_one_of_neg h1
    have h2 : b < 0 := by
      rw [e] at h; exact Int.neg_of_sign_eq_neg_one h.symm
    rw [e]
    unfold cmpI
    split <;> split <;> (try split) <;> (try split) <;> omega
  · subst h1
    have : b = 0 := Int.sign_eq_zero_iff_zero.1 h.symm
    subst this; rfl
  · have e := Int.sign_eq_one_of_pos h1
    have h2 : 0 < b := by
      rw [e] at h; exact Int.pos_of_sign_eq_one h.symm
    rw [e]
    unfold cmpI
    split <;> split <;> (try split) <;> (try split) <;> omega
theorem cmpI_le (a b : Int) : -1 ≤ cmpI a b ∧ cmpI a b ≤ 1 := by
  unfold cmpI; split <;> (try split) <;> omega
set_option maxRecDepth 100000 in
theorem t_pcompareb (a b : Int) (la : (dig a.natAbs).length ≤ 1000000) (lb : (dig b.natAbs).length ≤ 1000000) : Ctr G.P 46 [big a, big b] (· = .int (cmpI a b)) := by
  have ra := t_prightb a (by omega)
  have rb := t_prightb b (by omega)
  by_cases hs : a.sign = b.sign
  · have hc := t_pcompare a.natAbs b.natAbs la lb
    have hd : decide (a.sign = b.sign) = true := decide_eq_true hs
    have w := i64_ok (n := a.sign * cmpI a.natAbs b.natAbs) (by rw [cmpI_nat hs]; have := cmpI_le a b; omega)
    rw [cmpI_nat hs] at w
    have he := cmpI_nat hs
    refine ctr_go good _ _ [.tmp 4] Try.func46 rfl rfl (by decide +kernel) rfl ?_
    simp only [go_sem, Int.reduceNegSucc, Nat.reduceAdd, Nat.reduceSub, Nat.reduceMul, Nat.reduceEqDiff, Nat.reduceLeDiff, Nat.reduceLT, Nat.reduceBEq, Nat.reduceBNe, reduceIte, reduceCtorEq, Int.reduceToNat, Int.reduceAdd, Int.reduceSub, Int.reduceMul, Int.reduceNeg, Int.reduceLT, Int.reduceLE, Int.reduceEq, Int.reduceNe, ints, ic, big]
    refine CallP_eq ra (by decide) ?_
    simp only [go_sem, Int.reduceNegSucc, Nat.reduceAdd, Nat.reduceSub, Nat.reduceMul, Nat.reduceEqDiff, Nat.reduceLeDiff, Nat.reduceLT, Nat.reduceBEq, Nat.reduceBNe, reduceIte, reduceCtorEq, Int.reduceToNat, Int.reduceAdd, Int.reduceSub, Int.reduceMul, Int.reduceNeg, Int.reduceLT, Int.reduceLE, Int.reduceEq, Int.reduceNe, ints, ic, big]
    refine CallP_eq rb (by decide) ?_
    simp only [hd, go_sem, Int.reduceNegSucc, Nat.reduceAdd, Nat.reduceSub, Nat.reduceMul, Nat.reduceEqDiff, Nat.reduceLeDiff, Nat.reduceLT, Nat.reduceBEq, Nat.reduceBNe, reduceIte, reduceCtorEq, Int.reduceToNat, Int.reduceAdd, Int.reduceSub, Int.reduceMul, Int.reduceNeg, Int.reduceLT, Int.reduceLE, Int.reduceEq, Int.reduceNe, ints, ic, big]
    refine DrawP_of 9 (by decide +kernel) ?_
    simp only [go_sem, Int.reduceNegSucc, Nat.reduceAdd, Nat.reduceSub, Nat.reduceMul, Nat.reduceEqDiff, Nat.reduceLeDiff, Nat.reduceLT, Nat.reduceBEq, Nat.reduceBNe, reduceIte, reduceCtorEq, Int.reduceToNat, Int.reduceAdd, Int.reduceSub, Int.reduceMul, Int.reduceNeg, Int.reduceLT, Int.reduceLE, Int.reduceEq, Int.reduceNe, ints, ic, big]
    refine CallD_eq hc (by decide) ?_
    simp only [he, w, go_sem, Int.reduceNegSucc, Nat.reduceAdd, Nat.reduceSub, Nat.reduceMul, Nat.reduceEqDiff, Nat.reduceLeDiff, Nat.reduceLT, Nat.reduceBEq, Nat.reduceBNe, reduceIte, reduceCtorEq, Int.reduceToNat, Int.reduceAdd, Int.reduceSub, Int.reduceMul, Int.reduceNeg, Int.reduceLT, Int.reduceLE, Int.reduceEq, Int.reduceNe, ints, ic, big]
  · have hc := t_cmp a.sign b.sign
    rw [cmpI_sign hs] at hc
    have hd : decide (a.sign = b.sign) = false := decide_eq_false hs
    refine ctr_go good _ _ [.tmp 4] Try.func46 rfl rfl (by decide +kernel) rfl ?_
    simp only [go_sem, Int.reduceNegSucc, Nat.reduceAdd, Nat.reduceSub, Nat.reduceMul, Nat.reduceEqDiff, Nat.reduceLeDiff, Nat.reduceLT, Nat.reduceBEq, Nat.reduceBNe, reduceIte, reduceCtorEq, Int.reduceToNat, Int.reduceAdd, Int.reduceSub, Int.reduceMul, Int.reduceNeg, Int.reduceLT, Int.reduceLE, Int.reduceEq, Int.reduceNe, ints, ic, big]
    refine CallP_eq ra (by decide) ?_
    simp only [go_sem, Int.reduceNegSucc, Nat.reduceAdd, Nat.reduceSub, Nat.reduceMul, Nat.reduceEqDiff, Nat.reduceLeDiff, Nat.reduceLT, Nat.reduceBEq, Nat.reduceBNe, reduceIte, reduceCtorEq, Int.reduceToNat, Int.reduceAdd, Int.reduceSub, Int.reduceMul, Int.reduceNeg, Int.reduceLT, Int.reduceLE, Int.reduceEq, Int.reduceNe, ints, ic, big]
    refine CallP_eq rb (by decide) ?_
    simp only [hd, go_sem, Int.reduceNegSucc, Nat.reduceAdd, Nat.reduceSub, Nat.reduceMul, Nat.reduceEqDiff, Nat.reduceLeDiff, Nat.reduceLT, Nat.reduceBEq, Nat.reduceBNe, reduceIte, reduceCtorEq, Int.reduceToNat, Int.reduceAdd, Int.reduceSub, Int.reduceMul, Int.reduceNeg, Int.reduceLT, Int.reduceLE, Int.reduceEq, Int.reduceNe, ints, ic, big]
    refine CallP_eq hc (by decide) ?_
    simp only [go_sem, Int.reduceNegSucc, Nat.reduceAdd, Nat.reduceSub, Nat.reduceMul, Nat.reduceEqDiff, Nat.reduceLeDiff, Nat.reduceLT, Nat.reduceBEq, Nat.reduceBNe, reduceIte, reduceCtorEq, Int.reduceToNat, Int.reduceAdd, Int.reduceSub, Int.reduceMul, Int.reduceNeg, Int.reduceLT, Int.reduceLE, Int.reduceEq, Int.reduceNe, ints, ic, big]
end Go.Proofs.Ytpnlfkaijdjhlab

namespace Go.Proofs.Ytpnlfkaijdjhlab
set_option linter.all false
open Go.Abs

set_option maxRecDepth 100000 in
set_option maxHeartbeats 2000000 in
theorem t_padd (x y : List Int) (hx : OkD x) (hy : OkD y) (lx : x.length ≤ 100000) (ly : y.length ≤ 100000) : Ctr G.P 80 [ints x, ints y] (· = ints (dig (val x + val y).toNat)) := by
  by_cases hlt : (x.length : Int) < y.length
  · have hd0 : decide ((x.length : Int) < y.length) = true := decide_eq_true hlt
    rw [Int.add_comm (val x)]
    obtain ⟨a, rfl⟩ : ∃ a, a = y := ⟨_, rfl⟩
    obtain ⟨b, rfl⟩ : ∃ b, b = x := ⟨_, rfl⟩
    have ha := hy
    have hb := hx
    have hba : b.length ≤ a.length := by omega
    refine ctr_go good _ _ [.tmp 4] Try.func80 rfl rfl (by decide +kernel) rfl ?_
    simp only [hd0, go_sem, Int.reduceNegSucc, Nat.reduceAdd, Nat.reduceSub, Nat.reduceMul, Nat.reduceEqDiff, Nat.reduceLeDiff, Nat.reduceLT, Nat.reduceBEq, Nat.reduceBNe, reduceIte, reduceCtorEq, Int.reduceToNat, Int.reduceAdd, Int.reduceSub, Int.reduceMul, Int.reduceNeg, Int.reduceLT, Int.reduceLE, Int.reduceEq, Int.reduceNe, ints, ic, mb20, pw20, fd20]
    have w0 := i64_ok (n := (a.length : Int) + 1) (by omega)
    have w00 : ((a.length : Int) + 1) * 8 ≤ 140737488355328 := by omega
    have w01 : (0 : Int) ≤ (a.length : Int) + 1 := by omega
    have w02 : ((a.length : Int) + 1).toNat = a.length + 1 := by omega
    simp only [w0, w00, w01, w02, go_sem, Int.reduceNegSucc, Nat.reduceAdd, Nat.reduceSub, Nat.reduceMul, Nat.reduceEqDiff, Nat.reduceLeDiff, Nat.reduceLT, Nat.reduceBEq, Nat.reduceBNe, reduceIte, reduceCtorEq, Int.reduceToNat, Int.reduceAdd, Int.reduceSub, Int.reduceMul, Int.reduceNeg, Int.reduceLT, Int.reduceLE, Int.reduceEq, Int.reduceNe, ints, ic, mb20, pw20, fd20]
    refine LoopP_of [0, 1, 5, 6, 20, 21, 22] [19] (fun g : Nat × List Int × Int => ⟨[(0, .im (.sl (a.map ic))), (1, .im (.sl (b.map ic))), (5, .gsl 19 3 1 (a.length + 1)), (6, .im (.int g.2.2)), (20, .im (.sl (a.map ic))), (21, .im (.int a.length)), (22, .im (.int g.1))], [(19, 1, g.2.1.map ic)], []⟩)
      (fun g => g.1 ≤ a.length ∧ g.2.1.length = a.length + 1 ∧ OkD g.2.1 ∧ 0 ≤ g.2.2 ∧ g.2.2 ≤ 1 ∧ val g.2.1 + 1048576 ^ g.1 * g.2.2 = val (a.take g.1) + val (b.take g.1) ∧ ∀ j, g.1 ≤ j → dgt g.2.1 j = 0)
      (fun g => a.length - g.1) (0, List.replicate (a.length + 1) 0, 0) ?_
      ⟨Nat.zero_le _, List.length_replicate, OkD.replicate _, Int.le_refl _, by dsimp only; omega, by dsimp only; rw [val_replicate]; simp [val], fun j _ => by
        unfold dgt; rw [List.getElem?_replicate]; split <;> rfl⟩ ?_
    · simp only [Int.natCast_zero, List.map_replicate, List.length_replicate, w02, go_sem, Int.reduceNegSucc, Nat.reduceAdd, Nat.reduceSub, Nat.reduceMul, Nat.reduceEqDiff, Nat.reduceLeDiff, Nat.reduceLT, Nat.reduceBEq, Nat.reduceBNe, reduceIte, reduceCtorEq, Int.reduceToNat, Int.reduceAdd, Int.reduceSub, Int.reduceMul, Int.reduceNeg, Int.reduceLT, Int.reduceLE, Int.reduceEq, Int.reduceNe, ints, ic, mb20, pw20, fd20]
    intro ⟨i, out, c⟩ ⟨hi, hl, ho, hc0, hc1, hv, hz⟩
    dsimp only at hi hl ho hc0 hc1 hv hz
    by_cases hp : (i : Int) < a.length
    case neg =>
      have hd : decide ((i : Int) < a.length) = false := decide_eq_false hp
      have hia : i = a.length := by omega
      subst hia
      have hjl : (a.length : Int) < ((a.length + 1 : Nat) : Int) := by omega
      have hok : OkD (out.set a.length c) := ho.set (by omega)
      have hvv : val (out.set a.length c) = val a + val b := by
        rw [val_set _ _ _ (by omega), hz _ (Nat.le_refl _), Int.sub_zero, hv, val_take_all (Nat.le_refl _), val_take_all hba]
      have ht := t_ptrim (out.set a.length c) hok (by rw [List.length_set]; omega)
      rw [hvv] at ht
      have hy : out[a.length]? = some (dgt out a.length) := get_nat (by omega)
      have hset : (out.map ic).set a.length [.sc (.int .i64 c)] = (out.set a.length c).map ic := by rw [List.map_set]; rfl
      have hall : ((out.set a.length c).map ic).take (a.length + 1) = (out.set a.length c).map ic := List.take_of_length_le (by rw [List.length_map, List.length_set]; omega)
      have hle : a.length + 1 ≤ (out.set a.length c).length := by rw [List.length_set]; omega
      have hle2 : (0 : Int) ≤ a.length := by omega
      simp only [ints] at ht
      simp only [hd, hjl, List.getElem?_map, hy, hset, hall, hle, go_sem, Int.reduceNegSucc, Nat.reduceAdd, Nat.reduceSub, Nat.reduceMul, Nat.reduceEqDiff, Nat.reduceLeDiff, Nat.reduceLT, Nat.reduceBEq, Nat.reduceBNe, reduceIte, reduceCtorEq, Int.reduceToNat, Int.reduceAdd, Int.reduceSub, Int.reduceMul, Int.reduceNeg, Int.reduceLT, Int.reduceLE, Int.reduceEq, Int.reduceNe, ints, ic, mb20, pw20, fd20]
      refine CallP_eq ht (by decide) ?_
      simp only [go_sem, Int.reduceNegSucc, Nat.reduceAdd, Nat.reduceSub, Nat.reduceMul, Nat.reduceEqDiff, Nat.reduceLeDiff, Nat.reduceLT, Nat.reduceBEq, Nat.reduceBNe, reduceIte, reduceCtorEq, Int.reduceToNat, Int.reduceAdd, Int.reduceSub, Int.reduceMul, Int.reduceNeg, Int.reduceLT, Int.reduceLE, Int.reduceEq, Int.reduceNe, ints, ic, mb20, pw20, fd20]
    case pos =>
      have hd : decide ((i : Int) < a.length) = true := decide_eq_true hp
      have hx := get_nat hp
      have hda := ha.dgt i
      have hdb := hb.dgt i
      have h1 := i64_ok (n := (i : Int) + 1) (by omega)
      have hjl : (i : Int) < ((a.length + 1 : Nat) : Int) := by omega
      have hy : out[i]? = some (dgt out i) := get_nat (by omega)
      have w1 := i64_ok (n := c + dgt a i) (by omega)
      have w2 := i64_ok (n := c + dgt a i + dgt b i) (by omega)
      have hn : c + dgt a i + dgt b i = dgt a i + dgt b i + c := by omega
      rw [hn] at w2
      have hs := add_step (by omega : i < out.length) (hz i (Nat.le_refl _)) hv rfl
      generalize hN : dgt a i + dgt b i + c = n at *
      have a1 := and20 n
      have fin : (0 ≤ n / 1048576 ∧ n / 1048576 ≤ 1) ∧ (out.set i (n % 1048576)).length = a.length + 1 ∧ OkD (out.set i (n % 1048576)) ∧ ∀ j, i + 1 ≤ j → dgt (out.set i (n % 1048576)) j = 0 :=
        ⟨by omega, by rw [List.length_set]; exact hl, ho.set (by omega), fun j hj => by rw [dgt_set_ne (by omega)]; exact hz j (by omega)⟩
      obtain ⟨f1, f2, f3, f4⟩ := fin
      by_cases hbl : (i : Int) < b.length
      · have hd2 : decide ((i : Int) < b.length) = true := decide_eq_true hbl
        have hxb := get_nat hbl
        simp only [hd, hd2, List.getElem?_map, hx, hxb, w1, hn, hN, w2, hjl, hy, a1, go_sem, Int.reduceNegSucc, Nat.reduceAdd, Nat.reduceSub, Nat.reduceMul, Nat.reduceEqDiff, Nat.reduceLeDiff, Nat.reduceLT, Nat.reduceBEq, Nat.reduceBNe, reduceIte, reduceCtorEq, Int.reduceToNat, Int.reduceAdd, Int.reduceSub, Int.reduceMul, Int.reduceNeg, Int.reduceLT, Int.reduceLE, Int.reduceEq, Int.reduceNe, ints, ic, mb20, pw20, fd20]
        refine RoundP_of (i + 1, out.set i (n % 1048576), n / 1048576) ?_ ?_ ⟨?_, f2, f3, f1.1, f1.2, hs, f4⟩
        · simp only [h1, hn, hN, w2, Int.natCast_add, List.map_set, go_sem, Int.reduceNegSucc, Nat.reduceAdd, Nat.reduceSub, Nat.reduceMul, Nat.reduceEqDiff, Nat.reduceLeDiff, Nat.reduceLT, Nat.reduceBEq, Nat.reduceBNe, reduceIte, reduceCtorEq, Int.reduceToNat, Int.reduceAdd, Int.reduceSub, Int.reduceMul, Int.reduceNeg, Int.reduceLT, Int.reduceLE, Int.reduceEq, Int.reduceNe, ints, ic, mb20, pw20, fd20]
        · show a.length - (i + 1) < a.length - i; omega
        · show i + 1 ≤ a.length; omega
      · have hd2 : decide ((i : Int) < b.length) = false := decide_eq_false hbl
        have hb0 : dgt b i = 0 := dgt_none (by omega)
        have hn2 : c + dgt a i = n := by omega
        rw [hn2] at w1
        simp only [hd, hd2, List.getElem?_map, hx, hn2, w1, hjl, hy, a1, go_sem, Int.reduceNegSucc, Nat.reduceAdd, Nat.reduceSub, Nat.reduceMul, Nat.reduceEqDiff, Nat.reduceLeDiff, Nat.reduceLT, Nat.reduceBEq, Nat.reduceBNe, reduceIte, reduceCtorEq, Int.reduceToNat, Int.reduceAdd, Int.reduceSub, Int.reduceMul, Int.reduceNeg, Int.reduceLT, Int.reduceLE, Int.reduceEq, Int.reduceNe, ints, ic, mb20, pw20, fd20]
        refine RoundP_of (i + 1, out.set i (n % 1048576), n / 1048576) ?_ ?_ ⟨?_, f2, f3, f1.1, f1.2, hs, f4⟩
        · simp only [h1, hn2, w1, Int.natCast_add, List.map_set, go_sem, Int.reduceNegSucc, Nat.reduceAdd, Nat.reduceSub, Nat.reduceMul, Nat.reduceEqDiff, Nat.reduceLeDiff, Nat.reduceLT, Nat.reduceBEq, Nat.reduceBNe, reduceIte, reduceCtorEq, Int.reduceToNat, Int.reduceAdd, Int.reduceSub, Int.reduceMul, Int.reduceNeg, Int.reduceLT, Int.reduceLE, Int.reduceEq, Int.reduceNe, ints, ic, mb20, pw20, fd20]
        · show a.length - (i + 1) < a.length - i; omega
        · show i + 1 ≤ a.length; omega
  · have hd0 : decide ((x.length : Int) < y.length) = false := decide_eq_false hlt
    obtain ⟨a, rfl⟩ : ∃ a, a = x := ⟨_, rfl⟩
    obtain ⟨b, rfl⟩ : ∃ b, b = y := ⟨_, rfl⟩
    have ha := hx
    have hb := hy
    have hba : b.length ≤ a.length := by omega
    refine ctr_go good _ _ [.tmp 4] Try.func80 rfl rfl (by decide +kernel) rfl ?_
    simp only [hd0, go_sem, Int.reduceNegSucc, Nat.reduceAdd, Nat.reduceSub, Nat.reduceMul, Nat.reduceEqDiff, Nat.reduceLeDiff, Nat.reduceLT, Nat.reduceBEq, Nat.reduceBNe, reduceIte, reduceCtorEq, Int.reduceToNat, Int.reduceAdd, Int.reduceSub, Int.reduceMul, Int.reduceNeg, Int.reduceLT, Int.reduceLE, Int.reduceEq, Int.reduceNe, ints, ic, mb20, pw20, fd20]
    have w0 := i64_ok (n := (a.length : Int) + 1) (by omega)
    have w00 : ((a.length : Int) + 1) * 8 ≤ 140737488355328 := by omega
    have w01 : (0 : Int) ≤ (a.length : Int) + 1 := by omega
    have w02 : ((a.length : Int) + 1).toNat = a.length + 1 := by omega
    simp only [w0, w00, w01, w02, go_sem, Int.reduceNegSucc, Nat.reduceAdd, Nat.reduceSub, Nat.reduceMul, Nat.reduceEqDiff, Nat.reduceLeDiff, Nat.reduceLT, Nat.reduceBEq, Nat.reduceBNe, reduceIte, reduceCtorEq, Int.reduceToNat, Int.reduceAdd, Int.reduceSub, Int.reduceMul, Int.reduceNeg, Int.reduceLT, Int.reduceLE, Int.reduceEq, Int.reduceNe, ints, ic, mb20, pw20, fd20]
    refine LoopP_of [0, 1, 5, 6, 20, 21, 22] [19] (fun g : Nat × List Int × Int => ⟨[(0, .im (.sl (a.map ic))), (1, .im (.sl (b.map ic))), (5, .gsl 19 3 1 (a.length + 1)), (6, .im (.int g.2.2)), (20, .im (.sl (a.map ic))), (21, .im (.int a.length)), (22, .im (.int g.1))], [(19, 1, g.2.1.map ic)], []⟩)
      (fun g => g.1 ≤ a.length ∧ g.2.1.length = a.length + 1 ∧ OkD g.2.1 ∧ 0 ≤ g.2.2 ∧ g.2.2 ≤ 1 ∧ val g.2.1 + 1048576 ^ g.1 * g.2.2 = val (a.take g.1) + val (b.take g.1) ∧ ∀ j, g.1 ≤ j → dgt g.2.1 j = 0)
      (fun g => a.length - g.1) (0, List.replicate (a.length + 1) 0, 0) ?_
      ⟨Nat.zero_le _, List.length_replicate, OkD.replicate _, Int.le_refl _, by dsimp only; omega, by dsimp only; rw [val_replicate]; simp [val], fun j _ => by
        unfold dgt; rw [List.getElem?_replicate]; split <;> rfl⟩ ?_
    · simp only [Int.natCast_zero, List.map_replicate, List.length_replicate, w02, go_sem, Int.reduceNegSucc, Nat.reduceAdd, Nat.reduceSub, Nat.reduceMul, Nat.reduceEqDiff, Nat.reduceLeDiff, Nat.reduceLT, Nat.reduceBEq, Nat.reduceBNe, reduceIte, reduceCtorEq, Int.reduceToNat, Int.reduceAdd, Int.reduceSub, Int.reduceMul, Int.reduceNeg, Int.reduceLT, Int.reduceLE, Int.reduceEq, Int.reduceNe, ints, ic, mb20, pw20, fd20]
    intro ⟨i, out, c⟩ ⟨hi, hl, ho, hc0, hc1, hv, hz⟩
    dsimp only at hi hl ho hc0 hc1 hv hz
    by_cases hp : (i : Int) < a.length
    case neg =>
      have hd : decide ((i : Int) < a.length) = false := decide_eq_false hp
      have hia : i = a.length := by omega
      subst hia
      have hjl : (a.length : Int) < ((a.length + 1 : Nat) : Int) := by omega
      have hok : OkD (out.set a.length c) := ho.set (by omega)
      have hvv : val (out.set a.length c) = val a + val b := by
        rw [val_set _ _ _ (by omega), hz _ (Nat.le_refl _), Int.sub_zero, hv, val_take_all (Nat.le_refl _), val_take_all hba]
      have ht := t_ptrim (out.set a.length c) hok (by rw [List.length_set]; omega)
      rw [hvv] at ht
      have hy : out[a.length]? = some (dgt out a.length) := get_nat (by omega)
      have hset : (out.map ic).set a.length [.sc (.int .i64 c)] = (out.set a.length c).map ic := by rw [List.map_set]; rfl
      have hall : ((out.set a.length c).map ic).take (a.length + 1) = (out.set a.length c).map ic := List.take_of_length_le (by rw [List.length_map, List.length_set]; omega)
      have hle : a.length + 1 ≤ (out.set a.length c).length := by rw [List.length_set]; omega
      have hle2 : (0 : Int) ≤ a.length := by omega
      simp only [ints] at ht
      simp only [hd, hjl, List.getElem?_map, hy, hset, hall, hle, go_sem, Int.reduceNegSucc, Nat.reduceAdd, Nat.reduceSub, Nat.reduceMul, Nat.reduceEqDiff, Nat.reduceLeDiff, Nat.reduceLT, Nat.reduceBEq, Nat.reduceBNe, reduceIte, reduceCtorEq, Int.reduceToNat, Int.reduceAdd, Int.reduceSub, Int.reduceMul, Int.reduceNeg, Int.reduceLT, Int.reduceLE, Int.reduceEq, Int.reduceNe, ints, ic, mb20, pw20, fd20]
      refine CallP_eq ht (by decide) ?_
      simp only [go_sem, Int.reduceNegSucc, Nat.reduceAdd, Nat.reduceSub, Nat.reduceMul, Nat.reduceEqDiff, Nat.reduceLeDiff, Nat.reduceLT, Nat.reduceBEq, Nat.reduceBNe, reduceIte, reduceCtorEq, Int.reduceToNat, Int.reduceAdd, Int.reduceSub, Int.reduceMul, Int.reduceNeg, Int.reduceLT, Int.reduceLE, Int.reduceEq, Int.reduceNe, ints, ic, mb20, pw20, fd20]
    case pos =>
      have hd : decide ((i : Int) < a.length) = true := decide_eq_true hp
      have hx := get_nat hp
      have hda := ha.dgt i
      have hdb := hb.dgt i
      have h1 := i64_ok (n := (i : Int) + 1) (by omega)
      have hjl : (i : Int) < ((a.length + 1 : Nat) : Int) := by omega
      have hy : out[i]? = some (dgt out i) := get_nat (by omega)
      have w1 := i64_ok (n := c + dgt a i) (by omega)
      have w2 := i64_ok (n := c + dgt a i + dgt b i) (by omega)
      have hn : c + dgt a i + dgt b i = dgt a i + dgt b i + c := by omega
      rw [hn] at w2
      have hs := add_step (by omega : i < out.length) (hz i (Nat.le_refl _)) hv rfl
      generalize hN : dgt a i + dgt b i + c = n at *
      have a1 := and20 n
      have fin : (0 ≤ n / 1048576 ∧ n / 1048576 ≤ 1) ∧ (out.set i (n % 1048576)).length = a.length + 1 ∧ OkD (out.set i (n % 1048576)) ∧ ∀ j, i + 1 ≤ j → dgt (out.set i (n % 1048576)) j = 0 :=
        ⟨by omega, by rw [List.length_set]; exact hl, ho.set (by omega), fun j hj => by rw [dgt_set_ne (by omega)]; exact hz j (by omega)⟩
      obtain ⟨f1, f2, f3, f4⟩ := fin
      by_cases hbl : (i : Int) < b.length
      · have hd2 : decide ((i : Int) < b.length) = true := decide_eq_true hbl
        have hxb := get_nat hbl
        simp only [hd, hd2, List.getElem?_map, hx, hxb, w1, hn, hN, w2, hjl, hy, a1, go_sem, Int.reduceNegSucc, Nat.reduceAdd, Nat.reduceSub, Nat.reduceMul, Nat.reduceEqDiff, Nat.reduceLeDiff, Nat.reduceLT, Nat.reduceBEq, Nat.reduceBNe, reduceIte, reduceCtorEq, Int.reduceToNat, Int.reduceAdd, Int.reduceSub, Int.reduceMul, Int.reduceNeg, Int.reduceLT, Int.reduceLE, Int.reduceEq, Int.reduceNe, ints, ic, mb20, pw20, fd20]
        refine RoundP_of (i + 1, out.set i (n % 1048576), n / 1048576) ?_ ?_ ⟨?_, f2, f3, f1.1, f1.2, hs, f4⟩
        · simp only [h1, hn, hN, w2, Int.natCast_add, List.map_set, go_sem, Int.reduceNegSucc, Nat.reduceAdd, Nat.reduceSub, Nat.reduceMul, Nat.reduceEqDiff, Nat.reduceLeDiff, Nat.reduceLT, Nat.reduceBEq, Nat.reduceBNe, reduceIte, reduceCtorEq, Int.reduceToNat, Int.reduceAdd, Int.reduceSub, Int.reduceMul, Int.reduceNeg, Int.reduceLT, Int.reduceLE, Int.reduceEq, Int.reduceNe, ints, ic, mb20, pw20, fd20]
        · show a.length - (i + 1) < a.length - i; omega
        · show i + 1 ≤ a.length; omega
      · have hd2 : decide ((i : Int) < b.length) = false := decide_eq_false hbl
        have hb0 : dgt b i = 0 := dgt_none (by omega)
        have hn2 : c + dgt a i = n := by omega
        rw [hn2] at w1
        simp only [hd, hd2, List.getElem?_map, hx, hn2, w1, hjl, hy, a1, go_sem, Int.reduceNegSucc, Nat.reduceAdd, Nat.reduceSub, Nat.reduceMul, Nat.reduceEqDiff, Nat.reduceLeDiff, Nat.reduceLT, Nat.reduceBEq, Nat.reduceBNe, reduceIte, reduceCtorEq, Int.reduceToNat, Int.reduceAdd, Int.reduceSub, Int.reduceMul, Int.reduceNeg, Int.reduceLT, Int.reduceLE, Int.reduceEq, Int.reduceNe, ints, ic, mb20, pw20, fd20]
        refine RoundP_of (i + 1, out.set i (n % 1048576), n / 1048576) ?_ ?_ ⟨?_, f2, f3, f1.1, f1.2, hs, f4⟩
        · simp only [h1, hn2, w1, Int.natCast_add, List.map_set, go_sem, Int.reduceNegSucc, Nat.reduceAdd, Nat.reduceSub, Nat.reduceMul, Nat.reduceEqDiff, Nat.reduceLeDiff, Nat.reduceLT, Nat.reduceBEq, Nat.reduceBNe, reduceIte, reduceCtorEq, Int.reduceToNat, Int.reduceAdd, Int.reduceSub, Int.reduceMul, Int.reduceNeg, Int.reduceLT, Int.reduceLE, Int.reduceEq, Int.reduceNe, ints, ic, mb20, pw20, fd20]
        · show a.length - (i + 1) < a.length - i; omega
        · show i + 1 ≤ a.length; omega
end Go.Proofs.Ytpnlfkaijdjhlab
