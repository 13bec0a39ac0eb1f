/- A part of the proof: what functions of the program do, and the layer under it. No further condition. -/
import Derived.Test.YtpnlfkaijdjhlaaKM3
import Derived.Test.YtpnlfkaijdjhlaaKM1
namespace Go.Proofs.Ytpnlfkaijdjhlaa
set_option linter.all false
open Go.Abs

set_option maxRecDepth 100000 in
set_option maxHeartbeats 2000000 in
theorem t_over (a b : List Int) (ha : OkD a) (hb : OkD b) (hb0 : 0 < val b) (la : a.length ≤ 100000) (lb : b.length ≤ 50000) :
    Ctr G.P 71 [ints a, ints b] (· = .tup [ints (dig (val a / val b).toNat), ints (dig (val a % val b).toNat)]) := by
  have hw := i64_ok (n := (a.length : Int) - 1) (by omega)
  have ht : ((a.length : Int)).toNat = a.length := by omega
  have hb8 : (a.length : Int) * 8 ≤ 140737488355328 := by omega
  have hbl := val_lt hb
  refine ctr_go good _ _ [.tmp 4, .tmp 5] Try.func71 rfl rfl (by decide +kernel) rfl ?_
  simp only [hw, ht, hb8, go_sem, Int.reduceNegSucc, Nat.reduceAdd, Nat.reduceSub, Nat.reduceMul, Nat.reduceEqDiff, Nat.reduceLeDiff, Nat.reduceLT, Nat.reduceBEq, Nat.reduceBNe, reduceIte, reduceCtorEq, Int.reduceToNat, Int.reduceAdd, Int.reduceSub, Int.reduceMul, Int.reduceNeg, Int.reduceLT, Int.reduceLE, Int.reduceEq, Int.reduceNe, ints, ic]
  refine LoopP_ofP [0, 1, 6, 7, 8] [14] [(7, 0, 0, 0)] (fun g : Nat × List Int × Nat => ⟨[(0, .im (.sl (a.map ic))), (1, .im (.sl (b.map ic))), (6, .osl 14 1 0 a.length), (7, .im (.sl ((dig g.2.2).map ic))), (8, .im (.int ((g.1 : Int) - 1)))], [(14, 1, g.2.1.map ic)], []⟩)
    (fun g => g.1 ≤ a.length ∧ g.2.1.length = a.length ∧ OkD g.2.1 ∧ (g.2.2 : Int) < val b ∧ val (a.drop g.1) = val (g.2.1.drop g.1) * val b + g.2.2) (fun g => g.1) (a.length, List.replicate a.length 0, 0) ?_ ?_
    ⟨Nat.le_refl _, List.length_replicate, OkD.replicate _, hb0, by dsimp only; rw [List.drop_of_length_le (Nat.le_refl _), List.drop_of_length_le (by rw [List.length_replicate]; exact Nat.le_refl _)]; simp [val]⟩ ?_
  · simp only [go_sem, Int.reduceNegSucc, Nat.reduceAdd, Nat.reduceSub, Nat.reduceMul, Nat.reduceEqDiff, Nat.reduceLeDiff, Nat.reduceLT, Nat.reduceBEq, Nat.reduceBNe, reduceIte, reduceCtorEq, Int.reduceToNat, Int.reduceAdd, Int.reduceSub, Int.reduceMul, Int.reduceNeg, Int.reduceLT, Int.reduceLE, Int.reduceEq, Int.reduceNe, ints, ic]
  · simp only [dig_zero, List.map_nil, List.map_replicate, List.length_replicate, go_sem, Int.reduceNegSucc, Nat.reduceAdd, Nat.reduceSub, Nat.reduceMul, Nat.reduceEqDiff, Nat.reduceLeDiff, Nat.reduceLT, Nat.reduceBEq, Nat.reduceBNe, reduceIte, reduceCtorEq, Int.reduceToNat, Int.reduceAdd, Int.reduceSub, Int.reduceMul, Int.reduceNeg, Int.reduceLT, Int.reduceLE, Int.reduceEq, Int.reduceNe, ints, ic]
  · intro ⟨n, q, R⟩ ⟨hn, hl, hq, hR, hv⟩
    dsimp only at hn hl hq hR hv
    rcases n with _ | m
    · have hd : decide ((0 : Int) ≤ ((0 : Nat) : Int) - 1) = false := by decide
      rw [List.drop_zero, List.drop_zero] at hv
      obtain ⟨e1, e2⟩ := over_end hv (by omega) hR
      have htr := t_trim q hq (by omega)
      rw [e1] at htr
      have hRn : R = (val a % val b).toNat := by omega
      have hall : (q.map ic).take a.length = q.map ic := List.take_of_length_le (by rw [List.length_map]; omega)
      simp only [hd, hl, Nat.le_refl, hall, go_sem, Int.reduceNegSucc, Nat.reduceAdd, Nat.reduceSub, Nat.reduceMul, Nat.reduceEqDiff, Nat.reduceLeDiff, Nat.reduceLT, Nat.reduceBEq, Nat.reduceBNe, reduceIte, reduceCtorEq, Int.reduceToNat, Int.reduceAdd, Int.reduceSub, Int.reduceMul, Int.reduceNeg, Int.reduceLT, Int.reduceLE, Int.reduceEq, Int.reduceNe, ints, ic]
      refine CallP_eq htr (by decide) ?_
      simp only [hRn, go_sem, Int.reduceNegSucc, Nat.reduceAdd, Nat.reduceSub, Nat.reduceMul, Nat.reduceEqDiff, Nat.reduceLeDiff, Nat.reduceLT, Nat.reduceBEq, Nat.reduceBNe, reduceIte, reduceCtorEq, Int.reduceToNat, Int.reduceAdd, Int.reduceSub, Int.reduceMul, Int.reduceNeg, Int.reduceLT, Int.reduceLE, Int.reduceEq, Int.reduceNe, ints, ic]
    · have h2 : ((m + 1 : Nat) : Int) - 1 = m := by omega
      have hd : decide ((0 : Int) ≤ (m : Int)) = true := decide_eq_true (by omega)
      have hx := get_nat (l := a) (i := m) (by omega)
      have hmi : (m : Int) < a.length := by omega
      have had := ha.dgt m
      have hw3 := i64_ok (n := (m : Int) - 1) (by omega)
      have hlR : (dig R).length ≤ b.length := dig_len_le (by omega)
      have hok : OkD (dgt a m :: dig R) := OkD.cons had (dig_ok _)
      have htr := t_trim (dgt a m :: dig R) hok (by rw [List.length_cons]; omega)
      have hvr : val (dgt a m :: dig R) = dgt a m + 1048576 * R := by
        show dgt a m + 1048576 * val (dig R) = _
        rw [val_dig]
      rw [hvr] at htr
      obtain ⟨R', hR'⟩ : ∃ R' : Nat, (R' : Int) = dgt a m + 1048576 * R := ⟨(dgt a m + 1048576 * R).toNat, by omega⟩
      rw [← hR', Int.toNat_natCast] at htr
      have hRB : (R' : Int) < 1048576 * val b := by omega
      have hlR' : (dig R').length ≤ b.length + 1 := dig_len_le (by rw [pow_step]; omega)
      simp only [h2, hd, List.getElem?_map, hx, go_sem, Int.reduceNegSucc, Nat.reduceAdd, Nat.reduceSub, Nat.reduceMul, Nat.reduceEqDiff, Nat.reduceLeDiff, Nat.reduceLT, Nat.reduceBEq, Nat.reduceBNe, reduceIte, reduceCtorEq, Int.reduceToNat, Int.reduceAdd, Int.reduceSub, Int.reduceMul, Int.reduceNeg, Int.reduceLT, Int.reduceLE, Int.reduceEq, Int.reduceNe, ints, ic]
      refine ⟨by simp, ic_len _, by omega, ?_⟩
      refine CallP_eq htr (by decide) ?_
      simp only [go_sem, Int.reduceNegSucc, Nat.reduceAdd, Nat.reduceSub, Nat.reduceMul, Nat.reduceEqDiff, Nat.reduceLeDiff, Nat.reduceLT, Nat.reduceBEq, Nat.reduceBNe, reduceIte, reduceCtorEq, Int.reduceToNat, Int.reduceAdd, Int.reduceSub, Int.reduceMul, Int.reduceNeg, Int.reduceLT, Int.reduceLE, Int.reduceEq, Int.reduceNe, ints, ic]
      refine LoopP_of [0, 1, 6, 7, 8, 9, 10] [14] (fun g : Int × Int => ⟨[(0, .im (.sl (a.map ic))), (1, .im (.sl (b.map ic))), (6, .osl 14 1 0 a.length), (7, .im (.sl ((dig R').map ic))), (8, .im (.int m)), (9, .im (.int g.1)), (10, .im (.int g.2))], [(14, 1, q.map ic)], []⟩)
        (fun g => 0 ≤ g.1 ∧ g.1 < g.2 ∧ g.2 ≤ 1048576 ∧ g.1 * val b ≤ R' ∧ (R' : Int) < g.2 * val b) (fun g => (g.2 - g.1).toNat) (0, 1048576) ?_ ⟨Int.le_refl _, by decide, Int.le_refl _, by dsimp only; omega, hRB⟩ ?_
      · simp only [h2, go_sem, Int.reduceNegSucc, Nat.reduceAdd, Nat.reduceSub, Nat.reduceMul, Nat.reduceEqDiff, Nat.reduceLeDiff, Nat.reduceLT, Nat.reduceBEq, Nat.reduceBNe, reduceIte, reduceCtorEq, Int.reduceToNat, Int.reduceAdd, Int.reduceSub, Int.reduceMul, Int.reduceNeg, Int.reduceLT, Int.reduceLE, Int.reduceEq, Int.reduceNe, ints, ic]
      · intro ⟨lo, hi⟩ ⟨g1, g2, g3, g4, g5⟩
        dsimp only at g1 g2 g3 g4 g5
        have w1 := i64_ok (n := hi - lo) (by omega)
        have w2 := i64_ok (n := lo + hi) (by omega)
        by_cases hp : 1 < hi - lo
        · have hdp : decide (1 < hi - lo) = true := decide_eq_true hp
          obtain ⟨mid, hmid⟩ : ∃ mid, mid = (lo + hi) / 2 := ⟨_, rfl⟩
          have hq2 : IntKind.i64.wrap ((lo + hi).tdiv 2) = mid := by
            rw [Int.tdiv_eq_ediv_of_nonneg (by omega), ← hmid]; exact i64_ok (by omega)
          have hmo : OkD [mid] := OkD.cons (by omega) OkD.nil
          have htm := t_times b [mid] hb hmo (by omega) (by simp)
          rw [val_one] at htm
          have hbm : 0 ≤ val b * mid := Int.mul_nonneg (by omega) (by omega)
          have hbm2 : val b * mid ≤ val b * 1048576 := Int.mul_le_mul_of_nonneg_left (by omega) (by omega)
          have hlm : (dig (val b * mid).toNat).length ≤ b.length + 1 := dig_len_le (by rw [pow_step]; omega)
          have hls := t_less (dig R') (dig (val b * mid).toNat) (dig_ok _) (dig_ok _) (by omega) (by omega)
          rw [val_dig, val_dig, Int.toNat_of_nonneg hbm] at hls
          simp only [ints, ic, List.map_cons, List.map_nil] at htm
          simp only [w1, w2, hdp, hq2, go_sem, Int.reduceNegSucc, Nat.reduceAdd, Nat.reduceSub, Nat.reduceMul, Nat.reduceEqDiff, Nat.reduceLeDiff, Nat.reduceLT, Nat.reduceBEq, Nat.reduceBNe, reduceIte, reduceCtorEq, Int.reduceToNat, Int.reduceAdd, Int.reduceSub, Int.reduceMul, Int.reduceNeg, Int.reduceLT, Int.reduceLE, Int.reduceEq, Int.reduceNe, ints, ic]
          refine CallP_eq htm (by decide) ?_
          simp only [go_sem, Int.reduceNegSucc, Nat.reduceAdd, Nat.reduceSub, Nat.reduceMul, Nat.reduceEqDiff, Nat.reduceLeDiff, Nat.reduceLT, Nat.reduceBEq, Nat.reduceBNe, reduceIte, reduceCtorEq, Int.reduceToNat, Int.reduceAdd, Int.reduceSub, Int.reduceMul, Int.reduceNeg, Int.reduceLT, Int.reduceLE, Int.reduceEq, Int.reduceNe, ints, ic]
          refine CallP_eq hls (by decide) ?_
          simp only [go_sem, Int.reduceNegSucc, Nat.reduceAdd, Nat.reduceSub, Nat.reduceMul, Nat.reduceEqDiff, Nat.reduceLeDiff, Nat.reduceLT, Nat.reduceBEq, Nat.reduceBNe, reduceIte, reduceCtorEq, Int.reduceToNat, Int.reduceAdd, Int.reduceSub, Int.reduceMul, Int.reduceNeg, Int.reduceLT, Int.reduceLE, Int.reduceEq, Int.reduceNe, ints, ic]
          refine Two_dec (fun he he' => ?_) (fun he he' => ?_)
          · simp only [go_sem, Int.reduceNegSucc, Nat.reduceAdd, Nat.reduceSub, Nat.reduceMul, Nat.reduceEqDiff, Nat.reduceLeDiff, Nat.reduceLT, Nat.reduceBEq, Nat.reduceBNe, reduceIte, reduceCtorEq, Int.reduceToNat, Int.reduceAdd, Int.reduceSub, Int.reduceMul, Int.reduceNeg, Int.reduceLT, Int.reduceLE, Int.reduceEq, Int.reduceNe, ints, ic]
            refine RoundP_of (lo, mid) ?_ (by dsimp only; omega) ⟨g1, by dsimp only; omega, by dsimp only; omega, g4, by dsimp only; rw [Int.mul_comm]; exact he'⟩
            simp only [go_sem, Int.reduceNegSucc, Nat.reduceAdd, Nat.reduceSub, Nat.reduceMul, Nat.reduceEqDiff, Nat.reduceLeDiff, Nat.reduceLT, Nat.reduceBEq, Nat.reduceBNe, reduceIte, reduceCtorEq, Int.reduceToNat, Int.reduceAdd, Int.reduceSub, Int.reduceMul, Int.reduceNeg, Int.reduceLT, Int.reduceLE, Int.reduceEq, Int.reduceNe, ints, ic]
          · simp only [go_sem, Int.reduceNegSucc, Nat.reduceAdd, Nat.reduceSub, Nat.reduceMul, Nat.reduceEqDiff, Nat.reduceLeDiff, Nat.reduceLT, Nat.reduceBEq, Nat.reduceBNe, reduceIte, reduceCtorEq, Int.reduceToNat, Int.reduceAdd, Int.reduceSub, Int.reduceMul, Int.reduceNeg, Int.reduceLT, Int.reduceLE, Int.reduceEq, Int.reduceNe, ints, ic]
            refine RoundP_of (mid, hi) ?_ (by dsimp only; omega) ⟨by dsimp only; omega, by dsimp only; omega, g3, by dsimp only; rw [Int.mul_comm]; omega, g5⟩
            simp only [go_sem, Int.reduceNegSucc, Nat.reduceAdd, Nat.reduceSub, Nat.reduceMul, Nat.reduceEqDiff, Nat.reduceLeDiff, Nat.reduceLT, Nat.reduceBEq, Nat.reduceBNe, reduceIte, reduceCtorEq, Int.reduceToNat, Int.reduceAdd, Int.reduceSub, Int.reduceMul, Int.reduceNeg, Int.reduceLT, Int.reduceLE, Int.reduceEq, Int.reduceNe, ints, ic]
        · have hdp : decide (1 < hi - lo) = false := decide_eq_false hp
          have hhi : hi = lo + 1 := by omega
          subst hhi
          rw [Int.add_mul, Int.one_mul] at g5
          have hlo : OkD [lo] := OkD.cons (by omega) OkD.nil
          have htl := t_trim [lo] hlo (by simp)
          rw [val_one] at htl
          have hll : (dig lo.toNat).length ≤ 1 := dig_len_le (by omega)
          have htm := t_times b (dig lo.toNat) hb (dig_ok _) (by omega) (by omega)
          rw [val_dig, Int.toNat_of_nonneg g1] at htm
          have hbl2 : 0 ≤ val b * lo := Int.mul_nonneg (by omega) g1
          have hcm := Int.mul_comm (val b) lo
          have hlm : (dig (val b * lo).toNat).length ≤ b.length + 1 := dig_len_le (by rw [pow_step]; omega)
          have hmn := t_minus (dig R') (dig (val b * lo).toNat) (dig_ok _) (dig_ok _) (by rw [val_dig, val_dig, Int.toNat_of_nonneg hbl2]; omega) (by omega) (by omega)
          rw [val_dig, val_dig, Int.toNat_of_nonneg hbl2] at hmn
          have hst := over_step (lo := lo) (by omega : m < q.length) hv
          simp only [ints, ic, List.map_cons, List.map_nil] at htl
          simp only [w1, hdp, hmi, go_sem, Int.reduceNegSucc, Nat.reduceAdd, Nat.reduceSub, Nat.reduceMul, Nat.reduceEqDiff, Nat.reduceLeDiff, Nat.reduceLT, Nat.reduceBEq, Nat.reduceBNe, reduceIte, reduceCtorEq, Int.reduceToNat, Int.reduceAdd, Int.reduceSub, Int.reduceMul, Int.reduceNeg, Int.reduceLT, Int.reduceLE, Int.reduceEq, Int.reduceNe, ints, ic]
          have hqx := get_nat (l := q) (i := m) (by omega)
          simp only [List.getElem?_map, hqx, ← List.map_set, hmi, go_sem, Int.reduceNegSucc, Nat.reduceAdd, Nat.reduceSub, Nat.reduceMul, Nat.reduceEqDiff, Nat.reduceLeDiff, Nat.reduceLT, Nat.reduceBEq, Nat.reduceBNe, reduceIte, reduceCtorEq, Int.reduceToNat, Int.reduceAdd, Int.reduceSub, Int.reduceMul, Int.reduceNeg, Int.reduceLT, Int.reduceLE, Int.reduceEq, Int.reduceNe, ints, ic]
          refine CallP_eq htl (by decide) ?_
          simp only [go_sem, Int.reduceNegSucc, Nat.reduceAdd, Nat.reduceSub, Nat.reduceMul, Nat.reduceEqDiff, Nat.reduceLeDiff, Nat.reduceLT, Nat.reduceBEq, Nat.reduceBNe, reduceIte, reduceCtorEq, Int.reduceToNat, Int.reduceAdd, Int.reduceSub, Int.reduceMul, Int.reduceNeg, Int.reduceLT, Int.reduceLE, Int.reduceEq, Int.reduceNe, ints, ic]
          refine CallP_eq htm (by decide) ?_
          simp only [go_sem, Int.reduceNegSucc, Nat.reduceAdd, Nat.reduceSub, Nat.reduceMul, Nat.reduceEqDiff, Nat.reduceLeDiff, Nat.reduceLT, Nat.reduceBEq, Nat.reduceBNe, reduceIte, reduceCtorEq, Int.reduceToNat, Int.reduceAdd, Int.reduceSub, Int.reduceMul, Int.reduceNeg, Int.reduceLT, Int.reduceLE, Int.reduceEq, Int.reduceNe, ints, ic]
          refine CallP_eq hmn (by decide) ?_
          simp only [go_sem, Int.reduceNegSucc, Nat.reduceAdd, Nat.reduceSub, Nat.reduceMul, Nat.reduceEqDiff, Nat.reduceLeDiff, Nat.reduceLT, Nat.reduceBEq, Nat.reduceBNe, reduceIte, reduceCtorEq, Int.reduceToNat, Int.reduceAdd, Int.reduceSub, Int.reduceMul, Int.reduceNeg, Int.reduceLT, Int.reduceLE, Int.reduceEq, Int.reduceNe, ints, ic]
          refine RoundP_of (m, q.set m lo, ((R' : Int) - val b * lo).toNat) ?_ (by dsimp only; omega) ⟨by dsimp only; omega, by dsimp only; rw [List.length_set]; exact hl, hq.set (by omega), by dsimp only; omega, ?_⟩
          · simp only [hw3, List.map_set, go_sem, Int.reduceNegSucc, Nat.reduceAdd, Nat.reduceSub, Nat.reduceMul, Nat.reduceEqDiff, Nat.reduceLeDiff, Nat.reduceLT, Nat.reduceBEq, Nat.reduceBNe, reduceIte, reduceCtorEq, Int.reduceToNat, Int.reduceAdd, Int.reduceSub, Int.reduceMul, Int.reduceNeg, Int.reduceLT, Int.reduceLE, Int.reduceEq, Int.reduceNe, ints, ic]
          · dsimp only
            rw [hst, Int.toNat_of_nonneg (by omega)]
            omega
end Go.Proofs.Ytpnlfkaijdjhlaa

namespace Go.Proofs.Ytpnlfkaijdjhlaa
set_option linter.all false
open Go.Abs

theorem len_mono {n m k : Nat} (h : n ≤ m) (hm : (dig m).length ≤ k) : (dig n).length ≤ k := dig_len_le (by have := val_lt_pow hm; omega)
theorem t_overn (x y : Nat) (hy : 0 < y) (lx : (dig x).length ≤ 100000) (ly : (dig y).length ≤ 50000) : Ctr G.P 71 [ints (dig x), ints (dig y)] (· = .tup [ints (dig (x / y)), ints (dig (x % y))]) := by
  have := t_over (dig x) (dig y) (dig_ok _) (dig_ok _) (by rw [val_dig]; omega) lx ly
  rw [val_dig, val_dig, ← Int.natCast_ediv, ← Int.natCast_emod, Int.toNat_natCast, Int.toNat_natCast] at this
  exact this
set_option maxRecDepth 100000 in
theorem t_gcd (a b : Int) (la : (dig a.natAbs).length ≤ 50000) (lb : (dig b.natAbs).length ≤ 50000) : Ctr G.P 60 [big a, big b] (· = .tup [big (Nat.gcd a.natAbs b.natAbs : Nat), .int 0]) := by
  have ra := t_rightb a (by omega)
  have rb := t_rightb b (by omega)
  refine ctr_go good _ _ [.cell 4 47, .tmp 5] Try.func60 rfl rfl (by decide +kernel) rfl ?_
  simp only [go_sem, Int.reduceNegSucc, Nat.reduceAdd, Nat.reduceSub, Nat.reduceMul, Nat.reduceEqDiff, Nat.reduceLeDiff, Nat.reduceLT, Nat.reduceBEq, Nat.reduceBNe, reduceIte, reduceCtorEq, Int.reduceToNat, Int.reduceAdd, Int.reduceSub, Int.reduceMul, Int.reduceNeg, Int.reduceLT, Int.reduceLE, Int.reduceEq, Int.reduceNe, ints, ic, big]
  refine CallP_eq ra (by decide) ?_
  simp only [go_sem, Int.reduceNegSucc, Nat.reduceAdd, Nat.reduceSub, Nat.reduceMul, Nat.reduceEqDiff, Nat.reduceLeDiff, Nat.reduceLT, Nat.reduceBEq, Nat.reduceBNe, reduceIte, reduceCtorEq, Int.reduceToNat, Int.reduceAdd, Int.reduceSub, Int.reduceMul, Int.reduceNeg, Int.reduceLT, Int.reduceLE, Int.reduceEq, Int.reduceNe, ints, ic, big]
  refine CallP_eq rb (by decide) ?_
  simp only [go_sem, Int.reduceNegSucc, Nat.reduceAdd, Nat.reduceSub, Nat.reduceMul, Nat.reduceEqDiff, Nat.reduceLeDiff, Nat.reduceLT, Nat.reduceBEq, Nat.reduceBNe, reduceIte, reduceCtorEq, Int.reduceToNat, Int.reduceAdd, Int.reduceSub, Int.reduceMul, Int.reduceNeg, Int.reduceLT, Int.reduceLE, Int.reduceEq, Int.reduceNe, ints, ic, big]
  refine LoopP_of [4, 6, 7] [4] (fun g : Nat × Nat => ⟨[(4, .loc 4 2 0 0), (6, .im (.sl ((dig g.1).map ic))), (7, .im (.sl ((dig g.2).map ic)))], [(4, 2, [[.int 0, .sl []]])], []⟩)
    (fun g => Nat.gcd g.1 g.2 = Nat.gcd a.natAbs b.natAbs ∧ (dig g.1).length ≤ 50000 ∧ (dig g.2).length ≤ 50000) (fun g => g.2) (a.natAbs, b.natAbs) ?_ ⟨rfl, la, lb⟩ ?_
  · simp only [go_sem, Int.reduceNegSucc, Nat.reduceAdd, Nat.reduceSub, Nat.reduceMul, Nat.reduceEqDiff, Nat.reduceLeDiff, Nat.reduceLT, Nat.reduceBEq, Nat.reduceBNe, reduceIte, reduceCtorEq, Int.reduceToNat, Int.reduceAdd, Int.reduceSub, Int.reduceMul, Int.reduceNeg, Int.reduceLT, Int.reduceLE, Int.reduceEq, Int.reduceNe, ints, ic, big]
  · intro ⟨x, y⟩ ⟨hg, lx, ly⟩
    dsimp only at hg lx ly
    by_cases hy : y = 0
    · subst hy
      rw [Nat.gcd_zero_right] at hg
      rw [← hg]
      have hm := t_madeb 1 x x (by omega) (fun h => (Int.sign_eq_one_of_pos (by omega)).symm) (by rw [Int.natAbs_natCast]; omega)
      simp only [dig_zero, List.map_nil, go_sem, Int.reduceNegSucc, Nat.reduceAdd, Nat.reduceSub, Nat.reduceMul, Nat.reduceEqDiff, Nat.reduceLeDiff, Nat.reduceLT, Nat.reduceBEq, Nat.reduceBNe, reduceIte, reduceCtorEq, Int.reduceToNat, Int.reduceAdd, Int.reduceSub, Int.reduceMul, Int.reduceNeg, Int.reduceLT, Int.reduceLE, Int.reduceEq, Int.reduceNe, ints, ic, big]
      refine CallP_eq hm (by decide) ?_
      simp only [go_sem, Int.reduceNegSucc, Nat.reduceAdd, Nat.reduceSub, Nat.reduceMul, Nat.reduceEqDiff, Nat.reduceLeDiff, Nat.reduceLT, Nat.reduceBEq, Nat.reduceBNe, reduceIte, reduceCtorEq, Int.reduceToNat, Int.reduceAdd, Int.reduceSub, Int.reduceMul, Int.reduceNeg, Int.reduceLT, Int.reduceLE, Int.reduceEq, Int.reduceNe, ints, ic, big]
    · have hne : dig y ≠ [] := fun h => hy (dig_nil.1 h)
      have hlp := List.length_pos_iff.2 hne
      have hd : decide (0 < ((dig y).length : Int)) = true := decide_eq_true (by omega)
      have ho := t_overn x y (by omega) (by omega) ly
      have hlt := Nat.mod_lt x (by omega : y > 0)
      simp only [hd, go_sem, Int.reduceNegSucc, Nat.reduceAdd, Nat.reduceSub, Nat.reduceMul, Nat.reduceEqDiff, Nat.reduceLeDiff, Nat.reduceLT, Nat.reduceBEq, Nat.reduceBNe, reduceIte, reduceCtorEq, Int.reduceToNat, Int.reduceAdd, Int.reduceSub, Int.reduceMul, Int.reduceNeg, Int.reduceLT, Int.reduceLE, Int.reduceEq, Int.reduceNe, ints, ic, big]
      refine CallP_eq ho (by decide) ?_
      simp only [go_sem, Int.reduceNegSucc, Nat.reduceAdd, Nat.reduceSub, Nat.reduceMul, Nat.reduceEqDiff, Nat.reduceLeDiff, Nat.reduceLT, Nat.reduceBEq, Nat.reduceBNe, reduceIte, reduceCtorEq, Int.reduceToNat, Int.reduceAdd, Int.reduceSub, Int.reduceMul, Int.reduceNeg, Int.reduceLT, Int.reduceLE, Int.reduceEq, Int.reduceNe, ints, ic, big]
      refine RoundP_of (y, x % y) ?_ hlt ⟨?_, ly, len_mono (by omega) ly⟩
      · simp only [go_sem, Int.reduceNegSucc, Nat.reduceAdd, Nat.reduceSub, Nat.reduceMul, Nat.reduceEqDiff, Nat.reduceLeDiff, Nat.reduceLT, Nat.reduceBEq, Nat.reduceBNe, reduceIte, reduceCtorEq, Int.reduceToNat, Int.reduceAdd, Int.reduceSub, Int.reduceMul, Int.reduceNeg, Int.reduceLT, Int.reduceLE, Int.reduceEq, Int.reduceNe, ints, ic, big]
      · show Nat.gcd y (x % y) = _
        rw [← hg, Nat.gcd_comm x y, Nat.gcd_rec y x, Nat.gcd_comm]
set_option maxRecDepth 100000 in
theorem t_div (a b : Int) (hb : b ≠ 0) (hd : b.natAbs ∣ a.natAbs) (la : (dig a.natAbs).length ≤ 50000) (lb : (dig b.natAbs).length ≤ 50000) : Ctr G.P 70 [big a, big b] (· = .tup [big (a / b), big 0, .int 0]) := by
  have ra := t_rightb a (by omega)
  have rb := t_rightb b (by omega)
  have hbs : decide (b.sign = 0) = false := decide_eq_false fun h => hb (Int.sign_eq_zero_iff_zero.1 h)
  have ho := t_overn a.natAbs b.natAbs (by omega) (by omega) lb
  have hmod : a.natAbs % b.natAbs = 0 := Nat.mod_eq_zero_of_dvd hd
  rw [hmod, dig_zero] at ho
  have hq : a.natAbs / b.natAbs = (a / b).natAbs := by
    rw [Int.natAbs_ediv_of_dvd (Int.natAbs_dvd_natAbs.1 hd)]
  have hql : (dig (a / b).natAbs).length ≤ 50000 := by rw [← hq]; exact len_mono (Nat.div_le_self _ _) la
  have hsg : a / b ≠ 0 → a.sign * b.sign = (a / b).sign := fun h => by
    obtain ⟨c, hc⟩ := Int.natAbs_dvd_natAbs.1 hd
    subst hc
    rw [Int.mul_ediv_cancel_left _ hb] at h ⊢
    rw [Int.sign_mul, Int.mul_comm, ← Int.mul_assoc]
    have : b.sign * b.sign = 1 := by
      rcases Int.lt_or_gt_of_ne hb with h1 | h1
      · rw [Int.sign_eq_neg_one_of_neg h1]; rfl
      · rw [Int.sign_eq_one_of_pos h1]; rfl
    rw [this, Int.one_mul]
  rw [hq] at ho
  have w := i64_ok (n := a.sign * b.sign) (by rw [← Int.sign_mul]; have := sign_le (a * b); omega)
  have hm := t_madeb (a.sign * b.sign) (a / b) (a / b).natAbs rfl hsg (by omega)
  have hm2 := t_madeb a.sign 0 0 rfl (fun h => absurd rfl h) (by rw [show (0 : Int).natAbs = 0 from rfl, dig_zero]; simp)
  rw [dig_zero] at hm2
  refine ctr_go good _ _ [.cell 4 47, .cell 5 47, .tmp 6] Try.func70 rfl rfl (by decide +kernel) rfl ?_
  simp only [go_sem, Int.reduceNegSucc, Nat.reduceAdd, Nat.reduceSub, Nat.reduceMul, Nat.reduceEqDiff, Nat.reduceLeDiff, Nat.reduceLT, Nat.reduceBEq, Nat.reduceBNe, reduceIte, reduceCtorEq, Int.reduceToNat, Int.reduceAdd, Int.reduceSub, Int.reduceMul, Int.reduceNeg, Int.reduceLT, Int.reduceLE, Int.reduceEq, Int.reduceNe, ints, ic, big]
  refine CallP_eq ra (by decide) ?_
  simp only [go_sem, Int.reduceNegSucc, Nat.reduceAdd, Nat.reduceSub, Nat.reduceMul, Nat.reduceEqDiff, Nat.reduceLeDiff, Nat.reduceLT, Nat.reduceBEq, Nat.reduceBNe, reduceIte, reduceCtorEq, Int.reduceToNat, Int.reduceAdd, Int.reduceSub, Int.reduceMul, Int.reduceNeg, Int.reduceLT, Int.reduceLE, Int.reduceEq, Int.reduceNe, ints, ic, big]
  refine CallP_eq rb (by decide) ?_
  simp only [hbs, go_sem, Int.reduceNegSucc, Nat.reduceAdd, Nat.reduceSub, Nat.reduceMul, Nat.reduceEqDiff, Nat.reduceLeDiff, Nat.reduceLT, Nat.reduceBEq, Nat.reduceBNe, reduceIte, reduceCtorEq, Int.reduceToNat, Int.reduceAdd, Int.reduceSub, Int.reduceMul, Int.reduceNeg, Int.reduceLT, Int.reduceLE, Int.reduceEq, Int.reduceNe, ints, ic, big]
  refine CallP_eq ho (by decide) ?_
  simp only [w, go_sem, Int.reduceNegSucc, Nat.reduceAdd, Nat.reduceSub, Nat.reduceMul, Nat.reduceEqDiff, Nat.reduceLeDiff, Nat.reduceLT, Nat.reduceBEq, Nat.reduceBNe, reduceIte, reduceCtorEq, Int.reduceToNat, Int.reduceAdd, Int.reduceSub, Int.reduceMul, Int.reduceNeg, Int.reduceLT, Int.reduceLE, Int.reduceEq, Int.reduceNe, ints, ic, big]
  refine Two_of (fun d => ?_) (fun d => ?_)
  · simp only [d, go_sem, Int.reduceNegSucc, Nat.reduceAdd, Nat.reduceSub, Nat.reduceMul, Nat.reduceEqDiff, Nat.reduceLeDiff, Nat.reduceLT, Nat.reduceBEq, Nat.reduceBNe, reduceIte, reduceCtorEq, Int.reduceToNat, Int.reduceAdd, Int.reduceSub, Int.reduceMul, Int.reduceNeg, Int.reduceLT, Int.reduceLE, Int.reduceEq, Int.reduceNe, ints, ic, big]
    refine DrawS_of (by decide +kernel) ?_
    simp only [w, go_sem, Int.reduceNegSucc, Nat.reduceAdd, Nat.reduceSub, Nat.reduceMul, Nat.reduceEqDiff, Nat.reduceLeDiff, Nat.reduceLT, Nat.reduceBEq, Nat.reduceBNe, reduceIte, reduceCtorEq, Int.reduceToNat, Int.reduceAdd, Int.reduceSub, Int.reduceMul, Int.reduceNeg, Int.reduceLT, Int.reduceLE, Int.reduceEq, Int.reduceNe, ints, ic, big]
    refine CallD_eq hm (by decide) ?_
    simp only [go_sem, Int.reduceNegSucc, Nat.reduceAdd, Nat.reduceSub, Nat.reduceMul, Nat.reduceEqDiff, Nat.reduceLeDiff, Nat.reduceLT, Nat.reduceBEq, Nat.reduceBNe, reduceIte, reduceCtorEq, Int.reduceToNat, Int.reduceAdd, Int.reduceSub, Int.reduceMul, Int.reduceNeg, Int.reduceLT, Int.reduceLE, Int.reduceEq, Int.reduceNe, ints, ic, big]
    refine CallD_eq hm2 (by decide) ?_
    simp only [go_sem, Int.reduceNegSucc, Nat.reduceAdd, Nat.reduceSub, Nat.reduceMul, Nat.reduceEqDiff, Nat.reduceLeDiff, Nat.reduceLT, Nat.reduceBEq, Nat.reduceBNe, reduceIte, reduceCtorEq, Int.reduceToNat, Int.reduceAdd, Int.reduceSub, Int.reduceMul, Int.reduceNeg, Int.reduceLT, Int.reduceLE, Int.reduceEq, Int.reduceNe, ints, ic, big]
  · simp only [d, List.map_nil, Int.natCast_zero, decide_true, go_sem, Int.reduceNegSucc, Nat.reduceAdd, Nat.reduceSub, Nat.reduceMul, Nat.reduceEqDiff, Nat.reduceLeDiff, Nat.reduceLT, Nat.reduceBEq, Nat.reduceBNe, reduceIte, reduceCtorEq, Int.reduceToNat, Int.reduceAdd, Int.reduceSub, Int.reduceMul, Int.reduceNeg, Int.reduceLT, Int.reduceLE, Int.reduceEq, Int.reduceNe, ints, ic, big]
    refine DrawS_of (by decide +kernel) ?_
    simp only [w, go_sem, Int.reduceNegSucc, Nat.reduceAdd, Nat.reduceSub, Nat.reduceMul, Nat.reduceEqDiff, Nat.reduceLeDiff, Nat.reduceLT, Nat.reduceBEq, Nat.reduceBNe, reduceIte, reduceCtorEq, Int.reduceToNat, Int.reduceAdd, Int.reduceSub, Int.reduceMul, Int.reduceNeg, Int.reduceLT, Int.reduceLE, Int.reduceEq, Int.reduceNe, ints, ic, big]
    refine CallD_eq hm (by decide) ?_
    simp only [go_sem, Int.reduceNegSucc, Nat.reduceAdd, Nat.reduceSub, Nat.reduceMul, Nat.reduceEqDiff, Nat.reduceLeDiff, Nat.reduceLT, Nat.reduceBEq, Nat.reduceBNe, reduceIte, reduceCtorEq, Int.reduceToNat, Int.reduceAdd, Int.reduceSub, Int.reduceMul, Int.reduceNeg, Int.reduceLT, Int.reduceLE, Int.reduceEq, Int.reduceNe, ints, ic, big]
    refine CallD_eq hm2 (by decide) ?_
    simp only [go_sem, Int.reduceNegSucc, Nat.reduceAdd, Nat.reduceSub, Nat.reduceMul, Nat.reduceEqDiff, Nat.reduceLeDiff, Nat.reduceLT, Nat.reduceBEq, Nat.reduceBNe, reduceIte, reduceCtorEq, Int.reduceToNat, Int.reduceAdd, Int.reduceSub, Int.reduceMul, Int.reduceNeg, Int.reduceLT, Int.reduceLE, Int.reduceEq, Int.reduceNe, ints, ic, big]
end Go.Proofs.Ytpnlfkaijdjhlaa

namespace Go.Proofs.Ytpnlfkaijdjhlaa
set_option linter.all false
open Go.Abs

theorem of_step {l : List Int} {m z : Int} (h : val l + 1048576 ^ l.length * m = z) : val (l ++ [m % 1048576]) + 1048576 ^ (l ++ [m % 1048576]).length * (m / 1048576) = z := by
  rw [val_snoc, List.length_append, List.length_cons, List.length_nil, pow_step, ← h]
  have e : (1048576 : Int) ^ l.length * (m % 1048576) + 1048576 ^ l.length * 1048576 * (m / 1048576) = 1048576 ^ l.length * m := by
    rw [Int.mul_assoc, ← Int.mul_add, Int.emod_add_mul_ediv]
  omega
theorem of_len {n : Int} {k : Nat} (hn : n ≠ 0) (h0 : 0 ≤ n) (hk : k ≤ 4) (h : n < 1048576 ^ (4 - k)) : k + 1 ≤ 4 ∧ n / 1048576 < 1048576 ^ (4 - (k + 1)) := by
  rcases Nat.lt_or_ge k 4 with h1 | h1
  · refine ⟨h1, ?_⟩
    rw [show 4 - k = (4 - (k + 1)) + 1 by omega, pow_step] at h
    omega
  · rw [show 4 - k = 0 by omega, Int.pow_zero] at h
    omega
set_option maxRecDepth 100000 in
set_option maxHeartbeats 1000000 in
theorem t_of (z : Int) (hz : -9223372036854775808 ≤ z ∧ z ≤ 9223372036854775807) : Ctr G.P 58 [.int z] (· = big z) := by
  by_cases h0 : z = 0
  · subst h0
    refine ctr_go good _ _ [.cell 2 47] Try.func58 rfl rfl (by decide +kernel) rfl ?_
    simp only [eq_self, dig_zero, Int.natAbs_zero, Int.sign_zero, List.map_nil, go_sem, Int.reduceNegSucc, Nat.reduceAdd, Nat.reduceSub, Nat.reduceMul, Nat.reduceEqDiff, Nat.reduceLeDiff, Nat.reduceLT, Nat.reduceBEq, Nat.reduceBNe, reduceIte, reduceCtorEq, Int.reduceToNat, Int.reduceAdd, Int.reduceSub, Int.reduceMul, Int.reduceNeg, Int.reduceLT, Int.reduceLE, Int.reduceEq, Int.reduceNe, ints, ic, big]
  · have d0 : decide (z = 0) = false := decide_eq_false h0
    have hmd : ∀ (l : List Int), OkD l → val l = z.natAbs → l.length ≤ 1000000 → Ctr G.P 61 [.int z.sign, ints l] (· = big z) := fun l ho hv hl => by
      have := t_made z.sign l ho hl
      rw [hv, Int.toNat_natCast, if_neg (by omega)] at this
      exact this
    rcases Int.lt_or_gt_of_ne h0 with hlt | hgt
    · have d1 : decide (z < 0) = true := decide_eq_true hlt
      have hsg := Int.sign_eq_neg_one_of_neg hlt
      rw [hsg] at hmd
      refine ctr_go good _ _ [.cell 2 47] Try.func58 rfl rfl (by decide +kernel) rfl ?_
      simp only [d0, d1, go_sem, Int.reduceNegSucc, Nat.reduceAdd, Nat.reduceSub, Nat.reduceMul, Nat.reduceEqDiff, Nat.reduceLeDiff, Nat.reduceLT, Nat.reduceBEq, Nat.reduceBNe, reduceIte, reduceCtorEq, Int.reduceToNat, Int.reduceAdd, Int.reduceSub, Int.reduceMul, Int.reduceNeg, Int.reduceLT, Int.reduceLE, Int.reduceEq, Int.reduceNe, ints, ic, big]
      refine LoopP_ofP [0, 2, 3, 4] [2, 22] [(4, 22, 3, 1)] (fun g : Int × List Int => ⟨[(0, .im (.int (-g.1))), (2, .loc 2 2 0 0), (3, .im (.int (-1))), (4, .vec 22 3 1 (g.2.map ic))], [(2, 2, [[.int 0, .sl []]])], [(22, 1, g.2.length)]⟩)
        (fun g => (0 ≤ g.1 ∧ g.1 ≤ -z) ∧ OkD g.2 ∧ val g.2 + 1048576 ^ g.2.length * g.1 = -z ∧ (g.2.length ≤ 4 ∧ g.1 < 1048576 ^ (4 - g.2.length))) (fun g => g.1.toNat) (-z, []) ?_ ?_ ⟨by dsimp only; omega, OkD.nil, by simp [val], by dsimp only; simp; omega⟩ ?_
      · simp only [go_sem, Int.reduceNegSucc, Nat.reduceAdd, Nat.reduceSub, Nat.reduceMul, Nat.reduceEqDiff, Nat.reduceLeDiff, Nat.reduceLT, Nat.reduceBEq, Nat.reduceBNe, reduceIte, reduceCtorEq, Int.reduceToNat, Int.reduceAdd, Int.reduceSub, Int.reduceMul, Int.reduceNeg, Int.reduceLT, Int.reduceLE, Int.reduceEq, Int.reduceNe, ints, ic, big]
        simp
      · simp only [List.map_nil, Int.neg_neg, go_sem, Int.reduceNegSucc, Nat.reduceAdd, Nat.reduceSub, Nat.reduceMul, Nat.reduceEqDiff, Nat.reduceLeDiff, Nat.reduceLT, Nat.reduceBEq, Nat.reduceBNe, reduceIte, reduceCtorEq, Int.reduceToNat, Int.reduceAdd, Int.reduceSub, Int.reduceMul, Int.reduceNeg, Int.reduceLT, Int.reduceLE, Int.reduceEq, Int.reduceNe, ints, ic, big]
      · intro ⟨n, l⟩ ⟨⟨n0, n1⟩, hl, hv, hlen, hlt'⟩
        dsimp only at n0 n1 hl hv hlen hlt'
        have hlt := hlt'
        by_cases hn : n = 0
        · subst hn
          rw [Int.mul_zero, Int.add_zero] at hv
          have hm := hmd l hl (by omega) (by omega)
          simp only [Int.neg_zero, go_sem, Int.reduceNegSucc, Nat.reduceAdd, Nat.reduceSub, Nat.reduceMul, Nat.reduceEqDiff, Nat.reduceLeDiff, Nat.reduceLT, Nat.reduceBEq, Nat.reduceBNe, reduceIte, reduceCtorEq, Int.reduceToNat, Int.reduceAdd, Int.reduceSub, Int.reduceMul, Int.reduceNeg, Int.reduceLT, Int.reduceLE, Int.reduceEq, Int.reduceNe, ints, ic, big]
          refine CallP_eq hm (by decide) ?_
          simp only [go_sem, Int.reduceNegSucc, Nat.reduceAdd, Nat.reduceSub, Nat.reduceMul, Nat.reduceEqDiff, Nat.reduceLeDiff, Nat.reduceLT, Nat.reduceBEq, Nat.reduceBNe, reduceIte, reduceCtorEq, Int.reduceToNat, Int.reduceAdd, Int.reduceSub, Int.reduceMul, Int.reduceNeg, Int.reduceLT, Int.reduceLE, Int.reduceEq, Int.reduceNe, ints, ic, big]
        · have dn : decide (-n = 0) = false := decide_eq_false (by omega)
          have hm : (-n).tmod 1048576 = -(n % 1048576) := by rw [Int.neg_tmod, Int.tmod_eq_emod_of_nonneg n0]
          have hq : IntKind.i64.wrap ((-n).tdiv 1048576) = -(n / 1048576) := by
            rw [Int.neg_tdiv, Int.tdiv_eq_ediv_of_nonneg n0]; exact i64_ok (by omega)
          by_cases hr : n % 1048576 = 0
          · have hd5 : decide (-(n % 1048576) < 0) = false := decide_eq_false (by omega)
            have hz : -(n % 1048576) = n % 1048576 := by omega
            simp only [dn, hm, hd5, hq, go_sem, Int.reduceNegSucc, Nat.reduceAdd, Nat.reduceSub, Nat.reduceMul, Nat.reduceEqDiff, Nat.reduceLeDiff, Nat.reduceLT, Nat.reduceBEq, Nat.reduceBNe, reduceIte, reduceCtorEq, Int.reduceToNat, Int.reduceAdd, Int.reduceSub, Int.reduceMul, Int.reduceNeg, Int.reduceLT, Int.reduceLE, Int.reduceEq, Int.reduceNe, ints, ic, big]
            refine ⟨ic_len _, by simp, by omega, ?_⟩
            refine RoundP_of (n / 1048576, l ++ [n % 1048576]) ?_ (by dsimp only; omega) ⟨by dsimp only; omega, hl.append (OkD.cons (by omega) OkD.nil), of_step hv, by dsimp only; rw [List.length_append, List.length_cons, List.length_nil]; exact of_len hn n0 hlen hlt⟩
            simp only [List.map_append, List.length_append, hz, go_sem, Int.reduceNegSucc, Nat.reduceAdd, Nat.reduceSub, Nat.reduceMul, Nat.reduceEqDiff, Nat.reduceLeDiff, Nat.reduceLT, Nat.reduceBEq, Nat.reduceBNe, reduceIte, reduceCtorEq, Int.reduceToNat, Int.reduceAdd, Int.reduceSub, Int.reduceMul, Int.reduceNeg, Int.reduceLT, Int.reduceLE, Int.reduceEq, Int.reduceNe, ints, ic, big]
          · have hd5 : decide (-(n % 1048576) < 0) = true := decide_eq_true (by omega)
            have hz : IntKind.i64.wrap (0 - -(n % 1048576)) = n % 1048576 := by rw [show (0 : Int) - -(n % 1048576) = n % 1048576 by omega]; exact i64_ok (by omega)
            simp only [dn, hm, hd5, hq, hz, go_sem, Int.reduceNegSucc, Nat.reduceAdd, Nat.reduceSub, Nat.reduceMul, Nat.reduceEqDiff, Nat.reduceLeDiff, Nat.reduceLT, Nat.reduceBEq, Nat.reduceBNe, reduceIte, reduceCtorEq, Int.reduceToNat, Int.reduceAdd, Int.reduceSub, Int.reduceMul, Int.reduceNeg, Int.reduceLT, Int.reduceLE, Int.reduceEq, Int.reduceNe, ints, ic, big]
            refine ⟨ic_len _, by simp, by omega, ?_⟩
            refine RoundP_of (n / 1048576, l ++ [n % 1048576]) ?_ (by dsimp only; omega) ⟨by dsimp only; omega, hl.append (OkD.cons (by omega) OkD.nil), of_step hv, by dsimp only; rw [List.length_append, List.length_cons, List.length_nil]; exact of_len hn n0 hlen hlt⟩
            simp only [List.map_append, List.length_append, hz, go_sem, Int.reduceNegSucc, Nat.reduceAdd, Nat.reduceSub, Nat.reduceMul, Nat.reduceEqDiff, Nat.reduceLeDiff, Nat.reduceLT, Nat.reduceBEq, Nat.reduceBNe, reduceIte, reduceCtorEq, Int.reduceToNat, Int.reduceAdd, Int.reduceSub, Int.reduceMul, Int.reduceNeg, Int.reduceLT, Int.reduceLE, Int.reduceEq, Int.reduceNe, ints, ic, big]
    · have d1 : decide (z < 0) = false := decide_eq_false (by omega)
      have hsg := Int.sign_eq_one_of_pos hgt
      rw [hsg] at hmd
      refine ctr_go good _ _ [.cell 2 47] Try.func58 rfl rfl (by decide +kernel) rfl ?_
      simp only [d0, d1, go_sem, Int.reduceNegSucc, Nat.reduceAdd, Nat.reduceSub, Nat.reduceMul, Nat.reduceEqDiff, Nat.reduceLeDiff, Nat.reduceLT, Nat.reduceBEq, Nat.reduceBNe, reduceIte, reduceCtorEq, Int.reduceToNat, Int.reduceAdd, Int.reduceSub, Int.reduceMul, Int.reduceNeg, Int.reduceLT, Int.reduceLE, Int.reduceEq, Int.reduceNe, ints, ic, big]
      refine LoopP_ofP [0, 2, 3, 4] [2, 22] [(4, 22, 3, 1)] (fun g : Int × List Int => ⟨[(0, .im (.int g.1)), (2, .loc 2 2 0 0), (3, .im (.int 1)), (4, .vec 22 3 1 (g.2.map ic))], [(2, 2, [[.int 0, .sl []]])], [(22, 1, g.2.length)]⟩)
        (fun g => (0 ≤ g.1 ∧ g.1 ≤ z) ∧ OkD g.2 ∧ val g.2 + 1048576 ^ g.2.length * g.1 = z ∧ (g.2.length ≤ 4 ∧ g.1 < 1048576 ^ (4 - g.2.length))) (fun g => g.1.toNat) (z, []) ?_ ?_ ⟨by dsimp only; omega, OkD.nil, by simp [val], by dsimp only; simp; omega⟩ ?_
      · simp only [go_sem, Int.reduceNegSucc, Nat.reduceAdd, Nat.reduceSub, Nat.reduceMul, Nat.reduceEqDiff, Nat.reduceLeDiff, Nat.reduceLT, Nat.reduceBEq, Nat.reduceBNe, reduceIte, reduceCtorEq, Int.reduceToNat, Int.reduceAdd, Int.reduceSub, Int.reduceMul, Int.reduceNeg, Int.reduceLT, Int.reduceLE, Int.reduceEq, Int.reduceNe, ints, ic, big]
        simp
      · simp only [List.map_nil, go_sem, Int.reduceNegSucc, Nat.reduceAdd, Nat.reduceSub, Nat.reduceMul, Nat.reduceEqDiff, Nat.reduceLeDiff, Nat.reduceLT, Nat.reduceBEq, Nat.reduceBNe, reduceIte, reduceCtorEq, Int.reduceToNat, Int.reduceAdd, Int.reduceSub, Int.reduceMul, Int.reduceNeg, Int.reduceLT, Int.reduceLE, Int.reduceEq, Int.reduceNe, ints, ic, big]
      · intro ⟨n, l⟩ ⟨⟨n0, n1⟩, hl, hv, hlen, hlt⟩
        dsimp only at n0 n1 hl hv hlen hlt
        by_cases hn : n = 0
        · subst hn
          rw [Int.mul_zero, Int.add_zero] at hv
          have hm := hmd l hl (by omega) (by omega)
          simp only [go_sem, Int.reduceNegSucc, Nat.reduceAdd, Nat.reduceSub, Nat.reduceMul, Nat.reduceEqDiff, Nat.reduceLeDiff, Nat.reduceLT, Nat.reduceBEq, Nat.reduceBNe, reduceIte, reduceCtorEq, Int.reduceToNat, Int.reduceAdd, Int.reduceSub, Int.reduceMul, Int.reduceNeg, Int.reduceLT, Int.reduceLE, Int.reduceEq, Int.reduceNe, ints, ic, big]
          refine CallP_eq hm (by decide) ?_
          simp only [go_sem, Int.reduceNegSucc, Nat.reduceAdd, Nat.reduceSub, Nat.reduceMul, Nat.reduceEqDiff, Nat.reduceLeDiff, Nat.reduceLT, Nat.reduceBEq, Nat.reduceBNe, reduceIte, reduceCtorEq, Int.reduceToNat, Int.reduceAdd, Int.reduceSub, Int.reduceMul, Int.reduceNeg, Int.reduceLT, Int.reduceLE, Int.reduceEq, Int.reduceNe, ints, ic, big]
        · have dn : decide (n = 0) = false := decide_eq_false hn
          have hm : n.tmod 1048576 = n % 1048576 := Int.tmod_eq_emod_of_nonneg n0
          have hq : IntKind.i64.wrap (n.tdiv 1048576) = n / 1048576 := by
            rw [Int.tdiv_eq_ediv_of_nonneg n0]; exact i64_ok (by omega)
          have hd5 : decide (n % 1048576 < 0) = false := decide_eq_false (by omega)
          simp only [dn, hm, hd5, hq, go_sem, Int.reduceNegSucc, Nat.reduceAdd, Nat.reduceSub, Nat.reduceMul, Nat.reduceEqDiff, Nat.reduceLeDiff, Nat.reduceLT, Nat.reduceBEq, Nat.reduceBNe, reduceIte, reduceCtorEq, Int.reduceToNat, Int.reduceAdd, Int.reduceSub, Int.reduceMul, Int.reduceNeg, Int.reduceLT, Int.reduceLE, Int.reduceEq, Int.reduceNe, ints, ic, big]
          refine ⟨ic_len _, by simp, by omega, ?_⟩
          refine RoundP_of (n / 1048576, l ++ [n % 1048576]) ?_ (by dsimp only; omega) ⟨by dsimp only; omega, hl.append (OkD.cons (by omega) OkD.nil), of_step hv, by dsimp only; rw [List.length_append, List.length_cons, List.length_nil]; exact of_len hn n0 hlen hlt⟩
          simp only [List.map_append, List.length_append, go_sem, Int.reduceNegSucc, Nat.reduceAdd, Nat.reduceSub, Nat.reduceMul, Nat.reduceEqDiff, Nat.reduceLeDiff, Nat.reduceLT, Nat.reduceBEq, Nat.reduceBNe, reduceIte, reduceCtorEq, Int.reduceToNat, Int.reduceAdd, Int.reduceSub, Int.reduceMul, Int.reduceNeg, Int.reduceLT, Int.reduceLE, Int.reduceEq, Int.reduceNe, ints, ic, big]
end Go.Proofs.Ytpnlfkaijdjhlaa
