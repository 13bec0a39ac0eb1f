/-
  A digit of a quotient, guessed out of two digits, and corrected by a third one. Program-independent. The generic layer under all claims of this repo: numbers, 6.
-/
import Derived.Test.YtpnlfkaijdjhlabKX13
import Derived.Test.YtpnlfkaijdjhlabKX14
namespace Go.Proofs.Ytpnlfkaijdjhlab
set_option linter.all false
open Go.Abs

theorem t_nan (x : Int) : Ctr G.P 91 [.int x] (· = .bool false) := by
  refine ctr_go good _ _ [.tmp 2] Try.func91 rfl rfl (by decide +kernel) rfl ?_
  simp only [eq_self, go_sem, Int.reduceNegSucc, Nat.reduceAdd, Nat.reduceSub, Nat.reduceMul, Nat.reduceEqDiff, Nat.reduceLeDiff, Nat.reduceLT, Nat.reduceBEq, Nat.reduceBNe, reduceIte, reduceCtorEq, Int.reduceToNat, Int.reduceAdd, Int.reduceSub, Int.reduceMul, Int.reduceNeg, Int.reduceLT, Int.reduceLE, Int.reduceEq, Int.reduceNe, ints, ic, mb20, pw20, fd20]
theorem t_cmp (x y : Int) : Ctr G.P 69 [.int x, .int y] (· = .int (cmpI x y)) := by
  have h1 := t_nan x
  have h2 := t_nan y
  refine ctr_go good _ _ [.tmp 4] Try.func69 rfl rfl (by decide +kernel) rfl ?_
  simp only [go_sem, Int.reduceNegSucc, Nat.reduceAdd, Nat.reduceSub, Nat.reduceMul, Nat.reduceEqDiff, Nat.reduceLeDiff, Nat.reduceLT, Nat.reduceBEq, Nat.reduceBNe, reduceIte, reduceCtorEq, Int.reduceToNat, Int.reduceAdd, Int.reduceSub, Int.reduceMul, Int.reduceNeg, Int.reduceLT, Int.reduceLE, Int.reduceEq, Int.reduceNe, ints, ic, mb20, pw20, fd20]
  refine CallP_eq h1 (by decide) ?_
  simp only [go_sem, Int.reduceNegSucc, Nat.reduceAdd, Nat.reduceSub, Nat.reduceMul, Nat.reduceEqDiff, Nat.reduceLeDiff, Nat.reduceLT, Nat.reduceBEq, Nat.reduceBNe, reduceIte, reduceCtorEq, Int.reduceToNat, Int.reduceAdd, Int.reduceSub, Int.reduceMul, Int.reduceNeg, Int.reduceLT, Int.reduceLE, Int.reduceEq, Int.reduceNe, ints, ic, mb20, pw20, fd20]
  refine CallP_eq h2 (by decide) ?_
  simp only [go_sem, Int.reduceNegSucc, Nat.reduceAdd, Nat.reduceSub, Nat.reduceMul, Nat.reduceEqDiff, Nat.reduceLeDiff, Nat.reduceLT, Nat.reduceBEq, Nat.reduceBNe, reduceIte, reduceCtorEq, Int.reduceToNat, Int.reduceAdd, Int.reduceSub, Int.reduceMul, Int.reduceNeg, Int.reduceLT, Int.reduceLE, Int.reduceEq, Int.reduceNe, ints, ic, mb20, pw20, fd20]
  refine Two_dec (fun d1 d1' => ?_) (fun d1 d1' => ?_)
  · have : cmpI x y = -1 := if_pos d1'
    rw [this]
    simp only [d1, go_sem, Int.reduceNegSucc, Nat.reduceAdd, Nat.reduceSub, Nat.reduceMul, Nat.reduceEqDiff, Nat.reduceLeDiff, Nat.reduceLT, Nat.reduceBEq, Nat.reduceBNe, reduceIte, reduceCtorEq, Int.reduceToNat, Int.reduceAdd, Int.reduceSub, Int.reduceMul, Int.reduceNeg, Int.reduceLT, Int.reduceLE, Int.reduceEq, Int.reduceNe, ints, ic, mb20, pw20, fd20]
  · simp only [d1, go_sem, Int.reduceNegSucc, Nat.reduceAdd, Nat.reduceSub, Nat.reduceMul, Nat.reduceEqDiff, Nat.reduceLeDiff, Nat.reduceLT, Nat.reduceBEq, Nat.reduceBNe, reduceIte, reduceCtorEq, Int.reduceToNat, Int.reduceAdd, Int.reduceSub, Int.reduceMul, Int.reduceNeg, Int.reduceLT, Int.reduceLE, Int.reduceEq, Int.reduceNe, ints, ic, mb20, pw20, fd20]
    refine Two_dec (fun d2 d2' => ?_) (fun d2 d2' => ?_)
    · have : cmpI x y = 1 := by rw [cmpI, if_neg d1', if_neg (by omega)]
      rw [this]
      simp only [d1, d2, go_sem, Int.reduceNegSucc, Nat.reduceAdd, Nat.reduceSub, Nat.reduceMul, Nat.reduceEqDiff, Nat.reduceLeDiff, Nat.reduceLT, Nat.reduceBEq, Nat.reduceBNe, reduceIte, reduceCtorEq, Int.reduceToNat, Int.reduceAdd, Int.reduceSub, Int.reduceMul, Int.reduceNeg, Int.reduceLT, Int.reduceLE, Int.reduceEq, Int.reduceNe, ints, ic, mb20, pw20, fd20]
    · have : cmpI x y = 0 := by rw [cmpI, if_neg d1', if_pos (by omega)]
      rw [this]
      simp only [d1, d2, go_sem, Int.reduceNegSucc, Nat.reduceAdd, Nat.reduceSub, Nat.reduceMul, Nat.reduceEqDiff, Nat.reduceLeDiff, Nat.reduceLT, Nat.reduceBEq, Nat.reduceBNe, reduceIte, reduceCtorEq, Int.reduceToNat, Int.reduceAdd, Int.reduceSub, Int.reduceMul, Int.reduceNeg, Int.reduceLT, Int.reduceLE, Int.reduceEq, Int.reduceNe, ints, ic, mb20, pw20, fd20]
theorem cmp_len {n m : Nat} (h : (dig n).length ≠ (dig m).length) : cmpI ((dig n).length : Int) ((dig m).length : Int) = cmpI (n : Int) (m : Int) := by
  rcases Nat.lt_or_gt_of_ne h with h1 | h1
  · have : n < m := by
      rcases Nat.lt_or_ge n m with h2 | h2
      · exact h2
      · have := len_mono h2 (Nat.le_refl _); omega
    rw [cmpI, cmpI, if_pos (by omega), if_pos (by omega)]
  · have : m < n := by
      rcases Nat.lt_or_ge m n with h2 | h2
      · exact h2
      · have := len_mono h2 (Nat.le_refl _); omega
    rw [cmpI, cmpI, if_neg (by omega), if_neg (by omega), if_neg (by omega), if_neg (by omega)]
theorem cmp_dgt {a b : List Int} (ha : OkD a) (hb : OkD b) {m : Nat} (h : ∀ j, m < j → dgt a j = dgt b j) (hne : dgt a m ≠ dgt b m) : cmpI (dgt a m) (dgt b m) = cmpI (val a) (val b) := by
  rcases Int.lt_or_gt_of_ne hne with h1 | h1
  · have := lt_at ha hb m h h1
    rw [cmpI, cmpI, if_pos h1, if_pos this]
  · have := lt_at hb ha m (fun j hj => (h j hj).symm) h1
    rw [cmpI, cmpI, if_neg (by omega), if_neg (by omega), if_neg (by omega), if_neg (by omega)]
set_option maxRecDepth 100000 in
set_option maxHeartbeats 1000000 in
theorem t_pcompare (x y : Nat) (lx : (dig x).length ≤ 1000000) (ly : (dig y).length ≤ 1000000) : Ctr G.P 70 [ints (dig x), ints (dig y)] (· = .int (cmpI (x : Int) (y : Int))) := by
  by_cases hl : (dig x).length = (dig y).length
  case neg =>
    have hc := t_cmp ((dig x).length : Int) ((dig y).length : Int)
    rw [cmp_len hl] at hc
    have hd : decide (((dig x).length : Int) = (dig y).length) = false := decide_eq_false (by omega)
    refine ctr_go good _ _ [.tmp 4] Try.func70 rfl rfl (by decide +kernel) rfl ?_
    simp only [hd, go_sem, Int.reduceNegSucc, Nat.reduceAdd, Nat.reduceSub, Nat.reduceMul, Nat.reduceEqDiff, Nat.reduceLeDiff, Nat.reduceLT, Nat.reduceBEq, Nat.reduceBNe, reduceIte, reduceCtorEq, Int.reduceToNat, Int.reduceAdd, Int.reduceSub, Int.reduceMul, Int.reduceNeg, Int.reduceLT, Int.reduceLE, Int.reduceEq, Int.reduceNe, ints, ic, mb20, pw20, fd20]
    refine CallP_eq hc (by decide) ?_
    simp only [go_sem, Int.reduceNegSucc, Nat.reduceAdd, Nat.reduceSub, Nat.reduceMul, Nat.reduceEqDiff, Nat.reduceLeDiff, Nat.reduceLT, Nat.reduceBEq, Nat.reduceBNe, reduceIte, reduceCtorEq, Int.reduceToNat, Int.reduceAdd, Int.reduceSub, Int.reduceMul, Int.reduceNeg, Int.reduceLT, Int.reduceLE, Int.reduceEq, Int.reduceNe, ints, ic, mb20, pw20, fd20]
  case pos =>
    have hvx := val_dig x
    have hvy := val_dig y
    have hox := dig_ok x
    have hoy := dig_ok y
    generalize dig x = a at *
    generalize dig y = b at *
    rw [← hvx, ← hvy]
    have hli : (a.length : Int) = b.length := by omega
    have hw := i64_ok (n := (b.length : Int) - 1) (by omega)
    refine ctr_go good _ _ [.tmp 4] Try.func70 rfl rfl (by decide +kernel) rfl ?_
    simp only [hli, eq_self, hw, go_sem, Int.reduceNegSucc, Nat.reduceAdd, Nat.reduceSub, Nat.reduceMul, Nat.reduceEqDiff, Nat.reduceLeDiff, Nat.reduceLT, Nat.reduceBEq, Nat.reduceBNe, reduceIte, reduceCtorEq, Int.reduceToNat, Int.reduceAdd, Int.reduceSub, Int.reduceMul, Int.reduceNeg, Int.reduceLT, Int.reduceLE, Int.reduceEq, Int.reduceNe, ints, ic, mb20, pw20, fd20]
    refine LoopP_of [0, 1, 5] [] (fun n : Nat => ⟨[(0, .im (.sl (a.map ic))), (1, .im (.sl (b.map ic))), (5, .im (.int ((n : Int) - 1)))], [], []⟩) (fun n => n ≤ b.length ∧ ∀ j, n ≤ j → dgt a j = dgt b j) (fun n => n) b.length ?_
      ⟨Nat.le_refl _, fun j hj => by rw [dgt_none (by omega), dgt_none (by omega)]⟩ ?_
    · simp only [hw, go_sem, Int.reduceNegSucc, Nat.reduceAdd, Nat.reduceSub, Nat.reduceMul, Nat.reduceEqDiff, Nat.reduceLeDiff, Nat.reduceLT, Nat.reduceBEq, Nat.reduceBNe, reduceIte, reduceCtorEq, Int.reduceToNat, Int.reduceAdd, Int.reduceSub, Int.reduceMul, Int.reduceNeg, Int.reduceLT, Int.reduceLE, Int.reduceEq, Int.reduceNe, ints, ic, mb20, pw20, fd20]
    intro n ⟨hn, hz⟩
    rcases n with _ | m
    · have hd : decide ((0 : Int) ≤ ((0 : Nat) : Int) - 1) = false := by decide
      have hv : val a = val b := same_val fun j => hz j (Nat.zero_le _)
      have hv' : cmpI (val a) (val b) = 0 := by rw [cmpI, if_neg (by omega), if_pos hv]
      rw [hv']
      simp only [hd, go_sem, Int.reduceNegSucc, Nat.reduceAdd, Nat.reduceSub, Nat.reduceMul, Nat.reduceEqDiff, Nat.reduceLeDiff, Nat.reduceLT, Nat.reduceBEq, Nat.reduceBNe, reduceIte, reduceCtorEq, Int.reduceToNat, Int.reduceAdd, Int.reduceSub, Int.reduceMul, Int.reduceNeg, Int.reduceLT, Int.reduceLE, Int.reduceEq, Int.reduceNe, ints, ic, mb20, pw20, fd20]
    · have h2 : ((m + 1 : Nat) : Int) - 1 = m := by omega
      have hd : decide ((0 : Int) ≤ (m : Int)) = true := decide_eq_true (by omega)
      have h3 := i64_ok (n := (m : Int) - 1) (by omega)
      have hx := get_nat (l := a) (i := m) (by omega)
      have hy := get_nat (l := b) (i := m) (by omega)
      simp only [h2, hd, go_sem, Int.reduceNegSucc, Nat.reduceAdd, Nat.reduceSub, Nat.reduceMul, Nat.reduceEqDiff, Nat.reduceLeDiff, Nat.reduceLT, Nat.reduceBEq, Nat.reduceBNe, reduceIte, reduceCtorEq, Int.reduceToNat, Int.reduceAdd, Int.reduceSub, Int.reduceMul, Int.reduceNeg, Int.reduceLT, Int.reduceLE, Int.reduceEq, Int.reduceNe, ints, ic, mb20, pw20, fd20]
      refine DrawP_of 9 (by decide +kernel) ?_
      simp only [h2, List.getElem?_map, hx, hy, go_sem, Int.reduceNegSucc, Nat.reduceAdd, Nat.reduceSub, Nat.reduceMul, Nat.reduceEqDiff, Nat.reduceLeDiff, Nat.reduceLT, Nat.reduceBEq, Nat.reduceBNe, reduceIte, reduceCtorEq, Int.reduceToNat, Int.reduceAdd, Int.reduceSub, Int.reduceMul, Int.reduceNeg, Int.reduceLT, Int.reduceLE, Int.reduceEq, Int.reduceNe, ints, ic, mb20, pw20, fd20]
      refine Two_dec (fun he he' => ?_) (fun he he' => ?_)
      · simp only [h2, he, go_sem, Int.reduceNegSucc, Nat.reduceAdd, Nat.reduceSub, Nat.reduceMul, Nat.reduceEqDiff, Nat.reduceLeDiff, Nat.reduceLT, Nat.reduceBEq, Nat.reduceBNe, reduceIte, reduceCtorEq, Int.reduceToNat, Int.reduceAdd, Int.reduceSub, Int.reduceMul, Int.reduceNeg, Int.reduceLT, Int.reduceLE, Int.reduceEq, Int.reduceNe, ints, ic, mb20, pw20, fd20]
        refine RoundP_of m ?_ (by omega) ⟨by omega, fun j hj => ?_⟩
        · simp only [h2, h3, go_sem, Int.reduceNegSucc, Nat.reduceAdd, Nat.reduceSub, Nat.reduceMul, Nat.reduceEqDiff, Nat.reduceLeDiff, Nat.reduceLT, Nat.reduceBEq, Nat.reduceBNe, reduceIte, reduceCtorEq, Int.reduceToNat, Int.reduceAdd, Int.reduceSub, Int.reduceMul, Int.reduceNeg, Int.reduceLT, Int.reduceLE, Int.reduceEq, Int.reduceNe, ints, ic, mb20, pw20, fd20]
        · rcases Nat.lt_or_ge m j with h | h
          · exact hz j h
          · rw [show j = m by omega]; exact he'
      · have hc := t_cmp (dgt a m) (dgt b m)
        rw [cmp_dgt hox hoy (fun j hj => hz j hj) he'] at hc
        simp only [h2, he, go_sem, Int.reduceNegSucc, Nat.reduceAdd, Nat.reduceSub, Nat.reduceMul, Nat.reduceEqDiff, Nat.reduceLeDiff, Nat.reduceLT, Nat.reduceBEq, Nat.reduceBNe, reduceIte, reduceCtorEq, Int.reduceToNat, Int.reduceAdd, Int.reduceSub, Int.reduceMul, Int.reduceNeg, Int.reduceLT, Int.reduceLE, Int.reduceEq, Int.reduceNe, ints, ic, mb20, pw20, fd20]
        refine DrawP_of 10 (by decide +kernel) ?_
        simp only [h2, List.getElem?_map, hx, hy, go_sem, Int.reduceNegSucc, Nat.reduceAdd, Nat.reduceSub, Nat.reduceMul, Nat.reduceEqDiff, Nat.reduceLeDiff, Nat.reduceLT, Nat.reduceBEq, Nat.reduceBNe, reduceIte, reduceCtorEq, Int.reduceToNat, Int.reduceAdd, Int.reduceSub, Int.reduceMul, Int.reduceNeg, Int.reduceLT, Int.reduceLE, Int.reduceEq, Int.reduceNe, ints, ic, mb20, pw20, fd20]
        refine CallD_eq hc (by decide) ?_
        simp only [go_sem, Int.reduceNegSucc, Nat.reduceAdd, Nat.reduceSub, Nat.reduceMul, Nat.reduceEqDiff, Nat.reduceLeDiff, Nat.reduceLT, Nat.reduceBEq, Nat.reduceBNe, reduceIte, reduceCtorEq, Int.reduceToNat, Int.reduceAdd, Int.reduceSub, Int.reduceMul, Int.reduceNeg, Int.reduceLT, Int.reduceLE, Int.reduceEq, Int.reduceNe, ints, ic, mb20, pw20, fd20]
end Go.Proofs.Ytpnlfkaijdjhlab

namespace Go.Proofs.Ytpnlfkaijdjhlab
set_option linter.all false
open Go.Abs

/-- A list with a window put in at i. -/
def winL (U : List Int) (i : Nat) (X : List Int) : List Int := U.take i ++ X ++ U.drop (i + X.length)
theorem winL_len {U X : List Int} {i : Nat} (h : i + X.length ≤ U.length) : (winL U i X).length = U.length := by
  simp only [winL, List.length_append, List.length_take, List.length_drop]; omega
theorem winL_get {U X : List Int} {i k : Nat} (hi : i ≤ U.length) (hk : k < X.length) : (winL U i X)[i + k]? = some (dgt X k) := by
  have hl : (U.take i).length = i := by rw [List.length_take]; omega
  rw [winL, List.append_assoc, List.getElem?_append_right (by omega), hl, Nat.add_sub_cancel_left, List.getElem?_append_left hk]
  exact get_nat (by omega)
theorem winL_set {U X : List Int} {i k : Nat} {y : Int} (hi : i ≤ U.length) (hk : k < X.length) : (winL U i X).set (i + k) y = winL U i (X.set k y) := by
  have hl : (U.take i).length = i := by rw [List.length_take]; omega
  rw [winL, winL, List.length_set, List.append_assoc, List.append_assoc, List.set_append_right _ _ (by omega), hl, Nat.add_sub_cancel_left, List.set_append_left _ _ hk]
theorem winL_self {U : List Int} {i m : Nat} (h : i + m ≤ U.length) : winL U i ((U.drop i).take m) = U := by
  have hl : ((U.drop i).take m).length = m := by rw [List.length_take, List.length_drop]; omega
  rw [winL, hl, List.append_assoc, ← List.drop_drop, List.take_append_drop, List.take_append_drop]
theorem mul_step {out v : List Int} {k : Nat} {c n g V : Int} (hi : k < out.length) (h : val out - 1048576 ^ k * c = V - g * val (v.take k)) (hn : n = dgt out k - c - g * dgt v k) :
    val (out.set k (n % 1048576)) - 1048576 ^ (k + 1) * -(n / 1048576) = V - g * val (v.take (k + 1)) := by
  rw [val_set _ _ _ hi, val_take_succ, pow_step]
  generalize (1048576 : Int) ^ k = p at *
  have e0 := Int.emod_add_mul_ediv n 1048576
  have e : p * (n % 1048576 - dgt out k) - p * 1048576 * -(n / 1048576) = p * (n - dgt out k) := by
    rw [Int.mul_assoc, ← Int.mul_sub]
    congr 1
    omega
  have e2 : p * (n - dgt out k) = -(p * (g * dgt v k)) - p * c := by
    rw [hn, show dgt out k - c - g * dgt v k - dgt out k = -(g * dgt v k) - c by omega, Int.mul_sub, Int.mul_neg]
  have e3 : g * (val (v.take k) + p * dgt v k) = g * val (v.take k) + p * (g * dgt v k) := by rw [Int.mul_add, Int.mul_left_comm]
  rw [e3]
  omega
/-- Adding back, one digit, in place. -/
theorem back_step {out v : List Int} {k : Nat} {c n V : Int} (hi : k < out.length) (h : val out + 1048576 ^ k * c = V + val (v.take k)) (hn : n = c + dgt out k + dgt v k) :
    val (out.set k (n % 1048576)) + 1048576 ^ (k + 1) * (n / 1048576) = V + val (v.take (k + 1)) := by
  rw [val_set _ _ _ hi, val_take_succ, pow_step]
  generalize (1048576 : Int) ^ k = p at *
  have e0 := Int.emod_add_mul_ediv n 1048576
  have e : p * (n % 1048576 - dgt out k) + p * 1048576 * (n / 1048576) = p * (n - dgt out k) := by
    rw [Int.mul_assoc, ← Int.mul_add]
    congr 1
    omega
  have e2 : p * (n - dgt out k) = p * c + p * dgt v k := by
    rw [hn, show c + dgt out k + dgt v k - dgt out k = c + dgt v k by omega, Int.mul_add]
  omega
/-- The digit of the quotient that is settled on. -/
def settled (w v g : Int) : Int := if 0 ≤ w - g * v then g else g - 1
set_option maxRecDepth 100000 in
set_option maxHeartbeats 2000000 in
theorem t_settle (U W v : List Int) (i0 n : Nat) (g : Int) (hW : OkD W) (hv : OkD v) (lW : W.length = n + 1) (lv : v.length = n) (hU : i0 + (n + 1) ≤ U.length) (hU2 : U.length ≤ 10000000)
    (hg : 0 ≤ g ∧ g < 1048576) (hq : 0 ≤ val W - g * val v ∨ 0 ≤ val W - (g - 1) * val v) :
    CtrM G.P 90 [.osl 900 1 i0 (n + 1), .im (ints v), .im (.int g)] [(900, 1, (winL U i0 W).map ic)]
      (fun r Es new => r = .im (.int (settled (val W) (val v) g)) ∧ Es = [(winL U i0 (padD (n + 1) (val W - settled (val W) (val v) g * val v).toNat)).map ic] ∧ new = none) := by
  have hWl := val_lt hW
  have hv0 := val_nonneg hv
  have hgv : 0 ≤ g * val v := Int.mul_nonneg hg.1 hv0
  rw [lW] at hWl
  refine ctrm_go good _ _ [.tmp 6] Try.func90 rfl rfl (by decide +kernel) rfl rfl (by simp) ?_
  simp only [go_sem, Int.reduceNegSucc, Nat.reduceAdd, Nat.reduceSub, Nat.reduceMul, Nat.reduceEqDiff, Nat.reduceLeDiff, Nat.reduceLT, Nat.reduceBEq, Nat.reduceBNe, reduceIte, reduceCtorEq, Int.reduceToNat, Int.reduceAdd, Int.reduceSub, Int.reduceMul, Int.reduceNeg, Int.reduceLT, Int.reduceLE, Int.reduceEq, Int.reduceNe, ints, ic, mb20, pw20, fd20]
  refine LoopP_of [0, 1, 2, 7, 12, 13, 14] [900] (fun s : Nat × List Int × Int => ⟨[(0, .osl 900 1 i0 (n + 1)), (1, .im (.sl (v.map ic))), (2, .im (.int g)), (7, .im (.int s.2.2)), (12, .osl 900 1 i0 (n + 1)), (13, .im (.int ((n + 1 : Nat) : Int))), (14, .im (.int s.1))], [(900, 1, (winL U i0 s.2.1).map ic)], []⟩)
    (fun s => s.1 ≤ n + 1 ∧ s.2.1.length = n + 1 ∧ OkD s.2.1 ∧ 0 ≤ s.2.2 ∧ s.2.2 ≤ 1048576 ∧ val s.2.1 - 1048576 ^ s.1 * s.2.2 = val W - g * val (v.take s.1)) (fun s => n + 1 - s.1) (0, W, 0) ?_
    ⟨Nat.zero_le _, lW, hW, Int.le_refl _, by dsimp only; omega, by dsimp only; simp [val]⟩ ?_
  · simp only [Int.natCast_zero, go_sem, Int.reduceNegSucc, Nat.reduceAdd, Nat.reduceSub, Nat.reduceMul, Nat.reduceEqDiff, Nat.reduceLeDiff, Nat.reduceLT, Nat.reduceBEq, Nat.reduceBNe, reduceIte, reduceCtorEq, Int.reduceToNat, Int.reduceAdd, Int.reduceSub, Int.reduceMul, Int.reduceNeg, Int.reduceLT, Int.reduceLE, Int.reduceEq, Int.reduceNe, ints, ic, mb20, pw20, fd20]
  intro ⟨k, X, c⟩ ⟨hk, lX, hX, hc0, hc1, hinv⟩
  dsimp only at hk lX hX hc0 hc1 hinv
  by_cases hp : (k : Int) < ((n + 1 : Nat) : Int)
  case pos =>
    have hd : decide ((k : Int) < ((n + 1 : Nat) : Int)) = true := decide_eq_true hp
    have hdX := hX.dgt k
    have hdv := hv.dgt k
    have hmul := mul_lt_sq hg hdv
    have h1 := i64_ok (n := (k : Int) + 1) (by omega)
    have hy := winL_get (U := U) (X := X) (i := i0) (k := k) (by omega) (by omega)
    have w0 := i64_ok (n := g * dgt v k) (by omega)
    have w1 := i64_ok (n := dgt X k - c) (by omega)
    have w2 := i64_ok (n := dgt X k - c - g * dgt v k) (by omega)
    have hs := mul_step (by omega : k < X.length) hinv rfl
    generalize hN : dgt X k - c - g * dgt v k = t at *
    have a1 := and20 t
    have a2 := i64_ok (n := 0 - t / 1048576) (by omega)
    have hset : ((winL U i0 X).map ic).set (i0 + k) [.sc (.int .i64 (t % 1048576))] = (winL U i0 (X.set k (t % 1048576))).map ic := by
      rw [← winL_set (by omega) (by omega), List.map_set]; rfl
    have e0 : 0 - t / 1048576 = -(t / 1048576) := by omega
    rw [e0] at a2
    have fin : (0 ≤ -(t / 1048576) ∧ -(t / 1048576) ≤ 1048576) ∧ (X.set k (t % 1048576)).length = n + 1 ∧ OkD (X.set k (t % 1048576)) :=
      ⟨by omega, by rw [List.length_set]; exact lX, hX.set (by omega)⟩
    obtain ⟨f1, f2, f3⟩ := fin
    by_cases hbl : (k : Int) < v.length
    · have hd2 : decide ((k : Int) < v.length) = true := decide_eq_true hbl
      have hxb := get_nat hbl
      simp only [hd, hp, hd2, List.getElem?_map, hxb, hy, w0, w1, hN, w2, a1, a2, hset, e0, go_sem, Int.reduceNegSucc, Nat.reduceAdd, Nat.reduceSub, Nat.reduceMul, Nat.reduceEqDiff, Nat.reduceLeDiff, Nat.reduceLT, Nat.reduceBEq, Nat.reduceBNe, reduceIte, reduceCtorEq, Int.reduceToNat, Int.reduceAdd, Int.reduceSub, Int.reduceMul, Int.reduceNeg, Int.reduceLT, Int.reduceLE, Int.reduceEq, Int.reduceNe, ints, ic, mb20, pw20, fd20]
      refine RoundP_of (k + 1, X.set k (t % 1048576), -(t / 1048576)) ?_ ?_ ⟨?_, f2, f3, f1.1, f1.2, hs⟩
      · simp only [h1, Int.natCast_add, go_sem, Int.reduceNegSucc, Nat.reduceAdd, Nat.reduceSub, Nat.reduceMul, Nat.reduceEqDiff, Nat.reduceLeDiff, Nat.reduceLT, Nat.reduceBEq, Nat.reduceBNe, reduceIte, reduceCtorEq, Int.reduceToNat, Int.reduceAdd, Int.reduceSub, Int.reduceMul, Int.reduceNeg, Int.reduceLT, Int.reduceLE, Int.reduceEq, Int.reduceNe, ints, ic, mb20, pw20, fd20]
      · show n + 1 - (k + 1) < n + 1 - k; omega
      · show k + 1 ≤ n + 1; omega
    · have hd2 : decide ((k : Int) < v.length) = false := decide_eq_false hbl
      have hb0 : dgt v k = 0 := dgt_none (by omega)
      rw [hb0, Int.mul_zero, Int.sub_zero] at hN
      rw [hN] at w1
      simp only [hd, hp, hd2, List.getElem?_map, hy, hN, w1, a1, a2, hset, e0, go_sem, Int.reduceNegSucc, Nat.reduceAdd, Nat.reduceSub, Nat.reduceMul, Nat.reduceEqDiff, Nat.reduceLeDiff, Nat.reduceLT, Nat.reduceBEq, Nat.reduceBNe, reduceIte, reduceCtorEq, Int.reduceToNat, Int.reduceAdd, Int.reduceSub, Int.reduceMul, Int.reduceNeg, Int.reduceLT, Int.reduceLE, Int.reduceEq, Int.reduceNe, ints, ic, mb20, pw20, fd20]
      refine RoundP_of (k + 1, X.set k (t % 1048576), -(t / 1048576)) ?_ ?_ ⟨?_, f2, f3, f1.1, f1.2, hs⟩
      · simp only [h1, Int.natCast_add, go_sem, Int.reduceNegSucc, Nat.reduceAdd, Nat.reduceSub, Nat.reduceMul, Nat.reduceEqDiff, Nat.reduceLeDiff, Nat.reduceLT, Nat.reduceBEq, Nat.reduceBNe, reduceIte, reduceCtorEq, Int.reduceToNat, Int.reduceAdd, Int.reduceSub, Int.reduceMul, Int.reduceNeg, Int.reduceLT, Int.reduceLE, Int.reduceEq, Int.reduceNe, ints, ic, mb20, pw20, fd20]
      · show n + 1 - (k + 1) < n + 1 - k; omega
      · show k + 1 ≤ n + 1; omega
  case neg =>
    have hd : decide ((k : Int) < ((n + 1 : Nat) : Int)) = false := decide_eq_false hp
    have hkn : k = n + 1 := by omega
    subst hkn
    rw [val_take_all (l := v) (by omega)] at hinv
    have hXl := val_lt hX
    have hX0 := val_nonneg hX
    rw [lX] at hXl
    by_cases hc : c = 0
    · subst hc
      rw [Int.mul_zero, Int.sub_zero] at hinv
      have hset : settled (val W) (val v) g = g := if_pos (by omega)
      have hpad := pad_eq hX
      rw [lX, hinv] at hpad
      rw [hset]
      simp only [hd, ← hpad, eq_self, go_sem, Int.reduceNegSucc, Nat.reduceAdd, Nat.reduceSub, Nat.reduceMul, Nat.reduceEqDiff, Nat.reduceLeDiff, Nat.reduceLT, Nat.reduceBEq, Nat.reduceBNe, reduceIte, reduceCtorEq, Int.reduceToNat, Int.reduceAdd, Int.reduceSub, Int.reduceMul, Int.reduceNeg, Int.reduceLT, Int.reduceLE, Int.reduceEq, Int.reduceNe, ints, ic, mb20, pw20, fd20]
    · have hcd : decide (c = 0) = false := decide_eq_false hc
      have hP := pow_pos' (n + 1)
      have hcm : 1048576 ^ (n + 1) * 1 ≤ 1048576 ^ (n + 1) * c := Int.mul_le_mul_of_nonneg_left (by omega) (by omega)
      have hneg : ¬ 0 ≤ val W - g * val v := by omega
      have hset : settled (val W) (val v) g = g - 1 := if_neg hneg
      have hq' := hq.resolve_left hneg
      rw [hset]
      have wg := i64_ok (n := g - 1) (by omega)
      simp only [hd, hcd, go_sem, Int.reduceNegSucc, Nat.reduceAdd, Nat.reduceSub, Nat.reduceMul, Nat.reduceEqDiff, Nat.reduceLeDiff, Nat.reduceLT, Nat.reduceBEq, Nat.reduceBNe, reduceIte, reduceCtorEq, Int.reduceToNat, Int.reduceAdd, Int.reduceSub, Int.reduceMul, Int.reduceNeg, Int.reduceLT, Int.reduceLE, Int.reduceEq, Int.reduceNe, ints, ic, mb20, pw20, fd20]
      refine LoopP_of [0, 1, 2, 10, 47, 48, 49] [900] (fun s : Nat × List Int × Int => ⟨[(0, .osl 900 1 i0 (n + 1)), (1, .im (.sl (v.map ic))), (2, .im (.int g)), (10, .im (.int s.2.2)), (47, .osl 900 1 i0 (n + 1)), (48, .im (.int ((n + 1 : Nat) : Int))), (49, .im (.int s.1))], [(900, 1, (winL U i0 s.2.1).map ic)], []⟩)
        (fun s => s.1 ≤ n + 1 ∧ s.2.1.length = n + 1 ∧ OkD s.2.1 ∧ 0 ≤ s.2.2 ∧ s.2.2 ≤ 1 ∧ val s.2.1 + 1048576 ^ s.1 * s.2.2 = val X + val (v.take s.1)) (fun s => n + 1 - s.1) (0, X, 0) ?_
        ⟨Nat.zero_le _, lX, hX, Int.le_refl _, by dsimp only; omega, by dsimp only; simp [val]⟩ ?_
      · simp only [Int.natCast_zero, go_sem, Int.reduceNegSucc, Nat.reduceAdd, Nat.reduceSub, Nat.reduceMul, Nat.reduceEqDiff, Nat.reduceLeDiff, Nat.reduceLT, Nat.reduceBEq, Nat.reduceBNe, reduceIte, reduceCtorEq, Int.reduceToNat, Int.reduceAdd, Int.reduceSub, Int.reduceMul, Int.reduceNeg, Int.reduceLT, Int.reduceLE, Int.reduceEq, Int.reduceNe, ints, ic, mb20, pw20, fd20]
      intro ⟨k, Y, e⟩ ⟨hk2, lY, hY, he0, he1, hinv2⟩
      dsimp only at hk2 lY hY he0 he1 hinv2
      by_cases hp2 : (k : Int) < ((n + 1 : Nat) : Int)
      case pos =>
        have hd3 : decide ((k : Int) < ((n + 1 : Nat) : Int)) = true := decide_eq_true hp2
        have hdY := hY.dgt k
        have hdv := hv.dgt k
        have h1 := i64_ok (n := (k : Int) + 1) (by omega)
        have hy := winL_get (U := U) (X := Y) (i := i0) (k := k) (by omega) (by omega)
        have w1 := i64_ok (n := e + dgt Y k) (by omega)
        have w2 := i64_ok (n := e + dgt Y k + dgt v k) (by omega)
        have hs := back_step (by omega : k < Y.length) hinv2 rfl
        generalize hN : e + dgt Y k + dgt v k = t at *
        have a1 := and20 t
        have hset2 : ((winL U i0 Y).map ic).set (i0 + k) [.sc (.int .i64 (t % 1048576))] = (winL U i0 (Y.set k (t % 1048576))).map ic := by
          rw [← winL_set (by omega) (by omega), List.map_set]; rfl
        have fin : (0 ≤ t / 1048576 ∧ t / 1048576 ≤ 1) ∧ (Y.set k (t % 1048576)).length = n + 1 ∧ OkD (Y.set k (t % 1048576)) :=
          ⟨by omega, by rw [List.length_set]; exact lY, hY.set (by omega)⟩
        obtain ⟨f1, f2, f3⟩ := fin
        by_cases hbl : (k : Int) < v.length
        · have hd2 : decide ((k : Int) < v.length) = true := decide_eq_true hbl
          have hxb := get_nat hbl
          simp only [hd3, hp2, hd2, List.getElem?_map, hxb, hy, w1, hN, w2, a1, hset2, go_sem, Int.reduceNegSucc, Nat.reduceAdd, Nat.reduceSub, Nat.reduceMul, Nat.reduceEqDiff, Nat.reduceLeDiff, Nat.reduceLT, Nat.reduceBEq, Nat.reduceBNe, reduceIte, reduceCtorEq, Int.reduceToNat, Int.reduceAdd, Int.reduceSub, Int.reduceMul, Int.reduceNeg, Int.reduceLT, Int.reduceLE, Int.reduceEq, Int.reduceNe, ints, ic, mb20, pw20, fd20]
          refine RoundP_of (k + 1, Y.set k (t % 1048576), t / 1048576) ?_ ?_ ⟨?_, f2, f3, f1.1, f1.2, hs⟩
          · simp only [h1, Int.natCast_add, go_sem, Int.reduceNegSucc, Nat.reduceAdd, Nat.reduceSub, Nat.reduceMul, Nat.reduceEqDiff, Nat.reduceLeDiff, Nat.reduceLT, Nat.reduceBEq, Nat.reduceBNe, reduceIte, reduceCtorEq, Int.reduceToNat, Int.reduceAdd, Int.reduceSub, Int.reduceMul, Int.reduceNeg, Int.reduceLT, Int.reduceLE, Int.reduceEq, Int.reduceNe, ints, ic, mb20, pw20, fd20]
          · show n + 1 - (k + 1) < n + 1 - k; omega
          · show k + 1 ≤ n + 1; omega
        · have hd2 : decide ((k : Int) < v.length) = false := decide_eq_false hbl
          have hb0 : dgt v k = 0 := dgt_none (by omega)
          rw [hb0, Int.add_zero] at hN
          rw [hN] at w1
          simp only [hd3, hp2, hd2, List.getElem?_map, hy, hN, w1, a1, hset2, go_sem, Int.reduceNegSucc, Nat.reduceAdd, Nat.reduceSub, Nat.reduceMul, Nat.reduceEqDiff, Nat.reduceLeDiff, Nat.reduceLT, Nat.reduceBEq, Nat.reduceBNe, reduceIte, reduceCtorEq, Int.reduceToNat, Int.reduceAdd, Int.reduceSub, Int.reduceMul, Int.reduceNeg, Int.reduceLT, Int.reduceLE, Int.reduceEq, Int.reduceNe, ints, ic, mb20, pw20, fd20]
          refine RoundP_of (k + 1, Y.set k (t % 1048576), t / 1048576) ?_ ?_ ⟨?_, f2, f3, f1.1, f1.2, hs⟩
          · simp only [h1, Int.natCast_add, go_sem, Int.reduceNegSucc, Nat.reduceAdd, Nat.reduceSub, Nat.reduceMul, Nat.reduceEqDiff, Nat.reduceLeDiff, Nat.reduceLT, Nat.reduceBEq, Nat.reduceBNe, reduceIte, reduceCtorEq, Int.reduceToNat, Int.reduceAdd, Int.reduceSub, Int.reduceMul, Int.reduceNeg, Int.reduceLT, Int.reduceLE, Int.reduceEq, Int.reduceNe, ints, ic, mb20, pw20, fd20]
          · show n + 1 - (k + 1) < n + 1 - k; omega
          · show k + 1 ≤ n + 1; omega
      case neg =>
        have hd3 : decide ((k : Int) < ((n + 1 : Nat) : Int)) = false := decide_eq_false hp2
        have hkn : k = n + 1 := by omega
        subst hkn
        rw [val_take_all (l := v) (by omega)] at hinv2
        have hYl := val_lt hY
        have hY0 := val_nonneg hY
        rw [lY] at hYl
        have hYv : val Y = val W - (g - 1) * val v := by
          have e1 : (g - 1) * val v = g * val v - val v := by rw [Int.sub_mul]; omega
          rw [e1] at hq' ⊢
          have e2 : 1048576 ^ (n + 1) * (c - e) = 1048576 ^ (n + 1) * c - 1048576 ^ (n + 1) * e := Int.mul_sub ..
          have hce : c - e = 0 := by
            rcases Int.lt_trichotomy (c - e) 0 with h | h | h
            · have : 1048576 ^ (n + 1) * (c - e) ≤ 1048576 ^ (n + 1) * (-1) := Int.mul_le_mul_of_nonneg_left (by omega) (by omega)
              omega
            · exact h
            · have : 1048576 ^ (n + 1) * 1 ≤ 1048576 ^ (n + 1) * (c - e) := Int.mul_le_mul_of_nonneg_left (by omega) (by omega)
              omega
          rw [hce, Int.mul_zero] at e2
          omega
        have hpad := pad_eq hY
        rw [lY, hYv] at hpad
        simp only [hd3, wg, ← hpad, eq_self, go_sem, Int.reduceNegSucc, Nat.reduceAdd, Nat.reduceSub, Nat.reduceMul, Nat.reduceEqDiff, Nat.reduceLeDiff, Nat.reduceLT, Nat.reduceBEq, Nat.reduceBNe, reduceIte, reduceCtorEq, Int.reduceToNat, Int.reduceAdd, Int.reduceSub, Int.reduceMul, Int.reduceNeg, Int.reduceLT, Int.reduceLE, Int.reduceEq, Int.reduceNe, ints, ic, mb20, pw20, fd20]
end Go.Proofs.Ytpnlfkaijdjhlab

namespace Go.Abs
set_option linter.all false

theorem ex2 (x y D : Int) : (x * 1048576 + y) * D = 1048576 * (x * D) + y * D := by
  rw [Int.add_mul, Int.mul_comm x, Int.mul_assoc]
theorem ex3 (g x y D z : Int) : g * ((x * 1048576 + y) * D + z) = 1048576 * (g * x * D) + g * y * D + g * z := by
  rw [ex2, Int.mul_add, Int.mul_add, Int.mul_left_comm g, ← Int.mul_assoc g, ← Int.mul_assoc g]
theorem knuth_first {g rest top v1 v2 w V W D Vl Wl : Int} (hD : 0 < D) (hV : V = (v1 * 1048576 + v2) * D + Vl) (hVl : 0 ≤ Vl) (hv2 : 0 ≤ v2) (hW : W = (top * 1048576 + w) * D + Wl) (hWl : Wl < D)
    (hw : w < 1048576) (hg : g * v1 + rest = top) (hr : rest < v1) (g0 : 0 ≤ g) : W < (g + 1) * V := by
  have h1 : 0 ≤ g * (v2 * D) := Int.mul_nonneg g0 (Int.mul_nonneg hv2 (by omega))
  have h1' : 0 ≤ g * Vl := Int.mul_nonneg g0 hVl
  have h1'' : 0 ≤ v2 * D := Int.mul_nonneg hv2 (by omega)
  have h2 : (top + 1) * D ≤ (g * v1 + v1) * D := Int.mul_le_mul_of_nonneg_right (by omega) (by omega)
  have h3 : w * D ≤ 1048575 * D := Int.mul_le_mul_of_nonneg_right (by omega) (by omega)
  have e : (g + 1) * V = g * V + V := by rw [Int.add_mul, Int.one_mul]
  rw [Int.add_mul, Int.add_mul, Int.one_mul] at h2
  rw [← Int.mul_assoc] at h1
  have e2 : g * V = 1048576 * (g * v1 * D) + g * v2 * D + g * Vl := by rw [hV, ex3]
  have e3 : V = 1048576 * (v1 * D) + v2 * D + Vl := by rw [hV, ex2]
  have e4 : W = 1048576 * (top * D) + w * D + Wl := by rw [hW, ex2]
  rw [e, e2, e3, e4]
  clear hV hW e e2 e3 e4
  omega
theorem knuth_down {g rest top v1 v2 w V W D Vl Wl : Int} (hD : 0 < D) (hV : V = (v1 * 1048576 + v2) * D + Vl) (hVl : 0 ≤ Vl) (hW : W = (top * 1048576 + w) * D + Wl) (hWl : Wl < D)
    (hg : g * v1 + rest = top) (g0 : 0 ≤ g) (h : rest * 1048576 + w < g * v2) : W < g * V := by
  have h1 : 0 ≤ g * Vl := Int.mul_nonneg g0 hVl
  have h2 : (rest * 1048576 + w + 1) * D ≤ (g * v2) * D := Int.mul_le_mul_of_nonneg_right (by omega) (by omega)
  have h3 : (g * v1 + rest) * D = top * D := by rw [hg]
  rw [Int.add_mul, ex2, Int.one_mul] at h2
  rw [Int.add_mul] at h3
  have e2 : g * V = 1048576 * (g * v1 * D) + g * v2 * D + g * Vl := by rw [hV, ex3]
  have e4 : W = 1048576 * (top * D) + w * D + Wl := by rw [hW, ex2]
  rw [e2, e4]
  clear hV hW e2 e4
  omega
theorem knuth_exit {g rest top v1 v2 w V W D Vl Wl : Int} (hD : 0 < D) (hV : V = (v1 * 1048576 + v2) * D + Vl) (hVl : Vl < D) (hW : W = (top * 1048576 + w) * D + Wl) (hWl : 0 ≤ Wl)
    (hg : g * v1 + rest = top) (g0 : 1 ≤ g) (g1 : g < 1048576) (hv1 : 1 ≤ v1) (hv2 : 0 ≤ v2 ∧ v2 < 1048576) (hw : 0 ≤ w) (h : 1048576 ≤ rest ∨ g * v2 ≤ rest * 1048576 + w) : (g - 1) * V ≤ W := by
  have h0 : g * v2 ≤ rest * 1048576 + w := by
    rcases h with h | h
    · have : g * v2 ≤ 1048575 * 1048575 := Int.mul_le_mul (by omega) (by omega) hv2.1 (by omega)
      omega
    · exact h
  have h1 : (g - 1) * Vl ≤ (g - 1) * D := Int.mul_le_mul_of_nonneg_left (by omega) (by omega)
  have h2 : (g * v2) * D ≤ (rest * 1048576 + w) * D := Int.mul_le_mul_of_nonneg_right h0 (by omega)
  have h3 : (g * v1 + rest) * D = top * D := by rw [hg]
  have h4 : (g - 1) * D ≤ (v1 * 1048576 + v2) * D := Int.mul_le_mul_of_nonneg_right (by omega) (by omega)
  rw [ex2] at h2
  rw [Int.add_mul] at h3
  rw [ex2] at h4
  have e : (g - 1) * V = g * V - V := by rw [Int.sub_mul, Int.one_mul]
  have e2 : g * V = 1048576 * (g * v1 * D) + g * v2 * D + g * Vl := by rw [hV, ex3]
  have e3 : V = 1048576 * (v1 * D) + v2 * D + Vl := by rw [hV, ex2]
  have e4 : W = 1048576 * (top * D) + w * D + Wl := by rw [hW, ex2]
  have e5 : (g - 1) * Vl = g * Vl - Vl := by rw [Int.sub_mul, Int.one_mul]
  have e6 : (g - 1) * D = g * D - D := by rw [Int.sub_mul, Int.one_mul]
  rw [e5, e6] at h1
  rw [e6] at h4
  rw [e, e2, e3, e4]
  clear hV hW e e2 e3 e4 e5 e6
  omega
/-- What is settled on is the quotient. -/
theorem settle_eq {g V W : Int} (hV : 0 < V) (h1 : W < (g + 1) * V) (h2 : 0 ≤ W - g * V ∨ 0 ≤ W - (g - 1) * V) :
    (if 0 ≤ W - g * V then g else g - 1) = W / V ∧ W - (if 0 ≤ W - g * V then g else g - 1) * V = W % V := by
  have key : ∀ q : Int, 0 ≤ W - q * V → W - q * V < V → q = W / V ∧ W - q * V = W % V := fun q hq0 hq1 => by
    have hq : W / V = q := by
      rw [show W = (W - q * V) + q * V by omega, Int.add_mul_ediv_right _ _ (by omega), Int.ediv_eq_zero_of_lt hq0 hq1, Int.zero_add]
    refine ⟨hq.symm, ?_⟩
    have := Int.emod_add_mul_ediv W V
    rw [hq, Int.mul_comm] at this
    omega
  have e1 : (g + 1) * V = g * V + V := by rw [Int.add_mul, Int.one_mul]
  have e2 : (g - 1) * V = g * V - V := by rw [Int.sub_mul, Int.one_mul]
  split
  · rename_i h
    exact key g h (by omega)
  · rename_i h
    exact key (g - 1) (h2.resolve_left h) (by omega)
end Go.Abs

namespace Go.Proofs.Ytpnlfkaijdjhlab
set_option linter.all false
open Go.Abs

theorem dgt_drop (l : List Int) (i j : Nat) : dgt (l.drop i) j = dgt l (i + j) := by unfold dgt; rw [List.getElem?_drop]
theorem dgt_take_lt {l : List Int} {n j : Nat} (h : j < n) : dgt (l.take n) j = dgt l j := by unfold dgt; rw [List.getElem?_take, if_pos h]
/-- The two digits at the top, and what is below. -/
theorem top_two {l : List Int} {n : Nat} (hl : OkD l) (hn : 2 ≤ n) (hlen : l.length = n) : ∃ Vl, val l = (dgt l (n - 1) * 1048576 + dgt l (n - 2)) * 1048576 ^ (n - 2) + Vl ∧ 0 ≤ Vl ∧ Vl < 1048576 ^ (n - 2) := by
  refine ⟨val (l.take (n - 2)), ?_, val_nonneg (hl.take _), val_take_lt hl _⟩
  have h1 := val_split l (n - 2)
  have h2 := val_drop l (n - 2)
  have h3 := val_drop l (n - 2 + 1)
  rw [show n - 2 + 1 = n - 1 by omega] at h2 h3
  rw [List.drop_of_length_le (by omega : l.length ≤ n - 1 + 1), show val [] = 0 from rfl, Int.mul_zero, Int.add_zero] at h3
  rw [h3] at h2
  rw [h2] at h1
  rw [h1, Int.mul_comm (1048576 ^ (n - 2))]
  have : dgt l (n - 2) + 1048576 * dgt l (n - 1) = dgt l (n - 1) * 1048576 + dgt l (n - 2) := by omega
  rw [this]; omega
theorem top_three {l : List Int} {n : Nat} (hl : OkD l) (hn : 2 ≤ n) (hlen : l.length = n + 1) : ∃ Wl, val l = ((dgt l n * 1048576 + dgt l (n - 1)) * 1048576 + dgt l (n - 2)) * 1048576 ^ (n - 2) + Wl ∧ 0 ≤ Wl ∧ Wl < 1048576 ^ (n - 2) := by
  refine ⟨val (l.take (n - 2)), ?_, val_nonneg (hl.take _), val_take_lt hl _⟩
  have h1 := val_split l (n - 2)
  have h2 := val_drop l (n - 2)
  have h3 := val_drop l (n - 2 + 1)
  rw [show n - 2 + 1 = n - 1 by omega] at h2 h3
  have h4 := val_drop l (n - 1 + 1)
  rw [show n - 1 + 1 = n by omega] at h3 h4
  rw [List.drop_of_length_le (by omega : l.length ≤ n + 1), show val [] = 0 from rfl, Int.mul_zero, Int.add_zero] at h4
  rw [h4] at h3
  rw [h3] at h2
  rw [h2] at h1
  rw [h1, Int.mul_comm (1048576 ^ (n - 2))]
  have : dgt l (n - 2) + 1048576 * (dgt l (n - 1) + 1048576 * dgt l n) = (dgt l n * 1048576 + dgt l (n - 1)) * 1048576 + dgt l (n - 2) := by omega
  rw [this]; omega
/-- The divisor, shifted so that its top digit is great. -/
theorem shifted {y s n : Nat} (hn : (dig y).length = n) (hn1 : 1 ≤ n) (h1 : 524288 ≤ dgt (dig y) (n - 1) * s) (h2 : (dgt (dig y) (n - 1) + 1) * s ≤ 1048576) :
    (dig (y * s)).length = n ∧ 524288 ≤ dgt (dig (y * s)) (n - 1) ∧ (524288 : Int) * 1048576 ^ (n - 1) ≤ ((y * s : Nat) : Int) := by
  have hv := val_dig y
  have ho := dig_ok y
  have hs := val_split (dig y) (n - 1)
  have hd := val_drop (dig y) (n - 1)
  rw [List.drop_of_length_le (by omega : (dig y).length ≤ n - 1 + 1), show val [] = 0 from rfl, Int.mul_zero, Int.add_zero] at hd
  rw [hd, hv] at hs
  have h3 := val_take_lt ho (n - 1)
  have h4 := val_nonneg (ho.take (n - 1))
  have hp := pow_pos' (n - 1)
  have hpn : (1048576 : Int) ^ n = 1048576 ^ (n - 1) * 1048576 := by rw [← pow_step, show n - 1 + 1 = n by omega]
  generalize dgt (dig y) (n - 1) = t at *
  generalize val ((dig y).take (n - 1)) = lo at *
  generalize hP : (1048576 : Int) ^ (n - 1) = P at *
  have hys : ((y * s : Nat) : Int) = lo * s + P * (t * s) := by rw [Int.natCast_mul, hs, Int.add_mul, Int.mul_assoc]
  have hs0 : (0 : Int) ≤ s := Int.natCast_nonneg s
  have e1 : 0 ≤ lo * s := Int.mul_nonneg h4 hs0
  have e2 : P * 524288 ≤ P * (t * s) := Int.mul_le_mul_of_nonneg_left h1 (by omega)
  have e3 : lo * s ≤ (P - 1) * s := Int.mul_le_mul_of_nonneg_right (by omega) hs0
  have e4 : (P - 1) * s = P * s - s := by rw [Int.sub_mul, Int.one_mul]
  have e5 : P * ((t + 1) * s) ≤ P * 1048576 := Int.mul_le_mul_of_nonneg_left h2 (by omega)
  have e6 : P * ((t + 1) * s) = P * (t * s) + P * s := by rw [Int.add_mul, Int.one_mul, Int.mul_add]
  have hspos : (1 : Int) ≤ s := by
    rcases Nat.eq_zero_or_pos s with h | h
    · subst h; simp at h1
    · omega
  have lo1 : (524288 : Int) * P ≤ ((y * s : Nat) : Int) := by rw [hys, Int.mul_comm 524288]; omega
  have hi1 : ((y * s : Nat) : Int) < 1048576 ^ n := by rw [hys, hpn]; omega
  have hle : (dig (y * s)).length ≤ n := dig_len_le hi1
  have hvv := val_dig (y * s)
  have hoo := dig_ok (y * s)
  have hlen : (dig (y * s)).length = n := by
    rcases Nat.lt_or_ge (dig (y * s)).length n with h | h
    · have g1 := val_take_lt hoo (n - 1)
      rw [val_take_all (by omega : (dig (y * s)).length ≤ n - 1), hvv, hP] at g1
      omega
    · omega
  refine ⟨hlen, ?_, lo1⟩
  have g1 := val_split (dig (y * s)) (n - 1)
  have g2 := val_drop (dig (y * s)) (n - 1)
  rw [List.drop_of_length_le (by omega : (dig (y * s)).length ≤ n - 1 + 1), show val [] = 0 from rfl, Int.mul_zero, Int.add_zero] at g2
  have g3 := val_take_lt hoo (n - 1)
  rw [g2, hvv, hP] at g1
  rw [hP] at g3
  generalize dgt (dig (y * s)) (n - 1) = t' at *
  rcases Int.lt_or_le t' 524288 with h | h
  · have : P * t' ≤ P * 524287 := Int.mul_le_mul_of_nonneg_left (by omega) (by omega)
    omega
  · exact h
end Go.Proofs.Ytpnlfkaijdjhlab
