/- A part of the proof: what functions of the program do, and the layer under it. No further condition. -/
import Derived.Test.YtpnlfkaijdjhlabKX13
import Derived.Test.YtpnlfkaijdjhlabKX12
namespace Go.Proofs.Ytpnlfkaijdjhlab
set_option linter.all false
open Go.Abs

def okd (d : Int) : Bool := !decide (d < 0) && !decide (1048576 ≤ d)
def rightF (s : Int) (l : List Int) : Bool :=
  l.all okd && (!decide (s < -1) && (!decide (1 < s) && ((decide ((l.length : Int) = 0) == decide (s = 0)) && (decide ((l.length : Int) = 0) || !decide (dgt l (l.length - 1) = 0)))))
theorem okd_iff {d : Int} : okd d = true ↔ 0 ≤ d ∧ d < 1048576 := by simp [okd]
theorem all_okd {l : List Int} : l.all okd = true ↔ OkD l := by
  rw [List.all_eq_true]
  exact ⟨fun h d hd => okd_iff.1 (h d hd), fun h d hd => okd_iff.2 (h d hd)⟩
theorem all_okd_succ {l : List Int} {i : Nat} (h : (i : Int) < l.length) : (l.take (i + 1)).all okd = ((l.take i).all okd && okd (dgt l i)) := by
  have hx := get_nat h
  rw [List.take_add_one, hx, List.all_append]; simp
set_option maxRecDepth 100000 in
set_option maxHeartbeats 1000000 in
theorem t_right (s : Int) (l : List Int) (hl : l.length ≤ 1000000000) : Ctr G.P 61 [.agg [.int s, ints l]] (· = .bool (rightF s l)) := by
  refine ctr_go good _ _ [.tmp 2] Try.func61 rfl rfl (by decide +kernel) rfl ?_
  simp only [go_sem, Int.reduceNegSucc, Nat.reduceAdd, Nat.reduceSub, Nat.reduceMul, Nat.reduceEqDiff, Nat.reduceLeDiff, Nat.reduceLT, Nat.reduceBEq, Nat.reduceBNe, reduceIte, reduceCtorEq, Int.reduceToNat, Int.reduceAdd, Int.reduceSub, Int.reduceMul, Int.reduceNeg, Int.reduceLT, Int.reduceLE, Int.reduceEq, Int.reduceNe, ints, ic]
  refine LoopP_of [1, 3] [1] (fun i : Nat => ⟨[(1, .loc 1 2 0 0), (3, .im (.int i))], [(1, 2, [[.int s, ints l]])], []⟩) (fun i => i ≤ l.length ∧ (l.take i).all okd = true) (fun i => l.length - i) 0 ?_ ⟨Nat.zero_le _, rfl⟩ ?_
  · simp only [Int.natCast_zero, go_sem, Int.reduceNegSucc, Nat.reduceAdd, Nat.reduceSub, Nat.reduceMul, Nat.reduceEqDiff, Nat.reduceLeDiff, Nat.reduceLT, Nat.reduceBEq, Nat.reduceBNe, reduceIte, reduceCtorEq, Int.reduceToNat, Int.reduceAdd, Int.reduceSub, Int.reduceMul, Int.reduceNeg, Int.reduceLT, Int.reduceLE, Int.reduceEq, Int.reduceNe, ints, ic]
  · intro i ⟨hi, ha⟩
    by_cases hp : (i : Int) < l.length
    · have hd : decide ((i : Int) < l.length) = true := decide_eq_true hp
      have hx := get_nat hp
      have h1 := i64_ok (n := (i : Int) + 1) (by omega)
      have hs := all_okd_succ hp
      have hno : okd (dgt l i) = false → rightF s l = false := fun h => by
        have : l.all okd = false := by
          rw [List.all_eq_false]; exact ⟨_, List.mem_of_getElem? hx, by simp [h]⟩
        simp [rightF, this]
      simp only [hd, List.getElem?_map, hx, go_sem, Int.reduceNegSucc, Nat.reduceAdd, Nat.reduceSub, Nat.reduceMul, Nat.reduceEqDiff, Nat.reduceLeDiff, Nat.reduceLT, Nat.reduceBEq, Nat.reduceBNe, reduceIte, reduceCtorEq, Int.reduceToNat, Int.reduceAdd, Int.reduceSub, Int.reduceMul, Int.reduceNeg, Int.reduceLT, Int.reduceLE, Int.reduceEq, Int.reduceNe, ints, ic]
      refine Two_of (fun d1 => ?_) (fun d1 => ?_)
      · rw [hno (by simp [okd, d1])]
        simp only [d1, go_sem, Int.reduceNegSucc, Nat.reduceAdd, Nat.reduceSub, Nat.reduceMul, Nat.reduceEqDiff, Nat.reduceLeDiff, Nat.reduceLT, Nat.reduceBEq, Nat.reduceBNe, reduceIte, reduceCtorEq, Int.reduceToNat, Int.reduceAdd, Int.reduceSub, Int.reduceMul, Int.reduceNeg, Int.reduceLT, Int.reduceLE, Int.reduceEq, Int.reduceNe, ints, ic]
      · simp only [d1, List.getElem?_map, hx, go_sem, Int.reduceNegSucc, Nat.reduceAdd, Nat.reduceSub, Nat.reduceMul, Nat.reduceEqDiff, Nat.reduceLeDiff, Nat.reduceLT, Nat.reduceBEq, Nat.reduceBNe, reduceIte, reduceCtorEq, Int.reduceToNat, Int.reduceAdd, Int.reduceSub, Int.reduceMul, Int.reduceNeg, Int.reduceLT, Int.reduceLE, Int.reduceEq, Int.reduceNe, ints, ic]
        refine Two_of (fun d2 => ?_) (fun d2 => ?_)
        · rw [hno (by simp only [okd, d1, d2]; rfl)]
          simp only [go_sem, Int.reduceNegSucc, Nat.reduceAdd, Nat.reduceSub, Nat.reduceMul, Nat.reduceEqDiff, Nat.reduceLeDiff, Nat.reduceLT, Nat.reduceBEq, Nat.reduceBNe, reduceIte, reduceCtorEq, Int.reduceToNat, Int.reduceAdd, Int.reduceSub, Int.reduceMul, Int.reduceNeg, Int.reduceLT, Int.reduceLE, Int.reduceEq, Int.reduceNe, ints, ic]
        · simp only [go_sem, Int.reduceNegSucc, Nat.reduceAdd, Nat.reduceSub, Nat.reduceMul, Nat.reduceEqDiff, Nat.reduceLeDiff, Nat.reduceLT, Nat.reduceBEq, Nat.reduceBNe, reduceIte, reduceCtorEq, Int.reduceToNat, Int.reduceAdd, Int.reduceSub, Int.reduceMul, Int.reduceNeg, Int.reduceLT, Int.reduceLE, Int.reduceEq, Int.reduceNe, ints, ic]
          refine RoundP_of (i + 1) ?_ (by omega) ⟨by omega, by rw [hs, ha]; simp only [okd, d1, d2]; rfl⟩
          simp only [h1, Int.natCast_add, go_sem, Int.reduceNegSucc, Nat.reduceAdd, Nat.reduceSub, Nat.reduceMul, Nat.reduceEqDiff, Nat.reduceLeDiff, Nat.reduceLT, Nat.reduceBEq, Nat.reduceBNe, reduceIte, reduceCtorEq, Int.reduceToNat, Int.reduceAdd, Int.reduceSub, Int.reduceMul, Int.reduceNeg, Int.reduceLT, Int.reduceLE, Int.reduceEq, Int.reduceNe, ints, ic]
    · have hd : decide ((i : Int) < l.length) = false := decide_eq_false hp
      rw [List.take_of_length_le (by omega)] at ha
      rw [rightF, ha, Bool.true_and]
      simp only [hd, go_sem, Int.reduceNegSucc, Nat.reduceAdd, Nat.reduceSub, Nat.reduceMul, Nat.reduceEqDiff, Nat.reduceLeDiff, Nat.reduceLT, Nat.reduceBEq, Nat.reduceBNe, reduceIte, reduceCtorEq, Int.reduceToNat, Int.reduceAdd, Int.reduceSub, Int.reduceMul, Int.reduceNeg, Int.reduceLT, Int.reduceLE, Int.reduceEq, Int.reduceNe, ints, ic]
      clear hd hp hi
      refine Two_of (fun d1 => ?_) (fun d1 => ?_)
      · simp only [d1, go_sem, Int.reduceNegSucc, Nat.reduceAdd, Nat.reduceSub, Nat.reduceMul, Nat.reduceEqDiff, Nat.reduceLeDiff, Nat.reduceLT, Nat.reduceBEq, Nat.reduceBNe, reduceIte, reduceCtorEq, Int.reduceToNat, Int.reduceAdd, Int.reduceSub, Int.reduceMul, Int.reduceNeg, Int.reduceLT, Int.reduceLE, Int.reduceEq, Int.reduceNe, ints, ic]
      · simp only [d1, go_sem, Int.reduceNegSucc, Nat.reduceAdd, Nat.reduceSub, Nat.reduceMul, Nat.reduceEqDiff, Nat.reduceLeDiff, Nat.reduceLT, Nat.reduceBEq, Nat.reduceBNe, reduceIte, reduceCtorEq, Int.reduceToNat, Int.reduceAdd, Int.reduceSub, Int.reduceMul, Int.reduceNeg, Int.reduceLT, Int.reduceLE, Int.reduceEq, Int.reduceNe, ints, ic]
        refine Two_of (fun d2 => ?_) (fun d2 => ?_)
        · simp only [d1, d2, go_sem, Int.reduceNegSucc, Nat.reduceAdd, Nat.reduceSub, Nat.reduceMul, Nat.reduceEqDiff, Nat.reduceLeDiff, Nat.reduceLT, Nat.reduceBEq, Nat.reduceBNe, reduceIte, reduceCtorEq, Int.reduceToNat, Int.reduceAdd, Int.reduceSub, Int.reduceMul, Int.reduceNeg, Int.reduceLT, Int.reduceLE, Int.reduceEq, Int.reduceNe, ints, ic]
        · by_cases h0 : l = []
          · subst h0
            simp only [d1, d2, Bool.true_beq, Int.natCast_zero, go_sem, Int.reduceNegSucc, Nat.reduceAdd, Nat.reduceSub, Nat.reduceMul, Nat.reduceEqDiff, Nat.reduceLeDiff, Nat.reduceLT, Nat.reduceBEq, Nat.reduceBNe, reduceIte, reduceCtorEq, Int.reduceToNat, Int.reduceAdd, Int.reduceSub, Int.reduceMul, Int.reduceNeg, Int.reduceLT, Int.reduceLE, Int.reduceEq, Int.reduceNe, ints, ic]
            refine Two_of (fun d3 => ?_) (fun d3 => ?_)
            · simp only [d1, d2, d3, Bool.true_beq, go_sem, Int.reduceNegSucc, Nat.reduceAdd, Nat.reduceSub, Nat.reduceMul, Nat.reduceEqDiff, Nat.reduceLeDiff, Nat.reduceLT, Nat.reduceBEq, Nat.reduceBNe, reduceIte, reduceCtorEq, Int.reduceToNat, Int.reduceAdd, Int.reduceSub, Int.reduceMul, Int.reduceNeg, Int.reduceLT, Int.reduceLE, Int.reduceEq, Int.reduceNe, ints, ic]
            · simp only [d1, d2, d3, Bool.true_beq, go_sem, Int.reduceNegSucc, Nat.reduceAdd, Nat.reduceSub, Nat.reduceMul, Nat.reduceEqDiff, Nat.reduceLeDiff, Nat.reduceLT, Nat.reduceBEq, Nat.reduceBNe, reduceIte, reduceCtorEq, Int.reduceToNat, Int.reduceAdd, Int.reduceSub, Int.reduceMul, Int.reduceNeg, Int.reduceLT, Int.reduceLE, Int.reduceEq, Int.reduceNe, ints, ic]
          · have hpos := List.length_pos_iff.2 h0
            have hz : decide ((l.length : Int) = 0) = false := decide_eq_false (by omega)
            have hlast : l[l.length - 1]? = some (dgt l (l.length - 1)) := get_nat (by omega)
            have hw := i64_ok (n := (l.length : Int) - 1) (by omega)
            have hn : ((l.length : Int) - 1).toNat = l.length - 1 := by omega
            have hn0 : (0 : Int) ≤ (l.length : Int) - 1 := by omega
            have hn1 : (l.length : Int) - 1 < l.length := by omega
            rw [hz]
            simp only [d1, d2, hz, Bool.false_beq, go_sem, Int.reduceNegSucc, Nat.reduceAdd, Nat.reduceSub, Nat.reduceMul, Nat.reduceEqDiff, Nat.reduceLeDiff, Nat.reduceLT, Nat.reduceBEq, Nat.reduceBNe, reduceIte, reduceCtorEq, Int.reduceToNat, Int.reduceAdd, Int.reduceSub, Int.reduceMul, Int.reduceNeg, Int.reduceLT, Int.reduceLE, Int.reduceEq, Int.reduceNe, ints, ic]
            refine Two_of (fun d3 => ?_) (fun d3 => ?_)
            · simp only [d1, d2, d3, hz, Bool.false_beq, go_sem, Int.reduceNegSucc, Nat.reduceAdd, Nat.reduceSub, Nat.reduceMul, Nat.reduceEqDiff, Nat.reduceLeDiff, Nat.reduceLT, Nat.reduceBEq, Nat.reduceBNe, reduceIte, reduceCtorEq, Int.reduceToNat, Int.reduceAdd, Int.reduceSub, Int.reduceMul, Int.reduceNeg, Int.reduceLT, Int.reduceLE, Int.reduceEq, Int.reduceNe, ints, ic]
            · simp only [d1, d2, d3, hz, hw, hn, hn0, hn1, List.getElem?_map, hlast, Bool.false_beq, go_sem, Int.reduceNegSucc, Nat.reduceAdd, Nat.reduceSub, Nat.reduceMul, Nat.reduceEqDiff, Nat.reduceLeDiff, Nat.reduceLT, Nat.reduceBEq, Nat.reduceBNe, reduceIte, reduceCtorEq, Int.reduceToNat, Int.reduceAdd, Int.reduceSub, Int.reduceMul, Int.reduceNeg, Int.reduceLT, Int.reduceLE, Int.reduceEq, Int.reduceNe, ints, ic]
end Go.Proofs.Ytpnlfkaijdjhlab

namespace Go.Proofs.Ytpnlfkaijdjhlab
set_option linter.all false
open Go.Abs

def big (z : Int) : IV := .agg [.int z.sign, ints (dig z.natAbs)]
theorem right_big (z : Int) : rightF z.sign (dig z.natAbs) = true := by
  have h1 : (dig z.natAbs).all okd = true := all_okd.2 (dig_ok _)
  have hs : -1 ≤ z.sign ∧ z.sign ≤ 1 := by
    rcases Int.lt_trichotomy z 0 with h | h | h
    · rw [Int.sign_eq_neg_one_of_neg h]; omega
    · subst h; decide
    · rw [Int.sign_eq_one_of_pos h]; omega
  have hz : (dig z.natAbs = []) ↔ z.sign = 0 := by
    rw [dig_nil, Int.sign_eq_zero_iff_zero]; omega
  simp only [rightF, h1, Bool.true_and, Bool.and_eq_true, Bool.not_eq_true', decide_eq_false_iff_not, beq_iff_eq, Bool.or_eq_true, decide_eq_true_eq]
  refine ⟨by omega, by omega, ?_, ?_⟩
  · rw [decide_eq_decide, ← hz]
    constructor
    · intro h; exact List.length_eq_zero_iff.1 (by omega)
    · intro h; rw [h]; rfl
  · by_cases h : dig z.natAbs = []
    · left; rw [h]; rfl
    · right
      intro h2
      have h3 := last_dig z.natAbs
      rw [List.getLast?_eq_getElem?] at h3
      have h4 := List.length_pos_iff.2 h
      have h5 := get_nat (l := dig z.natAbs) (i := (dig z.natAbs).length - 1) (by omega)
      rw [h5, h2] at h3
      exact h3 rfl
theorem sign_le (z : Int) : -1 ≤ z.sign ∧ z.sign ≤ 1 := by
  rcases Int.lt_trichotomy z 0 with h | h | h
  · rw [Int.sign_eq_neg_one_of_neg h]; omega
  · subst h; decide
  · rw [Int.sign_eq_one_of_pos h]; omega
theorem t_rightb (z : Int) (h : (dig z.natAbs).length ≤ 1000000) : Ctr G.P 61 [big z] (· = .bool true) := by
  have := t_right z.sign (dig z.natAbs) (by omega)
  rw [right_big] at this
  exact this
theorem t_madeb (s z : Int) (n : Nat) (hn : n = z.natAbs) (hs : z ≠ 0 → s = z.sign) (h : (dig z.natAbs).length ≤ 1000000) : Ctr G.P 79 [.int s, ints (dig n)] (· = big z) := by
  subst hn
  have := t_made s (dig z.natAbs) (dig_ok _) h
  rw [val_dig] at this
  have e : (if (z.natAbs : Int) = 0 then 0 else s) = z.sign := by
    by_cases hz : z = 0
    · subst hz; rfl
    · rw [if_neg (by omega), hs hz]
  rw [e, Int.toNat_natCast] at this
  exact this
theorem len_mul {a b : Nat} {k m : Nat} (ha : (dig a).length ≤ k) (hb : (dig b).length ≤ m) : (dig (a * b)).length ≤ k + m := by
  refine dig_len_le ?_
  have h1 : (a : Int) < 1048576 ^ k := by
    have := val_lt (dig_ok a); rw [val_dig] at this
    exact Int.lt_of_lt_of_le this (by
      have h3 := Int.ofNat_le.2 (Nat.pow_le_pow_right (n := 1048576) (by omega) ha)
      rw [Int.natCast_pow, Int.natCast_pow] at h3; exact h3)
  have h2 : (b : Int) < 1048576 ^ m := by
    have := val_lt (dig_ok b); rw [val_dig] at this
    exact Int.lt_of_lt_of_le this (by
      have h3 := Int.ofNat_le.2 (Nat.pow_le_pow_right (n := 1048576) (by omega) hb)
      rw [Int.natCast_pow, Int.natCast_pow] at h3; exact h3)
  have g1 : a < 1048576 ^ k := Int.ofNat_lt.1 (by rw [Int.natCast_pow]; exact h1)
  have g2 : b < 1048576 ^ m := Int.ofNat_lt.1 (by rw [Int.natCast_pow]; exact h2)
  have g3 := Int.ofNat_lt.2 (Nat.mul_lt_mul'' g1 g2)
  rw [← Nat.pow_add, Int.natCast_pow] at g3
  exact g3
theorem t_neg (z : Int) (h : (dig z.natAbs).length ≤ 1000000) : Ctr G.P 78 [big z] (· = big (-z)) := by
  have rz := t_rightb z h
  have hm := t_madeb (0 - z.sign) (-z) z.natAbs (by rw [Int.natAbs_neg]) (fun _ => by rw [Int.sign_neg]; omega) (by rw [Int.natAbs_neg]; exact h)
  have w := i64_ok (n := 0 - z.sign) (by have := sign_le z; omega)
  refine ctr_go good _ _ [.cell 2 24] Try.func78 rfl rfl (by decide +kernel) rfl ?_
  simp only [go_sem, Int.reduceNegSucc, Nat.reduceAdd, Nat.reduceSub, Nat.reduceMul, Nat.reduceEqDiff, Nat.reduceLeDiff, Nat.reduceLT, Nat.reduceBEq, Nat.reduceBNe, reduceIte, reduceCtorEq, Int.reduceToNat, Int.reduceAdd, Int.reduceSub, Int.reduceMul, Int.reduceNeg, Int.reduceLT, Int.reduceLE, Int.reduceEq, Int.reduceNe, ints, ic, big]
  refine CallP_eq rz (by decide) ?_
  simp only [w, go_sem, Int.reduceNegSucc, Nat.reduceAdd, Nat.reduceSub, Nat.reduceMul, Nat.reduceEqDiff, Nat.reduceLeDiff, Nat.reduceLT, Nat.reduceBEq, Nat.reduceBNe, reduceIte, reduceCtorEq, Int.reduceToNat, Int.reduceAdd, Int.reduceSub, Int.reduceMul, Int.reduceNeg, Int.reduceLT, Int.reduceLE, Int.reduceEq, Int.reduceNe, ints, ic, big]
  refine CallP_eq hm (by decide) ?_
  simp only [go_sem, Int.reduceNegSucc, Nat.reduceAdd, Nat.reduceSub, Nat.reduceMul, Nat.reduceEqDiff, Nat.reduceLeDiff, Nat.reduceLT, Nat.reduceBEq, Nat.reduceBNe, reduceIte, reduceCtorEq, Int.reduceToNat, Int.reduceAdd, Int.reduceSub, Int.reduceMul, Int.reduceNeg, Int.reduceLT, Int.reduceLE, Int.reduceEq, Int.reduceNe, ints, ic, big]
end Go.Proofs.Ytpnlfkaijdjhlab

namespace Go.Proofs.Ytpnlfkaijdjhlab
set_option linter.all false
open Go.Abs

theorem take_same {l m : List Int} {i : Nat} (h : l.take i = m.take i) (hl : (i : Int) < l.length) (hm : (i : Int) < m.length) (hd : dgt l i = dgt m i) : l.take (i + 1) = m.take (i + 1) := by
  rw [List.take_add_one, List.take_add_one, h, get_nat hl, get_nat hm, hd]
theorem ne_of_dgt {l m : List Int} {i : Nat} (h : dgt l i ≠ dgt m i) : l ≠ m := fun e => h (by rw [e])
set_option maxRecDepth 100000 in
theorem t_same (s t : Int) (l m : List Int) (hl : l.length ≤ 1000000000) : Ctr G.P 83 [.agg [.int s, ints l], .agg [.int t, ints m]] (· = .bool (decide (s = t) && decide (l = m))) := by
  by_cases h1 : s = t
  · by_cases h2 : (l.length : Int) = m.length
    · have d1 : decide (s = t) = true := decide_eq_true h1
      have d2 : decide ((l.length : Int) = m.length) = true := decide_eq_true h2
      rw [d1, Bool.true_and]
      refine ctr_go good _ _ [.tmp 4] Try.func83 rfl rfl (by decide +kernel) rfl ?_
      simp only [d1, d2, go_sem, Int.reduceNegSucc, Nat.reduceAdd, Nat.reduceSub, Nat.reduceMul, Nat.reduceEqDiff, Nat.reduceLeDiff, Nat.reduceLT, Nat.reduceBEq, Nat.reduceBNe, reduceIte, reduceCtorEq, Int.reduceToNat, Int.reduceAdd, Int.reduceSub, Int.reduceMul, Int.reduceNeg, Int.reduceLT, Int.reduceLE, Int.reduceEq, Int.reduceNe, ints, ic, big]
      refine LoopP_of [2, 3, 5] [2, 3] (fun i : Nat => ⟨[(2, .loc 2 2 0 0), (3, .loc 3 2 0 0), (5, .im (.int i))], [(3, 2, [[.int t, ints m]]), (2, 2, [[.int s, ints l]])], []⟩) (fun i => i ≤ l.length ∧ l.take i = m.take i) (fun i => l.length - i) 0 ?_ ⟨Nat.zero_le _, rfl⟩ ?_
      · simp only [Int.natCast_zero, go_sem, Int.reduceNegSucc, Nat.reduceAdd, Nat.reduceSub, Nat.reduceMul, Nat.reduceEqDiff, Nat.reduceLeDiff, Nat.reduceLT, Nat.reduceBEq, Nat.reduceBNe, reduceIte, reduceCtorEq, Int.reduceToNat, Int.reduceAdd, Int.reduceSub, Int.reduceMul, Int.reduceNeg, Int.reduceLT, Int.reduceLE, Int.reduceEq, Int.reduceNe, ints, ic, big]
      · intro i ⟨hi, ha⟩
        by_cases hp : (i : Int) < l.length
        · have hp' : (i : Int) < m.length := by omega
          have hd : decide ((i : Int) < l.length) = true := decide_eq_true hp
          have hx := get_nat hp
          have hy := get_nat hp'
          have hw := i64_ok (n := (i : Int) + 1) (by omega)
          simp only [hd, go_sem, Int.reduceNegSucc, Nat.reduceAdd, Nat.reduceSub, Nat.reduceMul, Nat.reduceEqDiff, Nat.reduceLeDiff, Nat.reduceLT, Nat.reduceBEq, Nat.reduceBNe, reduceIte, reduceCtorEq, Int.reduceToNat, Int.reduceAdd, Int.reduceSub, Int.reduceMul, Int.reduceNeg, Int.reduceLT, Int.reduceLE, Int.reduceEq, Int.reduceNe, ints, ic, big]
          refine DrawP_of 11 (by decide +kernel) ?_
          simp only [hd, List.getElem?_map, hx, hy, go_sem, Int.reduceNegSucc, Nat.reduceAdd, Nat.reduceSub, Nat.reduceMul, Nat.reduceEqDiff, Nat.reduceLeDiff, Nat.reduceLT, Nat.reduceBEq, Nat.reduceBNe, reduceIte, reduceCtorEq, Int.reduceToNat, Int.reduceAdd, Int.reduceSub, Int.reduceMul, Int.reduceNeg, Int.reduceLT, Int.reduceLE, Int.reduceEq, Int.reduceNe, ints, ic, big]
          refine Two_dec (fun he he' => ?_) (fun he he' => ?_)
          · simp only [go_sem, Int.reduceNegSucc, Nat.reduceAdd, Nat.reduceSub, Nat.reduceMul, Nat.reduceEqDiff, Nat.reduceLeDiff, Nat.reduceLT, Nat.reduceBEq, Nat.reduceBNe, reduceIte, reduceCtorEq, Int.reduceToNat, Int.reduceAdd, Int.reduceSub, Int.reduceMul, Int.reduceNeg, Int.reduceLT, Int.reduceLE, Int.reduceEq, Int.reduceNe, ints, ic, big]
            refine RoundP_of (i + 1) ?_ (by omega) ⟨by omega, take_same ha hp hp' he'⟩
            simp only [hw, Int.natCast_add, go_sem, Int.reduceNegSucc, Nat.reduceAdd, Nat.reduceSub, Nat.reduceMul, Nat.reduceEqDiff, Nat.reduceLeDiff, Nat.reduceLT, Nat.reduceBEq, Nat.reduceBNe, reduceIte, reduceCtorEq, Int.reduceToNat, Int.reduceAdd, Int.reduceSub, Int.reduceMul, Int.reduceNeg, Int.reduceLT, Int.reduceLE, Int.reduceEq, Int.reduceNe, ints, ic, big]
          · have hf : decide (l = m) = false := decide_eq_false (ne_of_dgt he')
            rw [hf]
            simp only [go_sem, Int.reduceNegSucc, Nat.reduceAdd, Nat.reduceSub, Nat.reduceMul, Nat.reduceEqDiff, Nat.reduceLeDiff, Nat.reduceLT, Nat.reduceBEq, Nat.reduceBNe, reduceIte, reduceCtorEq, Int.reduceToNat, Int.reduceAdd, Int.reduceSub, Int.reduceMul, Int.reduceNeg, Int.reduceLT, Int.reduceLE, Int.reduceEq, Int.reduceNe, ints, ic, big]
        · have hd : decide ((i : Int) < l.length) = false := decide_eq_false hp
          have hf : decide (l = m) = true := decide_eq_true (by
            rw [List.take_of_length_le (by omega), List.take_of_length_le (by omega)] at ha; exact ha)
          rw [hf]
          simp only [hd, go_sem, Int.reduceNegSucc, Nat.reduceAdd, Nat.reduceSub, Nat.reduceMul, Nat.reduceEqDiff, Nat.reduceLeDiff, Nat.reduceLT, Nat.reduceBEq, Nat.reduceBNe, reduceIte, reduceCtorEq, Int.reduceToNat, Int.reduceAdd, Int.reduceSub, Int.reduceMul, Int.reduceNeg, Int.reduceLT, Int.reduceLE, Int.reduceEq, Int.reduceNe, ints, ic, big]
    · have d1 : decide (s = t) = true := decide_eq_true h1
      have d2 : decide ((l.length : Int) = m.length) = false := decide_eq_false h2
      have d3 : decide (l = m) = false := decide_eq_false fun e => h2 (by rw [e])
      rw [d3, Bool.and_false]
      refine ctr_go good _ _ [.tmp 4] Try.func83 rfl rfl (by decide +kernel) rfl ?_
      simp only [d1, d2, go_sem, Int.reduceNegSucc, Nat.reduceAdd, Nat.reduceSub, Nat.reduceMul, Nat.reduceEqDiff, Nat.reduceLeDiff, Nat.reduceLT, Nat.reduceBEq, Nat.reduceBNe, reduceIte, reduceCtorEq, Int.reduceToNat, Int.reduceAdd, Int.reduceSub, Int.reduceMul, Int.reduceNeg, Int.reduceLT, Int.reduceLE, Int.reduceEq, Int.reduceNe, ints, ic, big]
  · have d1 : decide (s = t) = false := decide_eq_false h1
    rw [d1, Bool.false_and]
    refine ctr_go good _ _ [.tmp 4] Try.func83 rfl rfl (by decide +kernel) rfl ?_
    simp only [d1, go_sem, Int.reduceNegSucc, Nat.reduceAdd, Nat.reduceSub, Nat.reduceMul, Nat.reduceEqDiff, Nat.reduceLeDiff, Nat.reduceLT, Nat.reduceBEq, Nat.reduceBNe, reduceIte, reduceCtorEq, Int.reduceToNat, Int.reduceAdd, Int.reduceSub, Int.reduceMul, Int.reduceNeg, Int.reduceLT, Int.reduceLE, Int.reduceEq, Int.reduceNe, ints, ic, big]
theorem dig_inj {a b : Nat} (h : dig a = dig b) : a = b := by
  have h1 := val_dig a
  rw [h, val_dig] at h1
  omega
theorem big_inj {a b : Int} : (decide (a.sign = b.sign) && decide (dig a.natAbs = dig b.natAbs)) = decide (a = b) := by
  rw [Bool.eq_iff_iff]
  simp only [Bool.and_eq_true, decide_eq_true_eq]
  constructor
  · intro ⟨h1, h2⟩
    have h3 := dig_inj h2
    have h4 := Int.sign_mul_natAbs a
    have h5 := Int.sign_mul_natAbs b
    rw [← h4, ← h5, h1, h3]
  · intro h; subst h; exact ⟨rfl, rfl⟩
def cmpI (a b : Int) : Int := if a < b then -1 else if a = b then 0 else 1
theorem sign_lt {a b : Int} (h : a.sign < b.sign) : a < b := by
  rcases Int.lt_trichotomy a 0 with h1 | h1 | h1 <;> rcases Int.lt_trichotomy b 0 with h2 | h2 | h2 <;>
    simp [Int.sign_eq_neg_one_of_neg, Int.sign_eq_one_of_pos, *] at h <;> omega
theorem less_sign {a b : Int} (hs : a.sign = b.sign) (hne : a ≠ b) : (decide ((a.natAbs : Int) < b.natAbs) == decide (0 < a.sign)) = decide (a < b) := by
  rcases Int.lt_trichotomy a 0 with h1 | h1 | h1
  · have e := Int.sign_eq_neg_one_of_neg h1
    have h2 : b < 0 := by
      rcases Int.lt_trichotomy b 0 with h2 | h2 | h2
      · exact h2
      · subst h2; rw [e] at hs; cases hs
      · rw [e, Int.sign_eq_one_of_pos h2] at hs; omega
    rw [e, Bool.eq_iff_iff]
    simp
    omega
  · subst h1
    have : b = 0 := Int.sign_eq_zero_iff_zero.1 hs.symm
    exact absurd this.symm hne
  · have e := Int.sign_eq_one_of_pos h1
    have h2 : 0 < b := by
      rcases Int.lt_trichotomy b 0 with h2 | h2 | h2
      · rw [e, Int.sign_eq_neg_one_of_neg h2] at hs; omega
      · subst h2; rw [e] at hs; cases hs
      · exact h2
    rw [e, Bool.eq_iff_iff]
    simp
    omega
set_option maxRecDepth 100000 in
theorem t_compare (a b : Int) (la : (dig a.natAbs).length ≤ 1000000) (lb : (dig b.natAbs).length ≤ 1000000) : Ctr G.P 63 [big a, big b] (· = .int (cmpI a b)) := by
  have ra := t_rightb a (by omega)
  have rb := t_rightb b (by omega)
  have hs := t_same a.sign b.sign (dig a.natAbs) (dig b.natAbs) (by omega)
  rw [big_inj] at hs
  have hl := t_less (dig a.natAbs) (dig b.natAbs) (dig_ok _) (dig_ok _) la lb
  rw [val_dig, val_dig] at hl
  by_cases hab : a = b
  · have d : decide (a = b) = true := decide_eq_true hab
    rw [d] at hs
    have hc : cmpI a b = 0 := by rw [cmpI, if_neg (by omega), if_pos hab]
    rw [hc]
    refine ctr_go good _ _ [.tmp 4] Try.func63 rfl rfl (by decide +kernel) rfl ?_
    simp only [go_sem, Int.reduceNegSucc, Nat.reduceAdd, Nat.reduceSub, Nat.reduceMul, Nat.reduceEqDiff, Nat.reduceLeDiff, Nat.reduceLT, Nat.reduceBEq, Nat.reduceBNe, reduceIte, reduceCtorEq, Int.reduceToNat, Int.reduceAdd, Int.reduceSub, Int.reduceMul, Int.reduceNeg, Int.reduceLT, Int.reduceLE, Int.reduceEq, Int.reduceNe, ints, ic, big]
    refine CallP_eq ra (by decide) ?_
    simp only [go_sem, Int.reduceNegSucc, Nat.reduceAdd, Nat.reduceSub, Nat.reduceMul, Nat.reduceEqDiff, Nat.reduceLeDiff, Nat.reduceLT, Nat.reduceBEq, Nat.reduceBNe, reduceIte, reduceCtorEq, Int.reduceToNat, Int.reduceAdd, Int.reduceSub, Int.reduceMul, Int.reduceNeg, Int.reduceLT, Int.reduceLE, Int.reduceEq, Int.reduceNe, ints, ic, big]
    refine CallP_eq rb (by decide) ?_
    simp only [go_sem, Int.reduceNegSucc, Nat.reduceAdd, Nat.reduceSub, Nat.reduceMul, Nat.reduceEqDiff, Nat.reduceLeDiff, Nat.reduceLT, Nat.reduceBEq, Nat.reduceBNe, reduceIte, reduceCtorEq, Int.reduceToNat, Int.reduceAdd, Int.reduceSub, Int.reduceMul, Int.reduceNeg, Int.reduceLT, Int.reduceLE, Int.reduceEq, Int.reduceNe, ints, ic, big]
    refine CallP_eq hs (by decide) ?_
    simp only [go_sem, Int.reduceNegSucc, Nat.reduceAdd, Nat.reduceSub, Nat.reduceMul, Nat.reduceEqDiff, Nat.reduceLeDiff, Nat.reduceLT, Nat.reduceBEq, Nat.reduceBNe, reduceIte, reduceCtorEq, Int.reduceToNat, Int.reduceAdd, Int.reduceSub, Int.reduceMul, Int.reduceNeg, Int.reduceLT, Int.reduceLE, Int.reduceEq, Int.reduceNe, ints, ic, big]
  · have d : decide (a = b) = false := decide_eq_false hab
    rw [d] at hs
    have hc : cmpI a b = if a < b then -1 else 1 := by rw [cmpI, if_neg hab]
    rw [hc]
    by_cases hsg : a.sign = b.sign
    · have d1 : decide (a.sign = b.sign) = true := decide_eq_true hsg
      have hls := less_sign hsg hab
      refine ctr_go good _ _ [.tmp 4] Try.func63 rfl rfl (by decide +kernel) rfl ?_
      simp only [go_sem, Int.reduceNegSucc, Nat.reduceAdd, Nat.reduceSub, Nat.reduceMul, Nat.reduceEqDiff, Nat.reduceLeDiff, Nat.reduceLT, Nat.reduceBEq, Nat.reduceBNe, reduceIte, reduceCtorEq, Int.reduceToNat, Int.reduceAdd, Int.reduceSub, Int.reduceMul, Int.reduceNeg, Int.reduceLT, Int.reduceLE, Int.reduceEq, Int.reduceNe, ints, ic, big]
      refine CallP_eq ra (by decide) ?_
      simp only [go_sem, Int.reduceNegSucc, Nat.reduceAdd, Nat.reduceSub, Nat.reduceMul, Nat.reduceEqDiff, Nat.reduceLeDiff, Nat.reduceLT, Nat.reduceBEq, Nat.reduceBNe, reduceIte, reduceCtorEq, Int.reduceToNat, Int.reduceAdd, Int.reduceSub, Int.reduceMul, Int.reduceNeg, Int.reduceLT, Int.reduceLE, Int.reduceEq, Int.reduceNe, ints, ic, big]
      refine CallP_eq rb (by decide) ?_
      simp only [go_sem, Int.reduceNegSucc, Nat.reduceAdd, Nat.reduceSub, Nat.reduceMul, Nat.reduceEqDiff, Nat.reduceLeDiff, Nat.reduceLT, Nat.reduceBEq, Nat.reduceBNe, reduceIte, reduceCtorEq, Int.reduceToNat, Int.reduceAdd, Int.reduceSub, Int.reduceMul, Int.reduceNeg, Int.reduceLT, Int.reduceLE, Int.reduceEq, Int.reduceNe, ints, ic, big]
      refine CallP_eq hs (by decide) ?_
      simp only [d1, go_sem, Int.reduceNegSucc, Nat.reduceAdd, Nat.reduceSub, Nat.reduceMul, Nat.reduceEqDiff, Nat.reduceLeDiff, Nat.reduceLT, Nat.reduceBEq, Nat.reduceBNe, reduceIte, reduceCtorEq, Int.reduceToNat, Int.reduceAdd, Int.reduceSub, Int.reduceMul, Int.reduceNeg, Int.reduceLT, Int.reduceLE, Int.reduceEq, Int.reduceNe, ints, ic, big]
      refine DrawP_of 9 (by decide +kernel) ?_
      simp only [go_sem, Int.reduceNegSucc, Nat.reduceAdd, Nat.reduceSub, Nat.reduceMul, Nat.reduceEqDiff, Nat.reduceLeDiff, Nat.reduceLT, Nat.reduceBEq, Nat.reduceBNe, reduceIte, reduceCtorEq, Int.reduceToNat, Int.reduceAdd, Int.reduceSub, Int.reduceMul, Int.reduceNeg, Int.reduceLT, Int.reduceLE, Int.reduceEq, Int.reduceNe, ints, ic, big]
      refine CallD_eq hl (by decide) ?_
      simp only [hls, go_sem, Int.reduceNegSucc, Nat.reduceAdd, Nat.reduceSub, Nat.reduceMul, Nat.reduceEqDiff, Nat.reduceLeDiff, Nat.reduceLT, Nat.reduceBEq, Nat.reduceBNe, reduceIte, reduceCtorEq, Int.reduceToNat, Int.reduceAdd, Int.reduceSub, Int.reduceMul, Int.reduceNeg, Int.reduceLT, Int.reduceLE, Int.reduceEq, Int.reduceNe, ints, ic, big]
      refine Two_dec (fun he he' => ?_) (fun he he' => ?_)
      · simp only [he', go_sem, Int.reduceNegSucc, Nat.reduceAdd, Nat.reduceSub, Nat.reduceMul, Nat.reduceEqDiff, Nat.reduceLeDiff, Nat.reduceLT, Nat.reduceBEq, Nat.reduceBNe, reduceIte, reduceCtorEq, Int.reduceToNat, Int.reduceAdd, Int.reduceSub, Int.reduceMul, Int.reduceNeg, Int.reduceLT, Int.reduceLE, Int.reduceEq, Int.reduceNe, ints, ic, big]
      · simp only [he', go_sem, Int.reduceNegSucc, Nat.reduceAdd, Nat.reduceSub, Nat.reduceMul, Nat.reduceEqDiff, Nat.reduceLeDiff, Nat.reduceLT, Nat.reduceBEq, Nat.reduceBNe, reduceIte, reduceCtorEq, Int.reduceToNat, Int.reduceAdd, Int.reduceSub, Int.reduceMul, Int.reduceNeg, Int.reduceLT, Int.reduceLE, Int.reduceEq, Int.reduceNe, ints, ic, big]
    · have d1 : decide (a.sign = b.sign) = false := decide_eq_false hsg
      by_cases hlt : a.sign < b.sign
      · have d2 : decide (a.sign < b.sign) = true := decide_eq_true hlt
        rw [if_pos (sign_lt hlt)]
        refine ctr_go good _ _ [.tmp 4] Try.func63 rfl rfl (by decide +kernel) rfl ?_
        simp only [go_sem, Int.reduceNegSucc, Nat.reduceAdd, Nat.reduceSub, Nat.reduceMul, Nat.reduceEqDiff, Nat.reduceLeDiff, Nat.reduceLT, Nat.reduceBEq, Nat.reduceBNe, reduceIte, reduceCtorEq, Int.reduceToNat, Int.reduceAdd, Int.reduceSub, Int.reduceMul, Int.reduceNeg, Int.reduceLT, Int.reduceLE, Int.reduceEq, Int.reduceNe, ints, ic, big]
        refine CallP_eq ra (by decide) ?_
        simp only [go_sem, Int.reduceNegSucc, Nat.reduceAdd, Nat.reduceSub, Nat.reduceMul, Nat.reduceEqDiff, Nat.reduceLeDiff, Nat.reduceLT, Nat.reduceBEq, Nat.reduceBNe, reduceIte, reduceCtorEq, Int.reduceToNat, Int.reduceAdd, Int.reduceSub, Int.reduceMul, Int.reduceNeg, Int.reduceLT, Int.reduceLE, Int.reduceEq, Int.reduceNe, ints, ic, big]
        refine CallP_eq rb (by decide) ?_
        simp only [go_sem, Int.reduceNegSucc, Nat.reduceAdd, Nat.reduceSub, Nat.reduceMul, Nat.reduceEqDiff, Nat.reduceLeDiff, Nat.reduceLT, Nat.reduceBEq, Nat.reduceBNe, reduceIte, reduceCtorEq, Int.reduceToNat, Int.reduceAdd, Int.reduceSub, Int.reduceMul, Int.reduceNeg, Int.reduceLT, Int.reduceLE, Int.reduceEq, Int.reduceNe, ints, ic, big]
        refine CallP_eq hs (by decide) ?_
        simp only [d1, d2, go_sem, Int.reduceNegSucc, Nat.reduceAdd, Nat.reduceSub, Nat.reduceMul, Nat.reduceEqDiff, Nat.reduceLeDiff, Nat.reduceLT, Nat.reduceBEq, Nat.reduceBNe, reduceIte, reduceCtorEq, Int.reduceToNat, Int.reduceAdd, Int.reduceSub, Int.reduceMul, Int.reduceNeg, Int.reduceLT, Int.reduceLE, Int.reduceEq, Int.reduceNe, ints, ic, big]
      · have d2 : decide (a.sign < b.sign) = false := decide_eq_false hlt
        rw [if_neg (by have := sign_lt (a := b) (b := a) (by omega); omega)]
        refine ctr_go good _ _ [.tmp 4] Try.func63 rfl rfl (by decide +kernel) rfl ?_
        simp only [go_sem, Int.reduceNegSucc, Nat.reduceAdd, Nat.reduceSub, Nat.reduceMul, Nat.reduceEqDiff, Nat.reduceLeDiff, Nat.reduceLT, Nat.reduceBEq, Nat.reduceBNe, reduceIte, reduceCtorEq, Int.reduceToNat, Int.reduceAdd, Int.reduceSub, Int.reduceMul, Int.reduceNeg, Int.reduceLT, Int.reduceLE, Int.reduceEq, Int.reduceNe, ints, ic, big]
        refine CallP_eq ra (by decide) ?_
        simp only [go_sem, Int.reduceNegSucc, Nat.reduceAdd, Nat.reduceSub, Nat.reduceMul, Nat.reduceEqDiff, Nat.reduceLeDiff, Nat.reduceLT, Nat.reduceBEq, Nat.reduceBNe, reduceIte, reduceCtorEq, Int.reduceToNat, Int.reduceAdd, Int.reduceSub, Int.reduceMul, Int.reduceNeg, Int.reduceLT, Int.reduceLE, Int.reduceEq, Int.reduceNe, ints, ic, big]
        refine CallP_eq rb (by decide) ?_
        simp only [go_sem, Int.reduceNegSucc, Nat.reduceAdd, Nat.reduceSub, Nat.reduceMul, Nat.reduceEqDiff, Nat.reduceLeDiff, Nat.reduceLT, Nat.reduceBEq, Nat.reduceBNe, reduceIte, reduceCtorEq, Int.reduceToNat, Int.reduceAdd, Int.reduceSub, Int.reduceMul, Int.reduceNeg, Int.reduceLT, Int.reduceLE, Int.reduceEq, Int.reduceNe, ints, ic, big]
        refine CallP_eq hs (by decide) ?_
        simp only [d1, d2, go_sem, Int.reduceNegSucc, Nat.reduceAdd, Nat.reduceSub, Nat.reduceMul, Nat.reduceEqDiff, Nat.reduceLeDiff, Nat.reduceLT, Nat.reduceBEq, Nat.reduceBNe, reduceIte, reduceCtorEq, Int.reduceToNat, Int.reduceAdd, Int.reduceSub, Int.reduceMul, Int.reduceNeg, Int.reduceLT, Int.reduceLE, Int.reduceEq, Int.reduceNe, ints, ic, big]
end Go.Proofs.Ytpnlfkaijdjhlab

namespace Go.Proofs.Ytpnlfkaijdjhlab
set_option linter.all false
open Go.Abs

theorem or_sign {a b : Int} (h : a = 0 ∨ b = 0 ∨ a.sign = b.sign) : bits .or .i64 a.sign b.sign = (a + b).sign ∧ a.natAbs + b.natAbs = (a + b).natAbs := by
  rcases Int.lt_trichotomy a 0 with h1 | h1 | h1 <;> rcases Int.lt_trichotomy b 0 with h2 | h2 | h2
  · rw [Int.sign_eq_neg_one_of_neg h1, Int.sign_eq_neg_one_of_neg h2, Int.sign_eq_neg_one_of_neg (by omega)]
    exact ⟨by decide +kernel, by omega⟩
  · subst h2; rw [Int.sign_eq_neg_one_of_neg h1, Int.add_zero, Int.sign_eq_neg_one_of_neg h1]
    exact ⟨by decide +kernel, by omega⟩
  · rw [Int.sign_eq_neg_one_of_neg h1, Int.sign_eq_one_of_pos h2] at h; omega
  · subst h1; rw [Int.zero_add, Int.sign_eq_neg_one_of_neg h2]
    exact ⟨by decide +kernel, by omega⟩
  · subst h1; subst h2; exact ⟨by decide +kernel, rfl⟩
  · subst h1; rw [Int.zero_add, Int.sign_eq_one_of_pos h2]
    exact ⟨by decide +kernel, by omega⟩
  · rw [Int.sign_eq_one_of_pos h1, Int.sign_eq_neg_one_of_neg h2] at h; omega
  · subst h2; rw [Int.sign_eq_one_of_pos h1, Int.add_zero, Int.sign_eq_one_of_pos h1]
    exact ⟨by decide +kernel, by omega⟩
  · rw [Int.sign_eq_one_of_pos h1, Int.sign_eq_one_of_pos h2, Int.sign_eq_one_of_pos (by omega)]
    exact ⟨by decide +kernel, by omega⟩
theorem opp_sign {a b : Int} (h1 : ¬ a.sign = 0) (h2 : ¬ b.sign = 0) (h3 : ¬ a.sign = b.sign) :
    ((a.natAbs : Int) < b.natAbs → b.natAbs - a.natAbs = (a + b).natAbs ∧ b.sign = (a + b).sign) ∧ (¬ (a.natAbs : Int) < b.natAbs → a.natAbs - b.natAbs = (a + b).natAbs ∧ (a + b ≠ 0 → a.sign = (a + b).sign)) := by
  rcases Int.lt_trichotomy a 0 with g1 | g1 | g1
  · rcases Int.lt_trichotomy b 0 with g2 | g2 | g2
    · rw [Int.sign_eq_neg_one_of_neg g1, Int.sign_eq_neg_one_of_neg g2] at h3; exact absurd rfl h3
    · subst g2; exact absurd rfl h2
    · refine ⟨fun h => ⟨by omega, ?_⟩, fun h => ⟨by omega, fun h0 => ?_⟩⟩
      · rw [Int.sign_eq_one_of_pos g2, Int.sign_eq_one_of_pos (by omega)]
      · rw [Int.sign_eq_neg_one_of_neg g1, Int.sign_eq_neg_one_of_neg (by omega)]
  · subst g1; exact absurd rfl h1
  · rcases Int.lt_trichotomy b 0 with g2 | g2 | g2
    · refine ⟨fun h => ⟨by omega, ?_⟩, fun h => ⟨by omega, fun h0 => ?_⟩⟩
      · rw [Int.sign_eq_neg_one_of_neg g2, Int.sign_eq_neg_one_of_neg (by omega)]
      · rw [Int.sign_eq_one_of_pos g1, Int.sign_eq_one_of_pos (by omega)]
    · subst g2; exact absurd rfl h2
    · rw [Int.sign_eq_one_of_pos g1, Int.sign_eq_one_of_pos g2] at h3; exact absurd rfl h3
theorem val_lt_pow {n k : Nat} (h : (dig n).length ≤ k) : (n : Int) < 1048576 ^ k := by
  have := val_lt (dig_ok n); rw [val_dig] at this
  exact Int.lt_of_lt_of_le this (by
    have h3 := Int.ofNat_le.2 (Nat.pow_le_pow_right (n := 1048576) (by omega) h)
    rw [Int.natCast_pow, Int.natCast_pow] at h3; exact h3)
theorem len_add {n a b k : Nat} (ha : (dig a).length ≤ k) (hb : (dig b).length ≤ k) (h : n ≤ a + b) : (dig n).length ≤ k + 1 := by
  refine dig_len_le ?_
  have h1 := val_lt_pow ha
  have h2 := val_lt_pow hb
  rw [pow_step]
  omega
end Go.Proofs.Ytpnlfkaijdjhlab

namespace Go.Proofs.Ytpnlfkaijdjhlab
set_option linter.all false
open Go.Abs

set_option maxRecDepth 100000 in
set_option maxHeartbeats 2000000 in
theorem t_over (a b : List Int) (ha : OkD a) (hb : OkD b) (hb0 : 0 < val b) (la : a.length ≤ 100000) (lb : b.length ≤ 50000) :
    Ctr G.P 82 [ints a, ints b] (· = .tup [ints (dig (val a / val b).toNat), ints (dig (val a % val b).toNat)]) := by
  have hw := i64_ok (n := (a.length : Int) - 1) (by omega)
  have ht : ((a.length : Int)).toNat = a.length := by omega
  have hb8 : (a.length : Int) * 8 ≤ 140737488355328 := by omega
  have hbl := val_lt hb
  refine ctr_go good _ _ [.tmp 4, .tmp 5] Try.func82 rfl rfl (by decide +kernel) rfl ?_
  simp only [hw, ht, hb8, go_sem, Int.reduceNegSucc, Nat.reduceAdd, Nat.reduceSub, Nat.reduceMul, Nat.reduceEqDiff, Nat.reduceLeDiff, Nat.reduceLT, Nat.reduceBEq, Nat.reduceBNe, reduceIte, reduceCtorEq, Int.reduceToNat, Int.reduceAdd, Int.reduceSub, Int.reduceMul, Int.reduceNeg, Int.reduceLT, Int.reduceLE, Int.reduceEq, Int.reduceNe, ints, ic]
  refine LoopP_ofP [0, 1, 6, 7, 8] [14] [(7, 0, 0, 0)] (fun g : Nat × List Int × Nat => ⟨[(0, .im (.sl (a.map ic))), (1, .im (.sl (b.map ic))), (6, .gsl 14 3 1 a.length), (7, .im (.sl ((dig g.2.2).map ic))), (8, .im (.int ((g.1 : Int) - 1)))], [(14, 1, g.2.1.map ic)], []⟩)
    (fun g => g.1 ≤ a.length ∧ g.2.1.length = a.length ∧ OkD g.2.1 ∧ (g.2.2 : Int) < val b ∧ val (a.drop g.1) = val (g.2.1.drop g.1) * val b + g.2.2) (fun g => g.1) (a.length, List.replicate a.length 0, 0) ?_ ?_
    ⟨Nat.le_refl _, List.length_replicate, OkD.replicate _, hb0, by dsimp only; rw [List.drop_of_length_le (Nat.le_refl _), List.drop_of_length_le (by rw [List.length_replicate]; exact Nat.le_refl _)]; simp [val]⟩ ?_
  · simp only [go_sem, Int.reduceNegSucc, Nat.reduceAdd, Nat.reduceSub, Nat.reduceMul, Nat.reduceEqDiff, Nat.reduceLeDiff, Nat.reduceLT, Nat.reduceBEq, Nat.reduceBNe, reduceIte, reduceCtorEq, Int.reduceToNat, Int.reduceAdd, Int.reduceSub, Int.reduceMul, Int.reduceNeg, Int.reduceLT, Int.reduceLE, Int.reduceEq, Int.reduceNe, ints, ic]
  · simp only [dig_zero, List.map_nil, List.map_replicate, List.length_replicate, go_sem, Int.reduceNegSucc, Nat.reduceAdd, Nat.reduceSub, Nat.reduceMul, Nat.reduceEqDiff, Nat.reduceLeDiff, Nat.reduceLT, Nat.reduceBEq, Nat.reduceBNe, reduceIte, reduceCtorEq, Int.reduceToNat, Int.reduceAdd, Int.reduceSub, Int.reduceMul, Int.reduceNeg, Int.reduceLT, Int.reduceLE, Int.reduceEq, Int.reduceNe, ints, ic]
  · intro ⟨n, q, R⟩ ⟨hn, hl, hq, hR, hv⟩
    dsimp only at hn hl hq hR hv
    rcases n with _ | m
    · have hd : decide ((0 : Int) ≤ ((0 : Nat) : Int) - 1) = false := by decide
      rw [List.drop_zero, List.drop_zero] at hv
      obtain ⟨e1, e2⟩ := over_end hv (by omega) hR
      have htr := t_trim q hq (by omega)
      rw [e1] at htr
      have hRn : R = (val a % val b).toNat := by omega
      have hall : (q.map ic).take a.length = q.map ic := List.take_of_length_le (by rw [List.length_map]; omega)
      simp only [hd, hl, Nat.le_refl, hall, go_sem, Int.reduceNegSucc, Nat.reduceAdd, Nat.reduceSub, Nat.reduceMul, Nat.reduceEqDiff, Nat.reduceLeDiff, Nat.reduceLT, Nat.reduceBEq, Nat.reduceBNe, reduceIte, reduceCtorEq, Int.reduceToNat, Int.reduceAdd, Int.reduceSub, Int.reduceMul, Int.reduceNeg, Int.reduceLT, Int.reduceLE, Int.reduceEq, Int.reduceNe, ints, ic]
      refine CallP_eq htr (by decide) ?_
      simp only [hRn, go_sem, Int.reduceNegSucc, Nat.reduceAdd, Nat.reduceSub, Nat.reduceMul, Nat.reduceEqDiff, Nat.reduceLeDiff, Nat.reduceLT, Nat.reduceBEq, Nat.reduceBNe, reduceIte, reduceCtorEq, Int.reduceToNat, Int.reduceAdd, Int.reduceSub, Int.reduceMul, Int.reduceNeg, Int.reduceLT, Int.reduceLE, Int.reduceEq, Int.reduceNe, ints, ic]
    · have h2 : ((m + 1 : Nat) : Int) - 1 = m := by omega
      have hd : decide ((0 : Int) ≤ (m : Int)) = true := decide_eq_true (by omega)
      have hx := get_nat (l := a) (i := m) (by omega)
      have hmi : (m : Int) < a.length := by omega
      have had := ha.dgt m
      have hw3 := i64_ok (n := (m : Int) - 1) (by omega)
      have hlR : (dig R).length ≤ b.length := dig_len_le (by omega)
      have hok : OkD (dgt a m :: dig R) := OkD.cons had (dig_ok _)
      have htr := t_trim (dgt a m :: dig R) hok (by rw [List.length_cons]; omega)
      have hvr : val (dgt a m :: dig R) = dgt a m + 1048576 * R := by
        show dgt a m + 1048576 * val (dig R) = _
        rw [val_dig]
      rw [hvr] at htr
      obtain ⟨R', hR'⟩ : ∃ R' : Nat, (R' : Int) = dgt a m + 1048576 * R := ⟨(dgt a m + 1048576 * R).toNat, by omega⟩
      rw [← hR', Int.toNat_natCast] at htr
      have hRB : (R' : Int) < 1048576 * val b := by omega
      have hlR' : (dig R').length ≤ b.length + 1 := dig_len_le (by rw [pow_step]; omega)
      simp only [h2, hd, List.getElem?_map, hx, go_sem, Int.reduceNegSucc, Nat.reduceAdd, Nat.reduceSub, Nat.reduceMul, Nat.reduceEqDiff, Nat.reduceLeDiff, Nat.reduceLT, Nat.reduceBEq, Nat.reduceBNe, reduceIte, reduceCtorEq, Int.reduceToNat, Int.reduceAdd, Int.reduceSub, Int.reduceMul, Int.reduceNeg, Int.reduceLT, Int.reduceLE, Int.reduceEq, Int.reduceNe, ints, ic]
      refine ⟨by simp, ic_len _, by omega, ?_⟩
      refine CallP_eq htr (by decide) ?_
      simp only [go_sem, Int.reduceNegSucc, Nat.reduceAdd, Nat.reduceSub, Nat.reduceMul, Nat.reduceEqDiff, Nat.reduceLeDiff, Nat.reduceLT, Nat.reduceBEq, Nat.reduceBNe, reduceIte, reduceCtorEq, Int.reduceToNat, Int.reduceAdd, Int.reduceSub, Int.reduceMul, Int.reduceNeg, Int.reduceLT, Int.reduceLE, Int.reduceEq, Int.reduceNe, ints, ic]
      refine LoopP_of [0, 1, 6, 7, 8, 9, 10] [14] (fun g : Int × Int => ⟨[(0, .im (.sl (a.map ic))), (1, .im (.sl (b.map ic))), (6, .gsl 14 3 1 a.length), (7, .im (.sl ((dig R').map ic))), (8, .im (.int m)), (9, .im (.int g.1)), (10, .im (.int g.2))], [(14, 1, q.map ic)], []⟩)
        (fun g => 0 ≤ g.1 ∧ g.1 < g.2 ∧ g.2 ≤ 1048576 ∧ g.1 * val b ≤ R' ∧ (R' : Int) < g.2 * val b) (fun g => (g.2 - g.1).toNat) (0, 1048576) ?_ ⟨Int.le_refl _, by decide, Int.le_refl _, by dsimp only; omega, hRB⟩ ?_
      · simp only [h2, go_sem, Int.reduceNegSucc, Nat.reduceAdd, Nat.reduceSub, Nat.reduceMul, Nat.reduceEqDiff, Nat.reduceLeDiff, Nat.reduceLT, Nat.reduceBEq, Nat.reduceBNe, reduceIte, reduceCtorEq, Int.reduceToNat, Int.reduceAdd, Int.reduceSub, Int.reduceMul, Int.reduceNeg, Int.reduceLT, Int.reduceLE, Int.reduceEq, Int.reduceNe, ints, ic]
      · intro ⟨lo, hi⟩ ⟨g1, g2, g3, g4, g5⟩
        dsimp only at g1 g2 g3 g4 g5
        have w1 := i64_ok (n := hi - lo) (by omega)
        have w2 := i64_ok (n := lo + hi) (by omega)
        by_cases hp : 1 < hi - lo
        · have hdp : decide (1 < hi - lo) = true := decide_eq_true hp
          obtain ⟨mid, hmid⟩ : ∃ mid, mid = (lo + hi) / 2 := ⟨_, rfl⟩
          have hq2 : IntKind.i64.wrap ((lo + hi).tdiv 2) = mid := by
            rw [Int.tdiv_eq_ediv_of_nonneg (by omega), ← hmid]; exact i64_ok (by omega)
          have hmo : OkD [mid] := OkD.cons (by omega) OkD.nil
          have htm := t_times b [mid] hb hmo (by omega) (by simp)
          rw [val_one] at htm
          have hbm : 0 ≤ val b * mid := Int.mul_nonneg (by omega) (by omega)
          have hbm2 : val b * mid ≤ val b * 1048576 := Int.mul_le_mul_of_nonneg_left (by omega) (by omega)
          have hlm : (dig (val b * mid).toNat).length ≤ b.length + 1 := dig_len_le (by rw [pow_step]; omega)
          have hls := t_less (dig R') (dig (val b * mid).toNat) (dig_ok _) (dig_ok _) (by omega) (by omega)
          rw [val_dig, val_dig, Int.toNat_of_nonneg hbm] at hls
          simp only [ints, ic, List.map_cons, List.map_nil] at htm
          simp only [w1, w2, hdp, hq2, go_sem, Int.reduceNegSucc, Nat.reduceAdd, Nat.reduceSub, Nat.reduceMul, Nat.reduceEqDiff, Nat.reduceLeDiff, Nat.reduceLT, Nat.reduceBEq, Nat.reduceBNe, reduceIte, reduceCtorEq, Int.reduceToNat, Int.reduceAdd, Int.reduceSub, Int.reduceMul, Int.reduceNeg, Int.reduceLT, Int.reduceLE, Int.reduceEq, Int.reduceNe, ints, ic]
          refine CallP_eq htm (by decide) ?_
          simp only [go_sem, Int.reduceNegSucc, Nat.reduceAdd, Nat.reduceSub, Nat.reduceMul, Nat.reduceEqDiff, Nat.reduceLeDiff, Nat.reduceLT, Nat.reduceBEq, Nat.reduceBNe, reduceIte, reduceCtorEq, Int.reduceToNat, Int.reduceAdd, Int.reduceSub, Int.reduceMul, Int.reduceNeg, Int.reduceLT, Int.reduceLE, Int.reduceEq, Int.reduceNe, ints, ic]
          refine CallP_eq hls (by decide) ?_
          simp only [go_sem, Int.reduceNegSucc, Nat.reduceAdd, Nat.reduceSub, Nat.reduceMul, Nat.reduceEqDiff, Nat.reduceLeDiff, Nat.reduceLT, Nat.reduceBEq, Nat.reduceBNe, reduceIte, reduceCtorEq, Int.reduceToNat, Int.reduceAdd, Int.reduceSub, Int.reduceMul, Int.reduceNeg, Int.reduceLT, Int.reduceLE, Int.reduceEq, Int.reduceNe, ints, ic]
          refine Two_dec (fun he he' => ?_) (fun he he' => ?_)
          · simp only [go_sem, Int.reduceNegSucc, Nat.reduceAdd, Nat.reduceSub, Nat.reduceMul, Nat.reduceEqDiff, Nat.reduceLeDiff, Nat.reduceLT, Nat.reduceBEq, Nat.reduceBNe, reduceIte, reduceCtorEq, Int.reduceToNat, Int.reduceAdd, Int.reduceSub, Int.reduceMul, Int.reduceNeg, Int.reduceLT, Int.reduceLE, Int.reduceEq, Int.reduceNe, ints, ic]
            refine RoundP_of (lo, mid) ?_ (by dsimp only; omega) ⟨g1, by dsimp only; omega, by dsimp only; omega, g4, by dsimp only; rw [Int.mul_comm]; exact he'⟩
            simp only [go_sem, Int.reduceNegSucc, Nat.reduceAdd, Nat.reduceSub, Nat.reduceMul, Nat.reduceEqDiff, Nat.reduceLeDiff, Nat.reduceLT, Nat.reduceBEq, Nat.reduceBNe, reduceIte, reduceCtorEq, Int.reduceToNat, Int.reduceAdd, Int.reduceSub, Int.reduceMul, Int.reduceNeg, Int.reduceLT, Int.reduceLE, Int.reduceEq, Int.reduceNe, ints, ic]
          · simp only [go_sem, Int.reduceNegSucc, Nat.reduceAdd, Nat.reduceSub, Nat.reduceMul, Nat.reduceEqDiff, Nat.reduceLeDiff, Nat.reduceLT, Nat.reduceBEq, Nat.reduceBNe, reduceIte, reduceCtorEq, Int.reduceToNat, Int.reduceAdd, Int.reduceSub, Int.reduceMul, Int.reduceNeg, Int.reduceLT, Int.reduceLE, Int.reduceEq, Int.reduceNe, ints, ic]
            refine RoundP_of (mid, hi) ?_ (by dsimp only; omega) ⟨by dsimp only; omega, by dsimp only; omega, g3, by dsimp only; rw [Int.mul_comm]; omega, g5⟩
            simp only [go_sem, Int.reduceNegSucc, Nat.reduceAdd, Nat.reduceSub, Nat.reduceMul, Nat.reduceEqDiff, Nat.reduceLeDiff, Nat.reduceLT, Nat.reduceBEq, Nat.reduceBNe, reduceIte, reduceCtorEq, Int.reduceToNat, Int.reduceAdd, Int.reduceSub, Int.reduceMul, Int.reduceNeg, Int.reduceLT, Int.reduceLE, Int.reduceEq, Int.reduceNe, ints, ic]
        · have hdp : decide (1 < hi - lo) = false := decide_eq_false hp
          have hhi : hi = lo + 1 := by omega
          subst hhi
          rw [Int.add_mul, Int.one_mul] at g5
          have hlo : OkD [lo] := OkD.cons (by omega) OkD.nil
          have htl := t_trim [lo] hlo (by simp)
          rw [val_one] at htl
          have hll : (dig lo.toNat).length ≤ 1 := dig_len_le (by omega)
          have htm := t_times b (dig lo.toNat) hb (dig_ok _) (by omega) (by omega)
          rw [val_dig, Int.toNat_of_nonneg g1] at htm
          have hbl2 : 0 ≤ val b * lo := Int.mul_nonneg (by omega) g1
          have hcm := Int.mul_comm (val b) lo
          have hlm : (dig (val b * lo).toNat).length ≤ b.length + 1 := dig_len_le (by rw [pow_step]; omega)
          have hmn := t_minus (dig R') (dig (val b * lo).toNat) (dig_ok _) (dig_ok _) (by rw [val_dig, val_dig, Int.toNat_of_nonneg hbl2]; omega) (by omega) (by omega)
          rw [val_dig, val_dig, Int.toNat_of_nonneg hbl2] at hmn
          have hst := over_step (lo := lo) (by omega : m < q.length) hv
          simp only [ints, ic, List.map_cons, List.map_nil] at htl
          simp only [w1, hdp, hmi, go_sem, Int.reduceNegSucc, Nat.reduceAdd, Nat.reduceSub, Nat.reduceMul, Nat.reduceEqDiff, Nat.reduceLeDiff, Nat.reduceLT, Nat.reduceBEq, Nat.reduceBNe, reduceIte, reduceCtorEq, Int.reduceToNat, Int.reduceAdd, Int.reduceSub, Int.reduceMul, Int.reduceNeg, Int.reduceLT, Int.reduceLE, Int.reduceEq, Int.reduceNe, ints, ic]
          have hqx := get_nat (l := q) (i := m) (by omega)
          simp only [List.getElem?_map, hqx, ← List.map_set, hmi, go_sem, Int.reduceNegSucc, Nat.reduceAdd, Nat.reduceSub, Nat.reduceMul, Nat.reduceEqDiff, Nat.reduceLeDiff, Nat.reduceLT, Nat.reduceBEq, Nat.reduceBNe, reduceIte, reduceCtorEq, Int.reduceToNat, Int.reduceAdd, Int.reduceSub, Int.reduceMul, Int.reduceNeg, Int.reduceLT, Int.reduceLE, Int.reduceEq, Int.reduceNe, ints, ic]
          refine CallP_eq htl (by decide) ?_
          simp only [go_sem, Int.reduceNegSucc, Nat.reduceAdd, Nat.reduceSub, Nat.reduceMul, Nat.reduceEqDiff, Nat.reduceLeDiff, Nat.reduceLT, Nat.reduceBEq, Nat.reduceBNe, reduceIte, reduceCtorEq, Int.reduceToNat, Int.reduceAdd, Int.reduceSub, Int.reduceMul, Int.reduceNeg, Int.reduceLT, Int.reduceLE, Int.reduceEq, Int.reduceNe, ints, ic]
          refine CallP_eq htm (by decide) ?_
          simp only [go_sem, Int.reduceNegSucc, Nat.reduceAdd, Nat.reduceSub, Nat.reduceMul, Nat.reduceEqDiff, Nat.reduceLeDiff, Nat.reduceLT, Nat.reduceBEq, Nat.reduceBNe, reduceIte, reduceCtorEq, Int.reduceToNat, Int.reduceAdd, Int.reduceSub, Int.reduceMul, Int.reduceNeg, Int.reduceLT, Int.reduceLE, Int.reduceEq, Int.reduceNe, ints, ic]
          refine CallP_eq hmn (by decide) ?_
          simp only [go_sem, Int.reduceNegSucc, Nat.reduceAdd, Nat.reduceSub, Nat.reduceMul, Nat.reduceEqDiff, Nat.reduceLeDiff, Nat.reduceLT, Nat.reduceBEq, Nat.reduceBNe, reduceIte, reduceCtorEq, Int.reduceToNat, Int.reduceAdd, Int.reduceSub, Int.reduceMul, Int.reduceNeg, Int.reduceLT, Int.reduceLE, Int.reduceEq, Int.reduceNe, ints, ic]
          refine RoundP_of (m, q.set m lo, ((R' : Int) - val b * lo).toNat) ?_ (by dsimp only; omega) ⟨by dsimp only; omega, by dsimp only; rw [List.length_set]; exact hl, hq.set (by omega), by dsimp only; omega, ?_⟩
          · simp only [hw3, List.map_set, go_sem, Int.reduceNegSucc, Nat.reduceAdd, Nat.reduceSub, Nat.reduceMul, Nat.reduceEqDiff, Nat.reduceLeDiff, Nat.reduceLT, Nat.reduceBEq, Nat.reduceBNe, reduceIte, reduceCtorEq, Int.reduceToNat, Int.reduceAdd, Int.reduceSub, Int.reduceMul, Int.reduceNeg, Int.reduceLT, Int.reduceLE, Int.reduceEq, Int.reduceNe, ints, ic]
          · dsimp only
            rw [hst, Int.toNat_of_nonneg (by omega)]
            omega
end Go.Proofs.Ytpnlfkaijdjhlab

namespace Go.Proofs.Ytpnlfkaijdjhlab
set_option linter.all false
open Go.Abs

theorem len_mono {n m k : Nat} (h : n ≤ m) (hm : (dig m).length ≤ k) : (dig n).length ≤ k := dig_len_le (by have := val_lt_pow hm; omega)
theorem t_overn (x y : Nat) (hy : 0 < y) (lx : (dig x).length ≤ 100000) (ly : (dig y).length ≤ 50000) : Ctr G.P 82 [ints (dig x), ints (dig y)] (· = .tup [ints (dig (x / y)), ints (dig (x % y))]) := by
  have := t_over (dig x) (dig y) (dig_ok _) (dig_ok _) (by rw [val_dig]; omega) lx ly
  rw [val_dig, val_dig, ← Int.natCast_ediv, ← Int.natCast_emod, Int.toNat_natCast, Int.toNat_natCast] at this
  exact this
set_option maxRecDepth 100000 in
theorem t_gcd (a b : Int) (la : (dig a.natAbs).length ≤ 50000) (lb : (dig b.natAbs).length ≤ 50000) : Ctr G.P 62 [big a, big b] (· = .tup [big (Nat.gcd a.natAbs b.natAbs : Nat), .int 0]) := by
  have ra := t_rightb a (by omega)
  have rb := t_rightb b (by omega)
  refine ctr_go good _ _ [.cell 4 24, .tmp 5] Try.func62 rfl rfl (by decide +kernel) rfl ?_
  simp only [go_sem, Int.reduceNegSucc, Nat.reduceAdd, Nat.reduceSub, Nat.reduceMul, Nat.reduceEqDiff, Nat.reduceLeDiff, Nat.reduceLT, Nat.reduceBEq, Nat.reduceBNe, reduceIte, reduceCtorEq, Int.reduceToNat, Int.reduceAdd, Int.reduceSub, Int.reduceMul, Int.reduceNeg, Int.reduceLT, Int.reduceLE, Int.reduceEq, Int.reduceNe, ints, ic, big]
  refine CallP_eq ra (by decide) ?_
  simp only [go_sem, Int.reduceNegSucc, Nat.reduceAdd, Nat.reduceSub, Nat.reduceMul, Nat.reduceEqDiff, Nat.reduceLeDiff, Nat.reduceLT, Nat.reduceBEq, Nat.reduceBNe, reduceIte, reduceCtorEq, Int.reduceToNat, Int.reduceAdd, Int.reduceSub, Int.reduceMul, Int.reduceNeg, Int.reduceLT, Int.reduceLE, Int.reduceEq, Int.reduceNe, ints, ic, big]
  refine CallP_eq rb (by decide) ?_
  simp only [go_sem, Int.reduceNegSucc, Nat.reduceAdd, Nat.reduceSub, Nat.reduceMul, Nat.reduceEqDiff, Nat.reduceLeDiff, Nat.reduceLT, Nat.reduceBEq, Nat.reduceBNe, reduceIte, reduceCtorEq, Int.reduceToNat, Int.reduceAdd, Int.reduceSub, Int.reduceMul, Int.reduceNeg, Int.reduceLT, Int.reduceLE, Int.reduceEq, Int.reduceNe, ints, ic, big]
  refine LoopP_of [4, 6, 7] [4] (fun g : Nat × Nat => ⟨[(4, .loc 4 2 0 0), (6, .im (.sl ((dig g.1).map ic))), (7, .im (.sl ((dig g.2).map ic)))], [(4, 2, [[.int 0, .sl []]])], []⟩)
    (fun g => Nat.gcd g.1 g.2 = Nat.gcd a.natAbs b.natAbs ∧ (dig g.1).length ≤ 50000 ∧ (dig g.2).length ≤ 50000) (fun g => g.2) (a.natAbs, b.natAbs) ?_ ⟨rfl, la, lb⟩ ?_
  · simp only [go_sem, Int.reduceNegSucc, Nat.reduceAdd, Nat.reduceSub, Nat.reduceMul, Nat.reduceEqDiff, Nat.reduceLeDiff, Nat.reduceLT, Nat.reduceBEq, Nat.reduceBNe, reduceIte, reduceCtorEq, Int.reduceToNat, Int.reduceAdd, Int.reduceSub, Int.reduceMul, Int.reduceNeg, Int.reduceLT, Int.reduceLE, Int.reduceEq, Int.reduceNe, ints, ic, big]
  · intro ⟨x, y⟩ ⟨hg, lx, ly⟩
    dsimp only at hg lx ly
    by_cases hy : y = 0
    · subst hy
      rw [Nat.gcd_zero_right] at hg
      rw [← hg]
      have hm := t_madeb 1 x x (by omega) (fun h => (Int.sign_eq_one_of_pos (by omega)).symm) (by rw [Int.natAbs_natCast]; omega)
      simp only [dig_zero, List.map_nil, go_sem, Int.reduceNegSucc, Nat.reduceAdd, Nat.reduceSub, Nat.reduceMul, Nat.reduceEqDiff, Nat.reduceLeDiff, Nat.reduceLT, Nat.reduceBEq, Nat.reduceBNe, reduceIte, reduceCtorEq, Int.reduceToNat, Int.reduceAdd, Int.reduceSub, Int.reduceMul, Int.reduceNeg, Int.reduceLT, Int.reduceLE, Int.reduceEq, Int.reduceNe, ints, ic, big]
      refine CallP_eq hm (by decide) ?_
      simp only [go_sem, Int.reduceNegSucc, Nat.reduceAdd, Nat.reduceSub, Nat.reduceMul, Nat.reduceEqDiff, Nat.reduceLeDiff, Nat.reduceLT, Nat.reduceBEq, Nat.reduceBNe, reduceIte, reduceCtorEq, Int.reduceToNat, Int.reduceAdd, Int.reduceSub, Int.reduceMul, Int.reduceNeg, Int.reduceLT, Int.reduceLE, Int.reduceEq, Int.reduceNe, ints, ic, big]
    · have hne : dig y ≠ [] := fun h => hy (dig_nil.1 h)
      have hlp := List.length_pos_iff.2 hne
      have hd : decide (0 < ((dig y).length : Int)) = true := decide_eq_true (by omega)
      have ho := t_overn x y (by omega) (by omega) ly
      have hlt := Nat.mod_lt x (by omega : y > 0)
      simp only [hd, go_sem, Int.reduceNegSucc, Nat.reduceAdd, Nat.reduceSub, Nat.reduceMul, Nat.reduceEqDiff, Nat.reduceLeDiff, Nat.reduceLT, Nat.reduceBEq, Nat.reduceBNe, reduceIte, reduceCtorEq, Int.reduceToNat, Int.reduceAdd, Int.reduceSub, Int.reduceMul, Int.reduceNeg, Int.reduceLT, Int.reduceLE, Int.reduceEq, Int.reduceNe, ints, ic, big]
      refine CallP_eq ho (by decide) ?_
      simp only [go_sem, Int.reduceNegSucc, Nat.reduceAdd, Nat.reduceSub, Nat.reduceMul, Nat.reduceEqDiff, Nat.reduceLeDiff, Nat.reduceLT, Nat.reduceBEq, Nat.reduceBNe, reduceIte, reduceCtorEq, Int.reduceToNat, Int.reduceAdd, Int.reduceSub, Int.reduceMul, Int.reduceNeg, Int.reduceLT, Int.reduceLE, Int.reduceEq, Int.reduceNe, ints, ic, big]
      refine RoundP_of (y, x % y) ?_ hlt ⟨?_, ly, len_mono (by omega) ly⟩
      · simp only [go_sem, Int.reduceNegSucc, Nat.reduceAdd, Nat.reduceSub, Nat.reduceMul, Nat.reduceEqDiff, Nat.reduceLeDiff, Nat.reduceLT, Nat.reduceBEq, Nat.reduceBNe, reduceIte, reduceCtorEq, Int.reduceToNat, Int.reduceAdd, Int.reduceSub, Int.reduceMul, Int.reduceNeg, Int.reduceLT, Int.reduceLE, Int.reduceEq, Int.reduceNe, ints, ic, big]
      · show Nat.gcd y (x % y) = _
        rw [← hg, Nat.gcd_comm x y, Nat.gcd_rec y x, Nat.gcd_comm]
set_option maxRecDepth 100000 in
theorem t_div (a b : Int) (hb : b ≠ 0) (hd : b.natAbs ∣ a.natAbs) (la : (dig a.natAbs).length ≤ 50000) (lb : (dig b.natAbs).length ≤ 50000) : Ctr G.P 64 [big a, big b] (· = .tup [big (a / b), big 0, .int 0]) := by
  have ra := t_rightb a (by omega)
  have rb := t_rightb b (by omega)
  have hbs : decide (b.sign = 0) = false := decide_eq_false fun h => hb (Int.sign_eq_zero_iff_zero.1 h)
  have ho := t_overn a.natAbs b.natAbs (by omega) (by omega) lb
  have hmod : a.natAbs % b.natAbs = 0 := Nat.mod_eq_zero_of_dvd hd
  rw [hmod, dig_zero] at ho
  have hq : a.natAbs / b.natAbs = (a / b).natAbs := by
    rw [Int.natAbs_ediv_of_dvd (Int.natAbs_dvd_natAbs.1 hd)]
  have hql : (dig (a / b).natAbs).length ≤ 50000 := by rw [← hq]; exact len_mono (Nat.div_le_self _ _) la
  have hsg : a / b ≠ 0 → a.sign * b.sign = (a / b).sign := fun h => by
    obtain ⟨c, hc⟩ := Int.natAbs_dvd_natAbs.1 hd
    subst hc
    rw [Int.mul_ediv_cancel_left _ hb] at h ⊢
    rw [Int.sign_mul, Int.mul_comm, ← Int.mul_assoc]
    have : b.sign * b.sign = 1 := by
      rcases Int.lt_or_gt_of_ne hb with h1 | h1
      · rw [Int.sign_eq_neg_one_of_neg h1]; rfl
      · rw [Int.sign_eq_one_of_pos h1]; rfl
    rw [this, Int.one_mul]
  rw [hq] at ho
  have w := i64_ok (n := a.sign * b.sign) (by rw [← Int.sign_mul]; have := sign_le (a * b); omega)
  have hm := t_madeb (a.sign * b.sign) (a / b) (a / b).natAbs rfl hsg (by omega)
  have hm2 := t_madeb a.sign 0 0 rfl (fun h => absurd rfl h) (by rw [show (0 : Int).natAbs = 0 from rfl, dig_zero]; simp)
  rw [dig_zero] at hm2
  refine ctr_go good _ _ [.cell 4 24, .cell 5 24, .tmp 6] Try.func64 rfl rfl (by decide +kernel) rfl ?_
  simp only [go_sem, Int.reduceNegSucc, Nat.reduceAdd, Nat.reduceSub, Nat.reduceMul, Nat.reduceEqDiff, Nat.reduceLeDiff, Nat.reduceLT, Nat.reduceBEq, Nat.reduceBNe, reduceIte, reduceCtorEq, Int.reduceToNat, Int.reduceAdd, Int.reduceSub, Int.reduceMul, Int.reduceNeg, Int.reduceLT, Int.reduceLE, Int.reduceEq, Int.reduceNe, ints, ic, big]
  refine CallP_eq ra (by decide) ?_
  simp only [go_sem, Int.reduceNegSucc, Nat.reduceAdd, Nat.reduceSub, Nat.reduceMul, Nat.reduceEqDiff, Nat.reduceLeDiff, Nat.reduceLT, Nat.reduceBEq, Nat.reduceBNe, reduceIte, reduceCtorEq, Int.reduceToNat, Int.reduceAdd, Int.reduceSub, Int.reduceMul, Int.reduceNeg, Int.reduceLT, Int.reduceLE, Int.reduceEq, Int.reduceNe, ints, ic, big]
  refine CallP_eq rb (by decide) ?_
  simp only [hbs, go_sem, Int.reduceNegSucc, Nat.reduceAdd, Nat.reduceSub, Nat.reduceMul, Nat.reduceEqDiff, Nat.reduceLeDiff, Nat.reduceLT, Nat.reduceBEq, Nat.reduceBNe, reduceIte, reduceCtorEq, Int.reduceToNat, Int.reduceAdd, Int.reduceSub, Int.reduceMul, Int.reduceNeg, Int.reduceLT, Int.reduceLE, Int.reduceEq, Int.reduceNe, ints, ic, big]
  refine CallP_eq ho (by decide) ?_
  simp only [w, go_sem, Int.reduceNegSucc, Nat.reduceAdd, Nat.reduceSub, Nat.reduceMul, Nat.reduceEqDiff, Nat.reduceLeDiff, Nat.reduceLT, Nat.reduceBEq, Nat.reduceBNe, reduceIte, reduceCtorEq, Int.reduceToNat, Int.reduceAdd, Int.reduceSub, Int.reduceMul, Int.reduceNeg, Int.reduceLT, Int.reduceLE, Int.reduceEq, Int.reduceNe, ints, ic, big]
  refine Two_of (fun d => ?_) (fun d => ?_)
  · simp only [d, go_sem, Int.reduceNegSucc, Nat.reduceAdd, Nat.reduceSub, Nat.reduceMul, Nat.reduceEqDiff, Nat.reduceLeDiff, Nat.reduceLT, Nat.reduceBEq, Nat.reduceBNe, reduceIte, reduceCtorEq, Int.reduceToNat, Int.reduceAdd, Int.reduceSub, Int.reduceMul, Int.reduceNeg, Int.reduceLT, Int.reduceLE, Int.reduceEq, Int.reduceNe, ints, ic, big]
    refine DrawS_of (by decide +kernel) ?_
    simp only [w, go_sem, Int.reduceNegSucc, Nat.reduceAdd, Nat.reduceSub, Nat.reduceMul, Nat.reduceEqDiff, Nat.reduceLeDiff, Nat.reduceLT, Nat.reduceBEq, Nat.reduceBNe, reduceIte, reduceCtorEq, Int.reduceToNat, Int.reduceAdd, Int.reduceSub, Int.reduceMul, Int.reduceNeg, Int.reduceLT, Int.reduceLE, Int.reduceEq, Int.reduceNe, ints, ic, big]
    refine CallD_eq hm (by decide) ?_
    simp only [go_sem, Int.reduceNegSucc, Nat.reduceAdd, Nat.reduceSub, Nat.reduceMul, Nat.reduceEqDiff, Nat.reduceLeDiff, Nat.reduceLT, Nat.reduceBEq, Nat.reduceBNe, reduceIte, reduceCtorEq, Int.reduceToNat, Int.reduceAdd, Int.reduceSub, Int.reduceMul, Int.reduceNeg, Int.reduceLT, Int.reduceLE, Int.reduceEq, Int.reduceNe, ints, ic, big]
    refine CallD_eq hm2 (by decide) ?_
    simp only [go_sem, Int.reduceNegSucc, Nat.reduceAdd, Nat.reduceSub, Nat.reduceMul, Nat.reduceEqDiff, Nat.reduceLeDiff, Nat.reduceLT, Nat.reduceBEq, Nat.reduceBNe, reduceIte, reduceCtorEq, Int.reduceToNat, Int.reduceAdd, Int.reduceSub, Int.reduceMul, Int.reduceNeg, Int.reduceLT, Int.reduceLE, Int.reduceEq, Int.reduceNe, ints, ic, big]
  · simp only [d, List.map_nil, Int.natCast_zero, decide_true, go_sem, Int.reduceNegSucc, Nat.reduceAdd, Nat.reduceSub, Nat.reduceMul, Nat.reduceEqDiff, Nat.reduceLeDiff, Nat.reduceLT, Nat.reduceBEq, Nat.reduceBNe, reduceIte, reduceCtorEq, Int.reduceToNat, Int.reduceAdd, Int.reduceSub, Int.reduceMul, Int.reduceNeg, Int.reduceLT, Int.reduceLE, Int.reduceEq, Int.reduceNe, ints, ic, big]
    refine DrawS_of (by decide +kernel) ?_
    simp only [w, go_sem, Int.reduceNegSucc, Nat.reduceAdd, Nat.reduceSub, Nat.reduceMul, Nat.reduceEqDiff, Nat.reduceLeDiff, Nat.reduceLT, Nat.reduceBEq, Nat.reduceBNe, reduceIte, reduceCtorEq, Int.reduceToNat, Int.reduceAdd, Int.reduceSub, Int.reduceMul, Int.reduceNeg, Int.reduceLT, Int.reduceLE, Int.reduceEq, Int.reduceNe, ints, ic, big]
    refine CallD_eq hm (by decide) ?_
    simp only [go_sem, Int.reduceNegSucc, Nat.reduceAdd, Nat.reduceSub, Nat.reduceMul, Nat.reduceEqDiff, Nat.reduceLeDiff, Nat.reduceLT, Nat.reduceBEq, Nat.reduceBNe, reduceIte, reduceCtorEq, Int.reduceToNat, Int.reduceAdd, Int.reduceSub, Int.reduceMul, Int.reduceNeg, Int.reduceLT, Int.reduceLE, Int.reduceEq, Int.reduceNe, ints, ic, big]
    refine CallD_eq hm2 (by decide) ?_
    simp only [go_sem, Int.reduceNegSucc, Nat.reduceAdd, Nat.reduceSub, Nat.reduceMul, Nat.reduceEqDiff, Nat.reduceLeDiff, Nat.reduceLT, Nat.reduceBEq, Nat.reduceBNe, reduceIte, reduceCtorEq, Int.reduceToNat, Int.reduceAdd, Int.reduceSub, Int.reduceMul, Int.reduceNeg, Int.reduceLT, Int.reduceLE, Int.reduceEq, Int.reduceNe, ints, ic, big]
end Go.Proofs.Ytpnlfkaijdjhlab
